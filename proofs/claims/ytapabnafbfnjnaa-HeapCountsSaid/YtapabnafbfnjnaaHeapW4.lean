/- The functions of the heap laws, part W4. The walks are written by wip/gen/gw.py. -/
import Derived.Test.YtapabnafbfnjnaaHeap21
import Derived.Test.YtapabnafbfnjnaaHeap14
import Derived.Test.YtapabnafbfnjnaaHeapPT
import Derived.Test.YtapabnafbfnjnaaHeapFacts
import Derived.Test.YtapabnafbfnjnaaHeapPT
set_option linter.all false
namespace Go.Ab.Try
open Go Go.Ab Go.Proofs Go.Ab.Heap
theorem long_args {h : Hp} {l : List (List Int)} (e : longB h l = false) : (∀ r ∈ l, r.length ≤ 400) ∧ h.ground.length ≤ 50 := by
  unfold longB at e
  simp only [Bool.or_eq_false_iff, decide_eq_false_iff_not] at e
  refine ⟨fun r hr => ?_, by omega⟩
  have := List.any_eq_false.1 e.1.1.1 r hr
  simpa using this
theorem zeroR_len {h : Hp} : (zeroR h).1.length < 1000000 := by
  unfold zeroR
  split
  · simp
  · rename_i e
    have v5 := (vh_of (Classical.not_not.1 e)).n5
    have := last_len (h := h) (a := nil0 h)
    show (zeroL h).length < 1000000
    unfold zeroL; omega
theorem f4 (h : Hp) (hk : h.links.length ≤ 9223372036854775807) : ACallsF Try.prog 4 [dHp h] (.one (.dv (.bool true))) := by
  refine callsF_of Try.func4 rfl rfl (by rw [Try.ntmps4]; simp) fun cx hP hn hg => ?_
  rw [Try.ntmps4] at hn
  rw [startF_lk, none_mkM]
  simp only [List.nil_append, List.append_nil, List.cons_append, zipSV, Nat.reduceAdd]
  refine awp_seq ?_
  refine rg ?_
  refine qp m_box ?_
  refine qv m_as ?_
  show AWp cx _ _ _
  refine awp_seq ?_
  refine awp_seq ?_
  refine rg ?_
  refine qv (m_ldpa sz25 ag25) ?_
  refine qqF (f21 h [] (by simp) hk) ?_ (ha := (args_cons data_dv (args_cons .nils args_nil)))
  show AWp cx _ _ _
  refine cd (fun hc0 => ?_) (fun hc0 => ?_)
  · skip
    refine awp_seq ?_
    refine rg ?_
    refine qqF (f29) ?_
    refine qv m_as ?_
    show AWp cx _ _ _
    refine awp_ret ?_
    exact x1 (hr := (rB_))
  · skip
    have hlg : longB h [] = false := by simpa using hc0
    have hla := long_args hlg
    
    refine awp_skip ?_
    show AWp cx _ _ _
    refine awp_seq ?_
    refine rg ?_
    refine qv (m_ldpa sz25 ag25) ?_
    refine qqF (f30 h) ?_
    refine qv m_mv ?_
    refine qv m_ext ?_
    refine qv m_ext ?_
    refine qv m_as ?_
    refine qv m_as ?_
    show AWp cx _ _ _
    refine awp_seq ?_
    refine rg ?_
    refine qv (m_ldpa sz25 ag25) ?_
    refine qqF (f31 h) ?_
    refine qv m_mv ?_
    refine qv m_ext ?_
    refine qv m_ext ?_
    refine qv m_as ?_
    refine qv m_as ?_
    show AWp cx _ _ _
    refine awp_seq ?_
    refine rg ?_
    refine qv (m_ldpa sz25 ag25) ?_
    refine qqF (f32 h) ?_
    refine qv m_mv ?_
    refine qv m_ext ?_
    refine qv m_ext ?_
    refine qv m_as ?_
    refine qv m_as ?_
    show AWp cx _ _ _
    refine awp_seq ?_
    refine rg ?_
    refine qv (m_ldpa sz25 ag25) ?_
    refine qqF (f33 h) ?_
    refine qv m_mv ?_
    refine qv m_ext ?_
    refine qv m_ext ?_
    refine qv m_as ?_
    refine qv m_as ?_
    show AWp cx _ _ _
    refine awp_seq ?_
    refine rg ?_
    refine qv m_mv ?_
    refine qv m_mv ?_
    refine qv m_eql ?_
    refine qx m_mv (fun hg37 => ?_) (fun hg37 => ?_)
    rotate_left
    · exact absurd hg37 (by simp)
    refine qv m_mv ?_
    refine qv m_mv ?_
    refine qv m_eql ?_
    refine qv m_pk ?_
    refine qx m_mv (fun hg42 => ?_) (fun hg42 => ?_)
    rotate_left
    · exact absurd hg42 (by simp)
    refine qv m_mv ?_
    refine qv m_mv ?_
    refine qqF (f27 (zeroR h).1 (zeroR h).1 zeroR_len) ?_ (ha := (args_cons (data_ints (L := (zeroR h).1) (by simp only [mkM, reduceIte, Nat.reduceEqDiff] <;> rfl) trivial (by first | rfl | omega | (simp; done) | (simp; omega)) rfl rfl (fun _ => trivial)) (args_cons (data_ints (L := (zeroR h).1) (by simp only [mkM, reduceIte, Nat.reduceEqDiff] <;> rfl) trivial (by first | rfl | omega | (simp; done) | (simp; omega)) rfl rfl (fun _ => trivial)) args_nil)))
    refine qv m_pk ?_
    refine qx m_mv (fun hg47 => ?_) (fun hg47 => ?_)
    rotate_left
    · exact absurd hg47 (by simp)
    refine qv m_mv ?_
    refine qv m_mv ?_
    refine qv m_eql ?_
    refine qv m_pk ?_
    refine qx m_mv (fun hg52 => ?_) (fun hg52 => ?_)
    rotate_left
    · exact absurd hg52 (by simp)
    refine qqF (f29) ?_
    refine qv m_pk ?_
    refine qv m_as ?_
    show AWp cx _ _ _
    refine awp_ret ?_
    exact x1 (hr := (rB_))
end Go.Ab.Try
