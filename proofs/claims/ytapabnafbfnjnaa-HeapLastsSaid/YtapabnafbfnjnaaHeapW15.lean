/- The functions of the heap laws, part W15. The walks are written by wip/gen/gw.py. -/
import Derived.Test.YtapabnafbfnjnaaHeap21
import Derived.Test.YtapabnafbfnjnaaHeap18
import Derived.Test.YtapabnafbfnjnaaHeapPT
import Derived.Test.YtapabnafbfnjnaaHeapFacts
import Derived.Test.YtapabnafbfnjnaaHeapPT
set_option linter.all false
namespace Go.Ab.Try
open Go Go.Ab Go.Proofs Go.Ab.Heap

theorem long_args {h : Hp} {l : List (List Int)} (e : longB h l = false) : (∀ r ∈ l, r.length ≤ 400) ∧ h.ground.length ≤ 50 := by
  unfold longB at e
  simp only [Bool.or_eq_false_iff, decide_eq_false_iff_not] at e
  refine ⟨fun r hr => ?_, by omega⟩
  have := List.any_eq_false.1 e.1.1.1 r hr
  simpa using this
theorem burnR_len {h : Hp} {a : List Int} : (burnR h a).1.length < 1000000 := by
  unfold burnR
  split
  · simp
  · rename_i e
    have v := (check1 (Classical.not_not.1 e)).1
    have v5 := v.n5
    have := burnL_le v a
    dsimp only; omega


theorem f15 (h : Hp) (hk : h.links.length ≤ 9223372036854775807) (a : List Int) : ACallsF Try.prog 15 [dHp h, ints a] (.one (.dv (.bool true))) := by
  refine callsF_of Try.func15 rfl rfl (by rw [Try.ntmps15]; simp) fun cx hP hn hg => ?_
  rw [Try.ntmps15] at hn
  rw [startF_lk, none_mkM]
  simp only [List.nil_append, List.append_nil, List.cons_append, zipSV, Nat.reduceAdd]
  refine awp_seq ?_
  refine rg ?_
  refine qp m_box ?_
  refine qv m_as ?_
  show AWp cx _ _ _
  refine awp_seq ?_
  refine awp_seq ?_
  refine rg ?_
  refine qv (m_ldpa sz25 ag25) ?_
  refine qv m_mv ?_
  refine qr (m_bsl el22 ze23 sz23) ?_
  refine qqF (f21 h [a] (by simp) hk) ?_ (ha := (args_cons data_dv (args_cons (data_rows (L := [a]) (by simp only [mkM, reduceIte, Nat.reduceEqDiff] <;> rfl) trivial rfl (fun _ => trivial)) args_nil)))
  show AWp cx _ _ _
  refine cd (fun hc0 => ?_) (fun hc0 => ?_)
  · skip
    refine awp_seq ?_
    refine rg ?_
    refine qqF (f29) ?_
    refine qv m_as ?_
    show AWp cx _ _ _
    refine awp_ret ?_
    exact x1 (hr := (rB_))
  · skip
    have hlg : longB h [a] = false := by simpa using hc0
    have hla := long_args hlg
    
    refine awp_skip ?_
    show AWp cx _ _ _
    refine awp_seq ?_
    refine rg ?_
    refine qv (m_ldpa sz25 ag25) ?_
    refine qv m_mv ?_
    refine qqF (f51 h a) ?_
    refine qv m_mv ?_
    refine qv m_ext ?_
    refine qv m_ext ?_
    refine qv m_as ?_
    refine qv m_as ?_
    show AWp cx _ _ _
    refine awp_seq ?_
    refine rg ?_
    refine qv (m_ldpa sz25 ag25) ?_
    refine qv m_mv ?_
    refine qqF (f52 h a) ?_
    refine qv m_mv ?_
    refine qv m_ext ?_
    refine qv m_ext ?_
    refine qv m_as ?_
    refine qv m_as ?_
    show AWp cx _ _ _
    refine awp_seq ?_
    refine rg ?_
    refine qv (m_ldpa sz25 ag25) ?_
    refine qv m_mv ?_
    refine qqF (f26 h a) ?_
    refine qv m_mv ?_
    refine qv m_ext ?_
    refine qv m_ext ?_
    refine qv m_as ?_
    refine qv m_as ?_
    show AWp cx _ _ _
    refine awp_seq ?_
    refine rg ?_
    refine qv (m_ldpa sz25 ag25) ?_
    refine qv m_mv ?_
    refine qqF (f53 h a) ?_
    refine qv m_mv ?_
    refine qv m_ext ?_
    refine qv m_ext ?_
    refine qv m_as ?_
    refine qv m_as ?_
    show AWp cx _ _ _
    refine awp_seq ?_
    refine rg ?_
    refine qv m_mv ?_
    refine qv m_mv ?_
    refine qv (m_beq ib4) ?_
    refine qx m_mv (fun hg45 => ?_) (fun hg45 => ?_)
    rotate_left
    · exact absurd hg45 (by simp)
    refine qv m_mv ?_
    refine qv m_mv ?_
    refine qv m_eql ?_
    refine qv m_pk ?_
    refine qx m_mv (fun hg50 => ?_) (fun hg50 => ?_)
    rotate_left
    · exact absurd hg50 (by simp)
    refine qv m_mv ?_
    refine qv m_mv ?_
    refine qqF (f27 (burnR h a).1 (burnR h a).1 burnR_len) ?_ (ha := (args_cons (data_ints (L := (burnR h a).1) (by simp only [mkM, reduceIte, Nat.reduceEqDiff] <;> rfl) trivial (by first | rfl | omega | (simp; done) | (simp; omega)) rfl rfl (fun _ => trivial)) (args_cons (data_ints (L := (burnR h a).1) (by simp only [mkM, reduceIte, Nat.reduceEqDiff] <;> rfl) trivial (by first | rfl | omega | (simp; done) | (simp; omega)) rfl rfl (fun _ => trivial)) args_nil)))
    refine qv m_pk ?_
    refine qx m_mv (fun hg55 => ?_) (fun hg55 => ?_)
    rotate_left
    · exact absurd hg55 (by simp)
    refine qv m_mv ?_
    refine qv m_mv ?_
    refine qv m_eql ?_
    refine qv m_pk ?_
    refine qx m_mv (fun hg60 => ?_) (fun hg60 => ?_)
    rotate_left
    · exact absurd hg60 (by simp)
    refine qqF (f29) ?_
    refine qv m_pk ?_
    refine qv m_as ?_
    show AWp cx _ _ _
    refine awp_ret ?_
    exact x1 (hr := (rB_))

end Go.Ab.Try
