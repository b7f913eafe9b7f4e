/- The functions of the heap laws, part W9. The walks are written by wip/gen/gw.py. -/
import Derived.Test.YtapabnafbfnjnaaHeap21
import Derived.Test.YtapabnafbfnjnaaHeap20
import Derived.Test.YtapabnafbfnjnaaHeapPT
import Derived.Test.YtapabnafbfnjnaaHeapFacts
import Derived.Test.YtapabnafbfnjnaaHeapPT
set_option linter.all false
namespace Go.Ab.Try
open Go Go.Ab Go.Proofs Go.Ab.Heap

theorem long_args {h : Hp} {l : List (List Int)} (e : longB h l = false) : (∀ r ∈ l, r.length ≤ 400) ∧ h.ground.length ≤ 50 := by
  unfold longB at e
  simp only [Bool.or_eq_false_iff, decide_eq_false_iff_not] at e
  refine ⟨fun r hr => ?_, by omega⟩
  have := List.any_eq_false.1 e.1.1.1 r hr
  simpa using this
theorem clF_len {h : Hp} (n5 : h.ground.length ≤ 5) : ∀ {l out : List Int} {k : Int}, out.length = h.ground.length → (clF h out k l).1.length < 1000000
  | [], out, k, ho => by simp only [clF]; omega
  | i :: l, out, k, ho => by
    simp only [clF]
    split
    · simp
    · exact clF_len n5 topL_len
theorem listR_len {h : Hp} {a l : List Int} : (listR h a l).1.length < 1000000 := by
  unfold listR
  split
  · simp
  · rename_i e
    obtain ⟨v, x⟩ := check1 (Classical.not_not.1 e)
    split
    · simp
    · split
      · exact clF_len v.n5 x.len
      · simp


theorem f9 (h : Hp) (hk : h.links.length ≤ 9223372036854775807) (a l : List Int) : ACallsF Try.prog 9 [dHp h, ints a, ints l] (.one (.dv (.bool true))) := by
  refine callsF_of Try.func9 rfl rfl (by rw [Try.ntmps9]; simp) fun cx hP hn hg => ?_
  rw [Try.ntmps9] at hn
  rw [startF_lk, none_mkM]
  simp only [List.nil_append, List.append_nil, List.cons_append, zipSV, Nat.reduceAdd]
  refine awp_seq ?_
  refine rg ?_
  refine qp m_box ?_
  refine qv m_as ?_
  show AWp cx _ _ _
  refine awp_seq ?_
  refine awp_seq ?_
  refine rg ?_
  refine qv (m_ldpa sz25 ag25) ?_
  refine qv m_mv ?_
  refine qv m_mv ?_
  refine qr (m_bsl el22 ze23 sz23) ?_
  refine qqF (f21 h [a, l] (by simp) hk) ?_ (ha := (args_cons data_dv (args_cons (data_rows (L := [a, l]) (by simp only [mkM, reduceIte, Nat.reduceEqDiff] <;> rfl) trivial rfl (fun _ => trivial)) args_nil)))
  show AWp cx _ _ _
  refine cd (fun hc0 => ?_) (fun hc0 => ?_)
  · skip
    refine awp_seq ?_
    refine rg ?_
    refine qqF (f29) ?_
    refine qv m_as ?_
    show AWp cx _ _ _
    refine awp_ret ?_
    exact x1 (hr := (rB_))
  · skip
    have hlg : longB h [a, l] = false := by simpa using hc0
    have hla := long_args hlg
    
    refine awp_skip ?_
    show AWp cx _ _ _
    refine awp_seq ?_
    refine rg ?_
    refine qv (m_ldpa sz25 ag25) ?_
    refine qv m_mv ?_
    refine qv m_mv ?_
    refine qqF (f40 h a l (by have := hla.1 l (by simp); omega)) ?_
    refine qv m_mv ?_
    refine qv m_ext ?_
    refine qv m_ext ?_
    refine qv m_ext ?_
    refine qv m_as ?_
    refine qv m_as ?_
    refine qv m_as ?_
    show AWp cx _ _ _
    refine awp_seq ?_
    refine rg ?_
    refine qv (m_ldpa sz25 ag25) ?_
    refine qv m_mv ?_
    refine qv m_mv ?_
    refine qqF (f41 h a l (by have := hla.1 l (by simp); omega)) ?_
    refine qv m_mv ?_
    refine qv m_ext ?_
    refine qv m_ext ?_
    refine qv m_ext ?_
    refine qv m_as ?_
    refine qv m_as ?_
    refine qv m_as ?_
    show AWp cx _ _ _
    refine awp_seq ?_
    refine rg ?_
    refine qv m_mv ?_
    refine qv m_mv ?_
    refine qqF (f27 (listR h a l).1 (listR h a l).1 listR_len) ?_ (ha := (args_cons (data_ints (L := (listR h a l).1) (by simp only [mkM, reduceIte, Nat.reduceEqDiff] <;> rfl) trivial (by first | rfl | omega | (simp; done) | (simp; omega)) rfl rfl (fun _ => trivial)) (args_cons (data_ints (L := (listR h a l).1) (by simp only [mkM, reduceIte, Nat.reduceEqDiff] <;> rfl) trivial (by first | rfl | omega | (simp; done) | (simp; omega)) rfl rfl (fun _ => trivial)) args_nil)))
    refine qx m_mv (fun hg38 => ?_) (fun hg38 => ?_)
    rotate_left
    · exact absurd hg38 (by simp)
    refine qv m_mv ?_
    refine qv m_mv ?_
    refine qv m_eql ?_
    refine qv m_pk ?_
    refine qx m_mv (fun hg43 => ?_) (fun hg43 => ?_)
    rotate_left
    · exact absurd hg43 (by simp)
    refine qv m_mv ?_
    refine qv m_mv ?_
    refine qv m_eql ?_
    refine qv m_pk ?_
    refine qx m_mv (fun hg48 => ?_) (fun hg48 => ?_)
    rotate_left
    · exact absurd hg48 (by simp)
    refine qqF (f29) ?_
    refine qv m_pk ?_
    refine qv m_as ?_
    show AWp cx _ _ _
    refine awp_ret ?_
    exact x1 (hr := (rB_))

end Go.Ab.Try
