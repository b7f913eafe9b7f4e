/- The functions of the heap laws, part W12. The walks are written by wip/gen/gw.py. -/
import Derived.Test.YtapabnafbfnjnaaHeap21
import Derived.Test.YtapabnafbfnjnaaHeap19
import Derived.Test.YtapabnafbfnjnaaHeapPT
import Derived.Test.YtapabnafbfnjnaaHeapFacts
import Derived.Test.YtapabnafbfnjnaaHeapPT
set_option linter.all false
namespace Go.Ab.Try
open Go Go.Ab Go.Proofs Go.Ab.Heap

theorem long_args {h : Hp} {l : List (List Int)} (e : longB h l = false) : (∀ r ∈ l, r.length ≤ 400) ∧ h.ground.length ≤ 50 := by
  unfold longB at e
  simp only [Bool.or_eq_false_iff, decide_eq_false_iff_not] at e
  refine ⟨fun r hr => ?_, by omega⟩
  have := List.any_eq_false.1 e.1.1.1 r hr
  simpa using this
theorem toppleR_len {h : Hp} {a : List Int} {i : Int} : (toppleR h a i).1.length < 1000000 := by
  unfold toppleR
  split
  · simp
  · rename_i e
    obtain ⟨e1, _⟩ := one_ok (Classical.not_not.1 e)
    have v5 := (check1 e1).1.n5
    split
    · simp
    · simp [topL]; omega
theorem calm_no {h : Hp} {a : List Int} {i : Int} (e : (calmR h a).1 = true) : (toppleR h a i).2 ≠ 0 := by
  unfold calmR at e
  split at e
  · cases e
  · rename_i hc
    have hc' : checkE h [a] = 0 := Classical.not_not.1 hc
    have hcm := calmD_iff.1 e
    unfold toppleR
    split
    · rename_i ho; exact ho
    · rename_i ho
      obtain ⟨_, k, hk, rfl⟩ := one_ok (Classical.not_not.1 ho)
      rw [Int.toNat_natCast, if_pos (hcm k hk)]
      decide


theorem f12 (h : Hp) (hk : h.links.length ≤ 9223372036854775807) (a : List Int) (i : Int) : ACallsF Try.prog 12 [dHp h, ints a, i64 i] (.one (.dv (.bool true))) := by
  refine callsF_of Try.func12 rfl rfl (by rw [Try.ntmps12]; simp) fun cx hP hn hg => ?_
  rw [Try.ntmps12] at hn
  rw [startF_lk, none_mkM]
  simp only [List.nil_append, List.append_nil, List.cons_append, zipSV, Nat.reduceAdd]
  refine awp_seq ?_
  refine rg ?_
  refine qp m_box ?_
  refine qv m_as ?_
  show AWp cx _ _ _
  refine awp_seq ?_
  refine awp_seq ?_
  refine rg ?_
  refine qv (m_ldpa sz25 ag25) ?_
  refine qv m_mv ?_
  refine qr (m_bsl el22 ze23 sz23) ?_
  refine qqF (f21 h [a] (by simp) hk) ?_ (ha := (args_cons data_dv (args_cons (data_rows (L := [a]) (by simp only [mkM, reduceIte, Nat.reduceEqDiff] <;> rfl) trivial rfl (fun _ => trivial)) args_nil)))
  show AWp cx _ _ _
  refine cd (fun hc0 => ?_) (fun hc0 => ?_)
  · skip
    refine awp_seq ?_
    refine rg ?_
    refine qqF (f29) ?_
    refine qv m_as ?_
    show AWp cx _ _ _
    refine awp_ret ?_
    exact x1 (hr := (rB_))
  · skip
    have hlg : longB h [a] = false := by simpa using hc0
    have hla := long_args hlg
    
    refine awp_skip ?_
    show AWp cx _ _ _
    refine awp_seq ?_
    refine rg ?_
    refine qv (m_ldpa sz25 ag25) ?_
    refine qv m_mv ?_
    refine qqF (f44 h a) ?_
    refine qv m_mv ?_
    refine qv m_ext ?_
    refine qv m_ext ?_
    refine qv m_as ?_
    refine qv m_as ?_
    show AWp cx _ _ _
    refine awp_seq ?_
    refine rg ?_
    refine qv (m_ldpa sz25 ag25) ?_
    refine qv m_mv ?_
    refine qqF (f45 h a) ?_
    refine qv m_mv ?_
    refine qv m_ext ?_
    refine qv m_ext ?_
    refine qv m_as ?_
    refine qv m_as ?_
    show AWp cx _ _ _
    refine awp_seq ?_
    refine rg ?_
    refine qv (m_ldpa sz25 ag25) ?_
    refine qv m_mv ?_
    refine qv m_mv ?_
    refine qqF (f46 h a i) ?_
    refine qv m_mv ?_
    refine qv m_ext ?_
    refine qv m_ext ?_
    refine qv m_as ?_
    refine qv m_as ?_
    show AWp cx _ _ _
    refine awp_seq ?_
    refine rg ?_
    refine qv (m_ldpa sz25 ag25) ?_
    refine qv m_mv ?_
    refine qv m_mv ?_
    refine qqF (f47 h a i) ?_
    refine qv m_mv ?_
    refine qv m_ext ?_
    refine qv m_ext ?_
    refine qv m_as ?_
    refine qv m_as ?_
    show AWp cx _ _ _
    refine awp_seq ?_
    refine rg ?_
    refine qv m_mv ?_
    refine qv m_mv ?_
    refine qv (m_beq ib4) ?_
    refine qx m_mv (fun hg49 => ?_) (fun hg49 => ?_)
    rotate_left
    · exact absurd hg49 (by simp)
    refine qv m_mv ?_
    refine qv m_mv ?_
    refine qv m_eql ?_
    refine qv m_pk ?_
    refine qx m_mv (fun hg54 => ?_) (fun hg54 => ?_)
    rotate_left
    · exact absurd hg54 (by simp)
    refine qv m_mv ?_
    refine qv m_mv ?_
    refine qqF (f27 (toppleR h a i).1 (toppleR h a i).1 toppleR_len) ?_ (ha := (args_cons (data_ints (L := (toppleR h a i).1) (by simp only [mkM, reduceIte, Nat.reduceEqDiff] <;> rfl) trivial (by first | rfl | omega | (simp; done) | (simp; omega)) rfl rfl (fun _ => trivial)) (args_cons (data_ints (L := (toppleR h a i).1) (by simp only [mkM, reduceIte, Nat.reduceEqDiff] <;> rfl) trivial (by first | rfl | omega | (simp; done) | (simp; omega)) rfl rfl (fun _ => trivial)) args_nil)))
    refine qv m_pk ?_
    refine qx m_mv (fun hg59 => ?_) (fun hg59 => ?_)
    rotate_left
    · exact absurd hg59 (by simp)
    refine qv m_mv ?_
    refine qv m_mv ?_
    refine qv m_eql ?_
    refine qv m_pk ?_
    refine qx m_mv (fun hg64 => ?_) (fun hg64 => ?_)
    rotate_left
    · exact absurd hg64 (by simp)
    refine qv m_mv ?_
    refine qv m_not ?_
    refine qx m_mv (fun hg67 => ?_) (fun hg67 => ?_)
    · skip
      refine qk ?_
      refine qk ?_
      refine qv m_pk ?_
      refine qv m_pk ?_
      refine qv m_mv ?_
      refine qqF (f29) ?_
      refine qv m_pk ?_
      refine qv m_as ?_
      show AWp cx _ _ _
      refine awp_ret ?_
      exact x1 (hr := (rB_))
    · skip
      refine qv m_mv ?_
      refine qv m_neq ?_
      refine qv m_pk ?_
      refine qv m_pk ?_
      refine qx m_mv (fun hg72 => ?_) (fun hg72 => ?_)
      rotate_left
      · exact absurd hg72 (by have := calm_no (i := i) (by simpa using hg67 : (calmR h a).1 = true); simpa using this)
      refine qqF (f29) ?_
      refine qv m_pk ?_
      refine qv m_as ?_
      show AWp cx _ _ _
      refine awp_ret ?_
      exact x1 (hr := (rB_))

end Go.Ab.Try
