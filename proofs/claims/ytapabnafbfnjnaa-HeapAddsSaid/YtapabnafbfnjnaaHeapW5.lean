/- The functions of the heap laws, part W5. The walks are written by wip/gen/gw.py. -/
import Derived.Test.YtapabnafbfnjnaaHeap21
import Derived.Test.YtapabnafbfnjnaaHeapPT
import Derived.Test.YtapabnafbfnjnaaHeapFacts
import Derived.Test.YtapabnafbfnjnaaHeapPT
set_option linter.all false
namespace Go.Ab.Try
open Go Go.Ab Go.Proofs Go.Ab.Heap

theorem long_args {h : Hp} {l : List (List Int)} (e : longB h l = false) : (∀ r ∈ l, r.length ≤ 400) ∧ h.ground.length ≤ 50 := by
  unfold longB at e
  simp only [Bool.or_eq_false_iff, decide_eq_false_iff_not] at e
  refine ⟨fun r hr => ?_, by omega⟩
  have := List.any_eq_false.1 e.1.1.1 r hr
  simpa using this
theorem addR_len {h : Hp} {a b : List Int} : (addR h a b).1.length < 1000000 := by
  unfold addR
  split
  · simp
  · rename_i e
    have v5 := (check2 (Classical.not_not.1 e)).1.n5
    simp [stl]; omega
theorem check_comm (h : Hp) (a b : List Int) : checkE h [b, a] = checkE h [a, b] := by
  unfold checkE
  have : ([b, a].all (hpgB h)) = ([a, b].all (hpgB h)) := by simp [Bool.and_comm]
  rw [this]
theorem addR_comm (h : Hp) (a b : List Int) : addR h b a = addR h a b := by
  unfold addR
  rw [check_comm h a b, addL_comm h b a]


theorem f5 (h : Hp) (hk : h.links.length ≤ 9223372036854775807) (a b : List Int) : ACallsF Try.prog 5 [dHp h, ints a, ints b] (.one (.dv (.bool true))) := by
  have hac := addR_comm h a b
  refine callsF_of Try.func5 rfl rfl (by rw [Try.ntmps5]; simp) fun cx hP hn hg => ?_
  rw [Try.ntmps5] at hn
  rw [startF_lk, none_mkM]
  simp only [List.nil_append, List.append_nil, List.cons_append, zipSV, Nat.reduceAdd]
  refine awp_seq ?_
  refine rg ?_
  refine qp m_box ?_
  refine qv m_as ?_
  show AWp cx _ _ _
  refine awp_seq ?_
  refine awp_seq ?_
  refine rg ?_
  refine qv (m_ldpa sz25 ag25) ?_
  refine qv m_mv ?_
  refine qv m_mv ?_
  refine qr (m_bsl el22 ze23 sz23) ?_
  refine qqF (f21 h [a, b] (by simp) hk) ?_ (ha := (args_cons data_dv (args_cons (data_rows (L := [a, b]) (by simp only [mkM, reduceIte, Nat.reduceEqDiff] <;> rfl) trivial rfl (fun _ => trivial)) args_nil)))
  show AWp cx _ _ _
  refine cd (fun hc0 => ?_) (fun hc0 => ?_)
  · skip
    refine awp_seq ?_
    refine rg ?_
    refine qqF (f29) ?_
    refine qv m_as ?_
    show AWp cx _ _ _
    refine awp_ret ?_
    exact x1 (hr := (rB_))
  · skip
    have hlg : longB h [a, b] = false := by simpa using hc0
    have hla := long_args hlg
    
    refine awp_skip ?_
    show AWp cx _ _ _
    refine awp_seq ?_
    refine rg ?_
    refine qv (m_ldpa sz25 ag25) ?_
    refine qv m_mv ?_
    refine qv m_mv ?_
    refine qqF (f34 h a b) ?_
    refine qv m_mv ?_
    refine qv m_ext ?_
    refine qv m_ext ?_
    refine qv m_as ?_
    refine qv m_as ?_
    show AWp cx _ _ _
    refine awp_seq ?_
    refine rg ?_
    refine qv (m_ldpa sz25 ag25) ?_
    refine qv m_mv ?_
    refine qv m_mv ?_
    refine qqF (f35 h a b) ?_
    refine qv m_mv ?_
    refine qv m_ext ?_
    refine qv m_ext ?_
    refine qv m_as ?_
    refine qv m_as ?_
    show AWp cx _ _ _
    refine awp_seq ?_
    refine rg ?_
    refine qv (m_ldpa sz25 ag25) ?_
    refine qv m_mv ?_
    refine qv m_mv ?_
    refine qqF (f34 h b a) ?_
    refine qv m_mv ?_
    refine qv m_ext ?_
    refine qv m_ext ?_
    refine qv m_as ?_
    refine qv m_as ?_
    show AWp cx _ _ _
    refine awp_seq ?_
    refine rg ?_
    refine qv m_mv ?_
    refine qv m_mv ?_
    refine qqF (f27 (addR h a b).1 (addR h a b).1 addR_len) ?_ (ha := (args_cons (data_ints (L := (addR h a b).1) (by simp only [mkM, reduceIte, Nat.reduceEqDiff] <;> rfl) trivial (by first | rfl | omega | (simp; done) | (simp; omega)) rfl rfl (fun _ => trivial)) (args_cons (data_ints (L := (addR h a b).1) (by simp only [mkM, reduceIte, Nat.reduceEqDiff] <;> rfl) trivial (by first | rfl | omega | (simp; done) | (simp; omega)) rfl rfl (fun _ => trivial)) args_nil)))
    refine qx m_mv (fun hg43 => ?_) (fun hg43 => ?_)
    rotate_left
    · exact absurd hg43 (by simp)
    refine qv m_mv ?_
    refine qv m_mv ?_
    refine qv m_eql ?_
    refine qv m_pk ?_
    refine qx m_mv (fun hg48 => ?_) (fun hg48 => ?_)
    rotate_left
    · exact absurd hg48 (by simp)
    refine qv m_mv ?_
    refine qv m_mv ?_
    refine qqF (f27 (addR h b a).1 (addR h a b).1 addR_len) ?_ (ha := (args_cons (data_ints (L := (addR h b a).1) (by simp only [mkM, reduceIte, Nat.reduceEqDiff] <;> rfl) trivial (by first | rfl | omega | (simp; done) | (simp; omega)) rfl rfl (fun _ => trivial)) (args_cons (data_ints (L := (addR h a b).1) (by simp only [mkM, reduceIte, Nat.reduceEqDiff] <;> rfl) trivial (by first | rfl | omega | (simp; done) | (simp; omega)) rfl rfl (fun _ => trivial)) args_nil)))
    refine qv m_pk ?_
    refine qx m_mv (fun hg53 => ?_) (fun hg53 => ?_)
    rotate_left
    · exact absurd hg53 (by rw [hac]; simp)
    refine qv m_mv ?_
    refine qv m_mv ?_
    refine qv m_eql ?_
    refine qv m_pk ?_
    refine qx m_mv (fun hg58 => ?_) (fun hg58 => ?_)
    rotate_left
    · exact absurd hg58 (by rw [hac]; simp)
    refine qqF (f29) ?_
    refine qv m_pk ?_
    refine qv m_as ?_
    show AWp cx _ _ _
    refine awp_ret ?_
    exact x1 (hr := (rB_))

end Go.Ab.Try
