/- The functions of the heap laws, part W11. The walks are written by wip/gen/gw.py. -/
import Derived.Test.YtapabnafbfnjnaaHeap21
import Derived.Test.YtapabnafbfnjnaaHeap14
import Derived.Test.YtapabnafbfnjnaaHeapPT
import Derived.Test.YtapabnafbfnjnaaHeapFacts
import Derived.Test.YtapabnafbfnjnaaHeapPT
set_option linter.all false
namespace Go.Ab.Try
open Go Go.Ab Go.Proofs Go.Ab.Heap
theorem long_args {h : Hp} {l : List (List Int)} (e : longB h l = false) : (∀ r ∈ l, r.length ≤ 400) ∧ h.ground.length ≤ 50 := by
  unfold longB at e
  simp only [Bool.or_eq_false_iff, decide_eq_false_iff_not] at e
  refine ⟨fun r hr => ?_, by omega⟩
  have := List.any_eq_false.1 e.1.1.1 r hr
  simpa using this
theorem val_of_check {h : Hp} {l : List (List Int)} (e : checkE h l = 0) : validate h = 0 := by
  unfold checkE at e
  split at e
  · rename_i c; exact absurd e c
  · rename_i c; exact Classical.not_not.1 c
theorem check_of {h : Hp} {l : List (List Int)} (e : validate h = 0) (hl : ∀ a ∈ l, Hpg30 h a) : checkE h l = 0 := by
  unfold checkE
  rw [if_neg (by simp [e]), if_pos]
  exact List.all_eq_true.2 fun a ha => hpgB_mk (hl a ha)
theorem check_of1 {h : Hp} {a : List Int} (e : validate h = 0) (x : Hpg30 h a) : checkE h [a] = 0 := check_of e fun _ hr => by simp only [List.mem_singleton] at hr; subst hr; exact x
theorem lastR_len {h : Hp} {a : List Int} : (lastR h a).1.length < 1000000 := by
  unfold lastR
  split
  · simp
  · rename_i e
    have v5 := (check1 (Classical.not_not.1 e)).1.n5
    have := last_len (h := h) (a := a)
    dsimp only; omega
theorem scriptR_len {h : Hp} {a b : List Int} : (scriptR h a b).1.length < 1000000 := by
  unfold scriptR
  split
  · simp
  · rename_i e
    have v5 := (check2 (Classical.not_not.1 e)).1.n5
    have := scrR_row (h := h) (a := a) (b := b)
    dsimp only; omega
theorem script_err {h : Hp} {a b : List Int} : (alikeR h a b).2 = (scriptR h a b).2.2 := by
  unfold alikeR scriptR
  split <;> rfl
theorem scripts_two {h : Hp} {a b : List Int} : (alikeR h a b).1 = (scriptR h a b).2.1 := by
  unfold alikeR scriptR
  split
  · rfl
  · rename_i c
    obtain ⟨v, x, y⟩ := check2 (Classical.not_not.1 c)
    dsimp only
    have : (scrR h a b).2 = allD h a b := by unfold scrR; split <;> simp_all
    rw [this, Bool.eq_iff_iff, beq_iff_eq, last_alike v x.hpg y.hpg, alike_iff v]
    unfold allD
    rw [List.all_eq_true]
    constructor
    · intro q c hc
      rw [beq_iff_eq]; exact Int.tmod_eq_zero_of_dvd (q c (by simpa using hc))
    · intro q c hc
      have := q c (by simpa using hc)
      rw [beq_iff_eq] at this; exact Int.dvd_of_tmod_eq_zero this
theorem scripts_last {h : Hp} {a b : List Int} (e : (scriptR h a b).2.2 = 0) : (lastR h a).2 = 0 ∧ (lastR h b).2 = 0 ∧ ((lastR h a).1 == (lastR h b).1) = (scriptR h a b).2.1 := by
  have hc : checkE h [a, b] = 0 := by
    unfold scriptR at e
    split at e
    · rename_i c; exact absurd e c
    · rename_i c; exact Classical.not_not.1 c
  obtain ⟨v, x, y⟩ := check2 hc
  have hv := val_of_check hc
  rw [last_ok (check_of1 hv x), last_ok (check_of1 hv y)]
  refine ⟨rfl, rfl, ?_⟩
  rw [← scripts_two, alike_ok hc]
set_option maxHeartbeats 4000000 in
theorem f11 (h : Hp) (hk : h.links.length ≤ 9223372036854775807) (a b : List Int) : ACallsF Try.prog 11 [dHp h, ints a, ints b] (.one (.dv (.bool true))) := by
  refine callsF_of Try.func11 rfl rfl (by rw [Try.ntmps11]; simp) fun cx hP hn hg => ?_
  rw [Try.ntmps11] at hn
  rw [startF_lk, none_mkM]
  simp only [List.nil_append, List.append_nil, List.cons_append, zipSV, Nat.reduceAdd]
  refine awp_seq ?_
  refine rg ?_
  refine qp m_box ?_
  refine qv m_as ?_
  show AWp cx _ _ _
  refine awp_seq ?_
  refine awp_seq ?_
  refine rg ?_
  refine qv (m_ldpa sz25 ag25) ?_
  refine qv m_mv ?_
  refine qv m_mv ?_
  refine qr (m_bsl el22 ze23 sz23) ?_
  refine qqF (f21 h [a, b] (by simp) hk) ?_ (ha := (args_cons data_dv (args_cons (data_rows (L := [a, b]) (by simp only [mkM, reduceIte, Nat.reduceEqDiff] <;> rfl) trivial rfl (fun _ => trivial)) args_nil)))
  show AWp cx _ _ _
  refine cd (fun hc0 => ?_) (fun hc0 => ?_)
  · skip
    refine awp_seq ?_
    refine rg ?_
    refine qqF (f29) ?_
    refine qv m_as ?_
    show AWp cx _ _ _
    refine awp_ret ?_
    exact x1 (hr := (rB_))
  · skip
    have hlg : longB h [a, b] = false := by simpa using hc0
    have hla := long_args hlg
    
    refine awp_skip ?_
    show AWp cx _ _ _
    refine awp_seq ?_
    refine rg ?_
    refine qv (m_ldpa sz25 ag25) ?_
    refine qv m_mv ?_
    refine qv m_mv ?_
    refine qqF (f42 h a b) ?_
    refine qv m_mv ?_
    refine qv m_ext ?_
    refine qv m_ext ?_
    refine qv m_ext ?_
    refine qv m_as ?_
    refine qv m_as ?_
    refine qv m_as ?_
    show AWp cx _ _ _
    refine awp_seq ?_
    refine rg ?_
    refine qv (m_ldpa sz25 ag25) ?_
    refine qv m_mv ?_
    refine qv m_mv ?_
    refine qqF (f43 h a b) ?_
    refine qv m_mv ?_
    refine qv m_ext ?_
    refine qv m_ext ?_
    refine qv m_ext ?_
    refine qv m_as ?_
    refine qv m_as ?_
    refine qv m_as ?_
    show AWp cx _ _ _
    refine awp_seq ?_
    refine rg ?_
    refine qv (m_ldpa sz25 ag25) ?_
    refine qv m_mv ?_
    refine qv m_mv ?_
    refine qqF (f23 h a b) ?_
    refine qv m_mv ?_
    refine qv m_ext ?_
    refine qv m_ext ?_
    refine qv m_as ?_
    refine qv m_as ?_
    show AWp cx _ _ _
    refine awp_seq ?_
    refine awp_seq ?_
    refine rg ?_
    refine qv m_mv ?_
    refine qv m_mv ?_
    refine qqF (f27 (scriptR h a b).1 (scriptR h a b).1 scriptR_len) ?_ (ha := (args_cons (data_ints (L := (scriptR h a b).1) (by simp only [mkM, reduceIte, Nat.reduceEqDiff] <;> rfl) trivial (by first | rfl | omega | (simp; done) | (simp; omega)) rfl rfl (fun _ => trivial)) (args_cons (data_ints (L := (scriptR h a b).1) (by simp only [mkM, reduceIte, Nat.reduceEqDiff] <;> rfl) trivial (by first | rfl | omega | (simp; done) | (simp; omega)) rfl rfl (fun _ => trivial)) args_nil)))
    refine qv m_not ?_
    refine qx m_mv (fun hg52 => ?_) (fun hg52 => ?_)
    · exact absurd hg52 (by simp)
    refine qv m_mv ?_
    refine qv m_mv ?_
    refine qv (m_bne ib4) ?_
    refine qv m_pk ?_
    refine qx m_mv (fun hg57 => ?_) (fun hg57 => ?_)
    · exact absurd hg57 (by simp)
    refine qv m_mv ?_
    refine qv m_mv ?_
    refine qv m_neq ?_
    refine qv m_pk ?_
    refine qx m_mv (fun hg62 => ?_) (fun hg62 => ?_)
    · exact absurd hg62 (by simp)
    refine qv m_mv ?_
    refine qv m_mv ?_
    refine qv (m_bne ib4) ?_
    refine qv m_pk ?_
    refine qx m_mv (fun hg67 => ?_) (fun hg67 => ?_)
    · exact absurd hg67 (by simp [scripts_two])
    refine qv m_mv ?_
    refine qv m_mv ?_
    refine qv m_neq ?_
    refine qv m_pk ?_
    show AWp cx _ _ _
    refine cdF (hb := by simp [script_err]) (ht := ?_)
    refine awp_skip ?_
    show AWp cx _ _ _
    refine awp_seq ?_
    refine awp_seq ?_
    refine rg ?_
    refine qv m_mv ?_
    refine qv m_neq ?_
    show AWp cx _ _ _
    refine cd (fun hc2 => ?_) (fun hc2 => ?_)
    · skip
      refine awp_seq ?_
      refine rg ?_
      refine qqF (f29) ?_
      refine qv m_as ?_
      show AWp cx _ _ _
      refine awp_ret ?_
      exact x1 (hr := (rB_))
    · skip
      obtain ⟨m1, m2, m3⟩ := scripts_last (h := h) (a := a) (b := b) (by simpa using hc2)
      refine awp_skip ?_
      show AWp cx _ _ _
      refine awp_seq ?_
      refine rg ?_
      refine qv (m_ldpa sz25 ag25) ?_
      refine qv m_mv ?_
      refine qqF (f22 h a) ?_
      refine qv m_mv ?_
      refine qv m_ext ?_
      refine qv m_ext ?_
      refine qv m_as ?_
      refine qv m_as ?_
      show AWp cx _ _ _
      refine awp_seq ?_
      refine rg ?_
      refine qv (m_ldpa sz25 ag25) ?_
      refine qv m_mv ?_
      refine qqF (f22 h b) ?_
      refine qv m_mv ?_
      refine qv m_ext ?_
      refine qv m_ext ?_
      refine qv m_as ?_
      refine qv m_as ?_
      show AWp cx _ _ _
      refine awp_seq ?_
      refine rg ?_
      refine qv m_mv ?_
      refine qv m_eql ?_
      refine qx m_mv (fun hg89 => ?_) (fun hg89 => ?_)
      rotate_left
      · exact absurd hg89 (by simp [m1])
      refine qv m_mv ?_
      refine qv m_eql ?_
      refine qv m_pk ?_
      refine qx m_mv (fun hg93 => ?_) (fun hg93 => ?_)
      rotate_left
      · exact absurd hg93 (by simp [m2])
      refine qv m_mv ?_
      refine qv m_mv ?_
      refine qqF (f27 (lastR h a).1 (lastR h b).1 lastR_len) ?_ (ha := (args_cons (data_ints (L := (lastR h a).1) (by simp only [mkM, reduceIte, Nat.reduceEqDiff] <;> rfl) trivial (by first | rfl | omega | (simp; done) | (simp; omega)) rfl rfl (fun _ => trivial)) (args_cons (data_ints (L := (lastR h b).1) (by simp only [mkM, reduceIte, Nat.reduceEqDiff] <;> rfl) trivial (by first | rfl | omega | (simp; done) | (simp; omega)) rfl rfl (fun _ => trivial)) args_nil)))
      refine qv m_mv ?_
      refine qv (m_beq ib4) ?_
      refine qv m_pk ?_
      refine qx m_mv (fun hg100 => ?_) (fun hg100 => ?_)
      rotate_left
      · exact absurd hg100 (by simp [m3])
      refine qqF (f29) ?_
      refine qv m_pk ?_
      refine qv m_as ?_
      show AWp cx _ _ _
      refine awp_ret ?_
      exact x1 (hr := (rB_))
end Go.Ab.Try
