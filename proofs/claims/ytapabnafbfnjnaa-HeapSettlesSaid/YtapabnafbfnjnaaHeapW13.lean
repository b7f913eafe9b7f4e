/- The functions of the heap laws, part W13. The walks are written by wip/gen/gw.py. -/
import Derived.Test.YtapabnafbfnjnaaHeap21
import Derived.Test.YtapabnafbfnjnaaHeap20
import Derived.Test.YtapabnafbfnjnaaHeapLA
import Derived.Test.YtapabnafbfnjnaaHeapPT
import Derived.Test.YtapabnafbfnjnaaHeapFacts
import Derived.Test.YtapabnafbfnjnaaHeapPT
set_option linter.all false
namespace Go.Ab.Try
open Go Go.Ab Go.Proofs Go.Ab.Heap

theorem spF_at {h : Hp} (v : VH h) {a s : List Int} {j : Nat} (hj : j < h.ground.length) : ∀ q, q ≤ h.ground.length → ata (spF h a s q) j = ata a j - h.sp.lap (fun k => if k < q then ata s k else 0) j
  | 0, _ => by
    have : (fun k => if k < 0 then ata s k else 0) = fun _ => (0 : Int) := by funext k; rw [if_neg (by omega)]
    rw [this, lap_zero]; simp [spF]
  | q + 1, hq => by
    have ih := spF_at v (a := a) (s := s) hj q (by omega)
    simp only [spF]
    rw [topL_lft v (by omega) hj]
    unfold SP.lft
    rw [ih]
    have e : (fun k => if k < q + 1 then ata s k else 0) = fun k => (if k < q then ata s k else 0) + (if k = q then ata s q else 0) := by
      funext k
      rcases Nat.lt_trichotomy k q with c | c | c
      · rw [if_pos (by omega), if_pos c, if_neg (by omega)]; omega
      · subst c; rw [if_pos (by omega), if_neg (by omega), if_pos rfl]; omega
      · rw [if_neg (by omega), if_neg (by omega), if_neg (by omega)]; rfl
    rw [e, lap_add]; omega
theorem spF_stl {h : Hp} (v : VH h) {a : List Int} (ha : Hpg h a) : spF h a (stlT h a) h.ground.length = stl h a := by
  refine ata_ext (n := h.ground.length) (spF_len ha.len _) stl_len fun i hi => ?_
  rw [spF_at v hi _ (Nat.le_refl _), (stl_spec v ha).1.eq i hi]
  unfold SP.lft
  rw [lap_congr (s := h.sp) (u := fun k => if k < h.ground.length then ata (stlT h a) k else 0) (v := ata (stlT h a)) (fun j hj => if_pos hj) hi]
theorem stlT_bd {h : Hp} (v : VH h) {a : List Int} (x : Hpg30 h a) : ∀ i, i < h.ground.length → 0 ≤ ata (stlT h a) i ∧ ata (stlT h a) i ≤ 750 := fun i hi => by
  have h5 := v.n5
  have hs : sm (ata a) h.ground.length ≤ 150 := by
    have h1 := sm_le (f := ata a) (g := fun _ => 30) (n := h.ground.length) fun i hi => (x.bd i hi).2
    rw [sm_const] at h1; omega
  have := (stl_spec v x.hpg).1.bd v x.hpg.nn hs i hi
  omega
theorem settle_script {h : Hp} {a : List Int} (e : (settleR h a).2.2.2 = 0) : csR h a (settleR h a).1 (settleR h a).2.1 = 0 ∧ sm (ata a) a.length = sm (ata (settleR h a).1) (settleR h a).1.length + (settleR h a).2.2.1 ∧ (a.length < 1000 ∧ ∀ i, i < a.length → -100000000 ≤ ata a i ∧ ata a i ≤ 100000000) ∧ (settleR h a).1.length < 1000 ∧ (∀ i, i < (settleR h a).1.length → -100000000 ≤ ata (settleR h a).1 i ∧ ata (settleR h a).1 i ≤ 100000000) ∧ 0 ≤ (settleR h a).2.2.1 ∧ (settleR h a).2.2.1 ≤ 1000 ∧ 0 ≤ sm (ata (settleR h a).1) (settleR h a).1.length ∧ sm (ata (settleR h a).1) (settleR h a).1.length ≤ 1000 := by
  have hc : checkE h [a] = 0 := by
    unfold settleR at e
    split at e
    · rename_i c; exact absurd e c
    · rename_i c; exact Classical.not_not.1 c
  rw [settle_ok hc]
  obtain ⟨v, x⟩ := check1 hc
  have h5 := v.n5
  have hv := val_of_check hc
  have x2 := hpg30_stl v x.hpg
  have hg := stl_ground v x.hpg
  have hl := x.len
  have b1 : 0 ≤ sm (ata a) h.ground.length ∧ sm (ata a) h.ground.length ≤ 150 := by
    have h1 := sm_le (f := ata a) (g := fun _ => 30) (n := h.ground.length) fun i hi => (x.bd i hi).2
    rw [sm_const] at h1
    exact ⟨sm_nonneg fun i hi => (x.bd i hi).1, by omega⟩
  have b2 : 0 ≤ sm (ata (stl h a)) h.ground.length := sm_nonneg fun i hi => (x2.bd i hi).1
  have b3 : 0 ≤ grd h (stlT h a) := sm_nonneg fun i hi => Int.mul_nonneg (v.gb i hi).1 (stlT_bd v x i hi).1
  refine ⟨?_, ?_, ⟨by omega, fun i hi => by have := x.bd i (by omega); omega⟩, ?_, ?_, b3, ?_, ?_, ?_⟩
  · refine cs_yes (check_of2 hv x x2) (by rw [stlT_len v x.hpg, x.len]) (cs_of fun i hi => ?_) ?_
    · have := stlT_bd v x i (by rw [stlT_len v x.hpg] at hi; exact hi)
      simp only [inR, Bool.and_eq_true, decide_eq_true_eq]; omega
    · dsimp only; rw [spF_stl v x.hpg]; exact beq_self_eq_true _
  · dsimp only; rw [stl_len, x.len]; omega
  · dsimp only; rw [stl_len]; omega
  · dsimp only; rw [stl_len]; intro i hi; have := x2.bd i hi; omega
  · dsimp only; omega
  · dsimp only; rw [stl_len]; omega
  · dsimp only; rw [stl_len]; omega


set_option maxHeartbeats 4000000 in
theorem f13 (h : Hp) (hk : h.links.length ≤ 9223372036854775807) (a : List Int) : ACallsF Try.prog 13 [dHp h, ints a] (.one (.dv (.bool true))) := by
  refine callsF_of Try.func13 rfl rfl (by rw [Try.ntmps13]; simp) fun cx hP hn hg => ?_
  rw [Try.ntmps13] at hn
  rw [startF_lk, none_mkM]
  simp only [List.nil_append, List.append_nil, List.cons_append, zipSV, Nat.reduceAdd]
  refine awp_seq ?_
  refine rg ?_
  refine qp m_box ?_
  refine qv m_as ?_
  show AWp cx _ _ _
  refine awp_seq ?_
  refine awp_seq ?_
  refine rg ?_
  refine qv (m_ldpa sz25 ag25) ?_
  refine qv m_mv ?_
  refine qr (m_bsl el22 ze23 sz23) ?_
  refine qqF (f21 h [a] (by simp) hk) ?_ (ha := (args_cons data_dv (args_cons (data_rows (L := [a]) (by simp only [mkM, reduceIte, Nat.reduceEqDiff] <;> rfl) trivial rfl (fun _ => trivial)) args_nil)))
  show AWp cx _ _ _
  refine cd (fun hc0 => ?_) (fun hc0 => ?_)
  · skip
    refine awp_seq ?_
    refine rg ?_
    refine qqF (f29) ?_
    refine qv m_as ?_
    show AWp cx _ _ _
    refine awp_ret ?_
    exact x1 (hr := (rB_))
  · skip
    have hlg : longB h [a] = false := by simpa using hc0
    have hla := long_args hlg
    have hal4 : a.length ≤ 400 := hla.1 a (by simp)
    refine awp_skip ?_
    show AWp cx _ _ _
    refine awp_seq ?_
    refine rg ?_
    refine qr (m_bsl el23 ze3 sz3) ?_
    refine qv m_mv ?_
    refine qa1 (m_app1 el23 el23 ze3 sz3 by3) ?_
    refine qv m_as ?_
    show AWp cx _ _ _
    refine awp_seq ?_
    refine rg ?_
    refine qv (m_ldpa sz25 ag25) ?_
    refine qv m_mv ?_
    refine qqF (f25 h a) ?_ (ha := (args_cons data_dv (args_cons (data_ints (L := a) (by simp only [mkM, reduceIte, Nat.reduceEqDiff] <;> rfl) trivial (by first | rfl | omega | (simp; done) | (simp; omega)) rfl rfl (fun _ => trivial)) args_nil))) (hS := (res_rrdd (d2 := 1025) rfl (by (simp only [mkM, reduceIte, Nat.reduceEqDiff] <;> rfl)) (by (simp only [mkM, reduceIte, Nat.reduceEqDiff] <;> rfl))))
    refine qv m_mv ?_
    refine qv m_ext ?_
    refine qv m_ext ?_
    refine qv m_ext ?_
    refine qv m_ext ?_
    refine qv m_as ?_
    refine qv m_as ?_
    refine qv m_as ?_
    refine qv m_as ?_
    show AWp cx _ _ _
    refine awp_seq ?_
    refine rg ?_
    refine qv (m_ldpa sz25 ag25) ?_
    refine qv m_mv ?_
    refine qqF (f48 h a) ?_ (hS := (res_rrdd (d2 := 1033) rfl (by (simp only [mkM, reduceIte, Nat.reduceEqDiff] <;> rfl)) (by (simp only [mkM, reduceIte, Nat.reduceEqDiff] <;> rfl))))
    refine qv m_mv ?_
    refine qv m_ext ?_
    refine qv m_ext ?_
    refine qv m_ext ?_
    refine qv m_ext ?_
    refine qv m_as ?_
    refine qv m_as ?_
    refine qv m_as ?_
    refine qv m_as ?_
    show AWp cx _ _ _
    refine awp_seq ?_
    refine awp_seq ?_
    refine rg ?_
    refine qv m_mv ?_
    refine qv m_mv ?_
    refine qqF (f27 (settleR h a).1 (settleR h a).1 settleR_len.1) ?_ (ha := (args_cons (data_ints (L := (settleR h a).1) (by simp only [mkM, reduceIte, Nat.reduceEqDiff] <;> rfl) trivial (by first | rfl | omega | (simp; done) | (simp; omega)) rfl rfl (fun _ => trivial)) (args_cons (data_ints (L := (settleR h a).1) (by simp only [mkM, reduceIte, Nat.reduceEqDiff] <;> rfl) trivial (by first | rfl | omega | (simp; done) | (simp; omega)) rfl rfl (fun _ => trivial)) args_nil)))
    refine qv m_not ?_
    refine qx m_mv (fun hg42 => ?_) (fun hg42 => ?_)
    · exact absurd hg42 (by simp)
    refine qv m_mv ?_
    refine qv m_mv ?_
    refine qqF (f27 (settleR h a).2.1 (settleR h a).2.1 settleR_len.2) ?_ (ha := (args_cons (data_ints (L := (settleR h a).2.1) (by simp only [mkM, reduceIte, Nat.reduceEqDiff] <;> rfl) trivial (by first | rfl | omega | (simp; done) | (simp; omega)) rfl rfl (fun _ => trivial)) (args_cons (data_ints (L := (settleR h a).2.1) (by simp only [mkM, reduceIte, Nat.reduceEqDiff] <;> rfl) trivial (by first | rfl | omega | (simp; done) | (simp; omega)) rfl rfl (fun _ => trivial)) args_nil)))
    refine qv m_not ?_
    refine qv m_pk ?_
    refine qx m_mv (fun hg48 => ?_) (fun hg48 => ?_)
    · exact absurd hg48 (by simp)
    refine qv m_mv ?_
    refine qv m_mv ?_
    refine qv m_neq ?_
    refine qv m_pk ?_
    refine qx m_mv (fun hg53 => ?_) (fun hg53 => ?_)
    · exact absurd hg53 (by simp)
    refine qv m_mv ?_
    refine qv m_mv ?_
    refine qv m_neq ?_
    refine qv m_pk ?_
    refine qx m_mv (fun hg58 => ?_) (fun hg58 => ?_)
    · exact absurd hg58 (by simp)
    refine qv m_mv ?_
    refine qv m_mv ?_
    refine qqF (f27 a a (by have := hla.1 a (by simp); omega)) ?_ (ha := (args_cons (data_ints (L := a) (by simp only [mkM, reduceIte, Nat.reduceEqDiff] <;> rfl) trivial (by first | rfl | omega | (simp; done) | (simp; omega)) rfl rfl (fun _ => trivial)) (args_cons data_dv args_nil)))
    refine qv m_not ?_
    refine qv m_pk ?_
    show AWp cx _ _ _
    refine cdF (hb := by simp) (ht := ?_)
    refine awp_skip ?_
    show AWp cx _ _ _
    refine awp_seq ?_
    refine rg ?_
    refine qv m_mv ?_
    refine qv m_neq ?_
    refine qx m_mv (fun hg66 => ?_) (fun hg66 => ?_)
    · skip
      refine qk ?_
      refine qk ?_
      refine qk ?_
      refine qk ?_
      refine qk ?_
      refine qk ?_
      refine qk ?_
      refine qk ?_
      refine qk ?_
      refine qk ?_
      refine qk ?_
      refine qk ?_
      refine qk ?_
      refine qk ?_
      refine qk ?_
      refine qv m_pk ?_
      refine qv m_mv ?_
      refine qqF (f29) ?_
      refine qv m_pk ?_
      refine qv m_as ?_
      show AWp cx _ _ _
      refine awp_ret ?_
      exact x1 (hr := (rB_))
    · skip
      obtain ⟨k1, k2, ⟨k3, k4⟩, k5, k6, k7, k8, k9, k10⟩ := settle_script (h := h) (a := a) (by simpa using hg66)
      refine qv m_mv ?_
      refine qqF (f28 a k3 k4) ?_
      refine qv m_mv ?_
      refine qqF (f28 (settleR h a).1 k5 k6) ?_ (ha := (args_cons (data_ints (L := (settleR h a).1) (by simp only [mkM, reduceIte, Nat.reduceEqDiff] <;> rfl) trivial (by first | rfl | omega | (simp; done) | (simp; omega)) rfl rfl (fun _ => trivial)) args_nil))
      refine qv m_mv ?_
      refine qv m_add ?_
      refine qv m_eql ?_
      refine qx m_mv (fun hg74 => ?_) (fun hg74 => ?_)
      rotate_left
      · exact absurd hg74 (by simp [k2])
      refine qv (m_ldpa sz25 ag25) ?_
      refine qv m_mv ?_
      refine qv m_mv ?_
      refine qv m_mv ?_
      refine qqF (f49 h a (settleR h a).1 (settleR h a).2.1 settleR_len.2) ?_ (ha := (args_cons data_dv (args_cons data_dv (args_cons (data_ints (L := (settleR h a).1) (by simp only [mkM, reduceIte, Nat.reduceEqDiff] <;> rfl) trivial (by first | rfl | omega | (simp; done) | (simp; omega)) rfl rfl (fun _ => trivial)) (args_cons (data_ints (L := (settleR h a).2.1) (by simp only [mkM, reduceIte, Nat.reduceEqDiff] <;> rfl) trivial (by first | rfl | omega | (simp; done) | (simp; omega)) rfl rfl (fun _ => trivial)) args_nil)))))
      refine qv m_eql ?_
      refine qv m_pk ?_
      refine qv m_pk ?_
      refine qx m_mv (fun hg83 => ?_) (fun hg83 => ?_)
      rotate_left
      · exact absurd hg83 (by simp [k1])
      refine qqF (f29) ?_
      refine qv m_pk ?_
      refine qv m_as ?_
      show AWp cx _ _ _
      refine awp_ret ?_
      exact x1 (hr := (rB_))

end Go.Ab.Try
