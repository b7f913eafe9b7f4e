/- The functions of the moss laws, part 20. The walks are written by wip/gen/gw.py. -/
import Derived.Test.YtjipgkhfbfpacaaDoorMoss19
import Derived.Test.YtjipgkhfbfpacaaDoorMossFacts
import Derived.Test.YtjipgkhfbfpacaaDoorMossD
set_option linter.all false
namespace Go.Ab.Tryd
open Go Go.Ab Go.Proofs Go.Ab.Moss

/-- After how many steps a square is wet, if ever. -/
def dayN (n : Mn) (k w : Nat) : Nat × Bool := if w.testBit k then (0, true) else if h : rdN n w = 0 then (0, false) else
  have := dryC_lt h
  if (dayN n k (w ||| rdN n w)).2 then ((dayN n k (w ||| rdN n w)).1 + 1, true) else (0, false)
termination_by dryC n w
theorem day_yes {n : Mn} {k w : Nat} (h : w.testBit k = true) : dayN n k w = (0, true) := by rw [dayN]; simp [h]
theorem day_no {n : Mn} {k w : Nat} (h : w.testBit k = false) (h0 : rdN n w = 0) : dayN n k w = (0, false) := by rw [dayN]; simp [h, h0]
def shD (t : Nat) (r : Nat × Bool) : Nat × Bool := if r.2 then (t + r.1, true) else (0, false)
theorem day_step {n : Mn} {k w : Nat} (h : w.testBit k = false) (h0 : rdN n w ≠ 0) : dayN n k w = shD 1 (dayN n k (w ||| rdN n w)) := by
  rw [dayN]; simp only [h, h0, shD, dite_false, Bool.false_eq_true, if_false]
  split
  · rw [Nat.add_comm]
  · rfl
theorem sh_sh {t : Nat} {r : Nat × Bool} : shD t (shD 1 r) = shD (t + 1) r := by
  unfold shD
  cases h : r.2 with
  | true => simp; omega
  | false => simp
theorem day_nf {n : Mn} (k w : Nat) : dayN n k w = shD 0 (dayN n k w) := by
  cases hb : w.testBit k with
  | true => rw [day_yes hb]; rfl
  | false =>
    by_cases h0 : rdN n w = 0
    · rw [day_no hb h0]; rfl
    · rw [day_step hb h0, sh_sh]
theorem day_spec {n : Mn} (k w : Nat) : (dayN n k w).2 = (spr n w).1.testBit k ∧ (dayN n k w).1 ≤ (spr n w).2 := by
  refine spr_ind (n := n) (C := fun w => (dayN n k w).2 = (spr n w).1.testBit k ∧ (dayN n k w).1 ≤ (spr n w).2) (fun w h => ?_) (fun w h ih => ?_) w
  · cases hb : w.testBit k with
    | true => rw [day_yes hb, spr_zero h]; exact ⟨hb.symm, Nat.le_refl _⟩
    | false => rw [day_no hb h, spr_zero h]; exact ⟨hb.symm, Nat.le_refl _⟩
  · cases hb : w.testBit k with
    | true => rw [day_yes hb]; exact ⟨(spr_sub w k hb).symm, Nat.zero_le _⟩
    | false =>
      rw [day_step hb h, spr_step h]
      obtain ⟨h1, h2⟩ := ih
      unfold shD
      rw [h1]
      split
      · rename_i h3; rw [h3] at *; exact ⟨rfl, by simp only; omega⟩
      · rename_i h3; simp at h3; exact ⟨h3.symm, Nat.zero_le _⟩
def dayR (m : Mw) (w s : Int) : Int × Bool × Int := if wetE m w = 0 then (if fromB s 0 (m.rows * m.cols - 1) then (((dayN (toMn m) s.toNat w.toNat).1 : Int), (dayN (toMn m) s.toNat w.toNat).2, 0) else (0, false, 4)) else (0, false, wetE m w)
theorem dayR_no {m : Mw} {w s : Int} (h : ¬ wetE m w = 0) : dayR m w s = (0, false, wetE m w) := by unfold dayR; rw [if_neg h]
theorem dayR_bad {n : Mn} (ok : n.Ok) {v : Nat} (hv : v ≤ full n) {s : Int} (h : fromB s 0 ((n.r * n.c : Nat) - 1) = false) : dayR n.w v s = (0, false, 4) := by
  have e : (n.w.rows * n.w.cols - 1) = ((n.r * n.c : Nat) : Int) - 1 := by simp
  unfold dayR
  rw [if_pos (wetE_v ok hv), e, if_neg (by rw [h]; simp)]
theorem dayR_ok {n : Mn} (ok : n.Ok) {v : Nat} (hv : v ≤ full n) {k : Nat} (hk : k < n.r * n.c) : dayR n.w v k = (((dayN n k v).1 : Int), (dayN n k v).2, 0) := by
  have e : (n.w.rows * n.w.cols - 1) = ((n.r * n.c : Nat) : Int) - 1 := by simp
  unfold dayR
  rw [if_pos (wetE_v ok hv), e, if_pos, toMn_w, Int.toNat_natCast, Int.toNat_natCast]
  simp only [fromB, Bool.and_eq_true, decide_eq_true_eq]; omega
theorem dayR_fit {m : Mw} {w s : Int} (h : (dayR m w s).2.2 = 0) : ∃ (n : Mn) (v k : Nat), n.Ok ∧ m = n.w ∧ w = (v : Int) ∧ v ≤ full n ∧ s = (k : Int) ∧ k < n.r * n.c := by
  by_cases he : wetE m w = 0
  · obtain ⟨n, v, ok, rfl, rfl, hv⟩ := wetE_ok he
    cases hs : fromB s 0 ((n.r * n.c : Nat) - 1) with
    | false => rw [dayR_bad ok hv hs] at h; cases h
    | true =>
      simp only [fromB, Bool.and_eq_true, decide_eq_true_eq] at hs
      exact ⟨n, v, s.toNat, ok, rfl, rfl, hv, by omega, by omega⟩
  · rw [dayR_no he] at h; exact absurd h he
theorem sq_of {n : Mn} {s : Int} (hs : fromB s 0 ((n.r * n.c : Nat) - 1) = true) : ∃ k : Nat, k < n.r * n.c ∧ s = (k : Int) := by
  simp only [fromB, Bool.and_eq_true, decide_eq_true_eq] at hs
  exact ⟨s.toNat, by omega, by omega⟩


theorem f37 (m : Mw) (w s : Int) : ACallsF Tryd.prog 37 [dMw m, i64 w, i64 s] (.many [.dv (i64 (dayR m w s).1), .dv (.bool (dayR m w s).2.1), .dv (i64 (dayR m w s).2.2)]) := by
  refine callsF_of Tryd.func37 rfl rfl (by rw [Tryd.ntmps37]; simp) fun cx hP hn hg => ?_
  rw [Tryd.ntmps37] at hn
  rw [startF_lk, none_mkM]
  simp only [List.nil_append, List.append_nil, List.cons_append, zipSV, Nat.reduceAdd]
  refine awp_seq ?_
  refine rg ?_
  refine qp m_box ?_
  refine qv m_as ?_
  refine qv m_as ?_
  refine qv m_as ?_
  show AWp cx _ _ _
  refine awp_seq ?_
  refine awp_seq ?_
  refine rg ?_
  refine qv (m_ldpa sz23 ag23) ?_
  refine qv m_mv ?_
  refine qqF (f56 m w) ?_
  refine qv m_as ?_
  show AWp cx _ _ _
  refine awp_seq ?_
  refine rg ?_
  refine qv m_mv ?_
  refine qv m_neq ?_
  show AWp cx _ _ _
  refine cd (fun hc0 => ?_) (fun hc0 => ?_)
  · skip
    have hne : ¬ wetE m w = 0 := by simpa using hc0
    refine awp_seq ?_
    refine rg ?_
    refine qv m_mv ?_
    refine qv m_as ?_
    refine qv m_as ?_
    refine qv m_as ?_
    show AWp cx _ _ _
    refine awp_ret ?_
    rw [dayR_no hne]
    exact x3 (hr := (rI_)) (hr' := (rB_)) (hr'' := (rI_))
  · skip
    have he : wetE m w = 0 := by simpa using hc0
    obtain ⟨n, v, ok, rfl, rfl, hv⟩ := wetE_ok he
    have hv36 := le36 ok hv
    have hwe := wetE_v ok hv
    refine awp_skip ?_
    show AWp cx _ _ _
    refine awp_seq ?_
    refine awp_seq ?_
    refine rg ?_
    refine qv (m_ldpa sz23 ag23) ?_
    refine qv m_mv ?_
    refine qqF (f65 n ok s) ?_
    refine qv m_not ?_
    show AWp cx _ _ _
    refine cd (fun hc1 => ?_) (fun hc1 => ?_)
    · skip
      have hs : fromB s 0 ((n.r * n.c : Nat) - 1) = false := by simpa using hc1
      refine awp_seq ?_
      refine rg ?_
      refine qv m_as ?_
      refine qv m_as ?_
      refine qv m_as ?_
      show AWp cx _ _ _
      refine awp_ret ?_
      rw [dayR_bad ok hv hs]
      exact x3 (hr := (rI_)) (hr' := (rB_)) (hr'' := (rI_))
    · skip
      have hs : fromB s 0 ((n.r * n.c : Nat) - 1) = true := by simpa using hc1
      obtain ⟨k, hk, rfl⟩ := sq_of hs
      have hN := ok.N2
      have hdl := dryC_le (n := n) (w := v)
      refine awp_skip ?_
      show AWp cx _ _ _
      refine awp_seq ?_
      refine rg ?_
      refine qv m_as ?_
      show AWp cx _ _ _
      refine awp_block ?_
      refine awp_loop (ι := Nat × Nat) (fun q => ⟨lk [(1, .dv (i64 (q.2 : Nat))), (2, .dv (i64 ((k : Int)))), (3, .pt 3 0 0), (10, .dv (i64 (q.1 : Nat)))], mkM [(3, 0, some ⟨[.dv (i64 ((n.r : Int))), .dv (i64 ((n.c : Int))), .dv (i64 ((n.nd : Int)))], 0, 23, 0, false⟩)]⟩) (fun q => q.2 < 68719476736 ∧ q.1 + dryC n q.2 ≤ 36 ∧ dayN n k v = shD q.1 (dayN n k q.2)) (fun q => dryC n q.2) (0, v) ⟨hv36, by simp only; omega, day_nf k v⟩ (tl [(3, 3)]) ?_
      intro q hφ0
      obtain ⟨hq1, hq2, hq3⟩ := hφ0
      refine awp_seq ?_
      refine awp_block ?_
      refine awp_seq ?_
      refine awp_seq ?_
      refine rg ?_
      refine qv m_mv ?_
      refine qv m_mv ?_
      refine qqF (f77 q.2 k hq1 (by omega)) ?_
      show AWp cx _ _ _
      refine cd (fun hc2 => ?_) (fun hc2 => ?_)
      · skip
        have hd := day_yes (n := n) hc2
        refine awp_seq ?_
        refine rg ?_
        refine qv m_mv ?_
        refine qv m_as ?_
        refine qv m_as ?_
        refine qv m_as ?_
        show AWp cx _ _ _
        refine awp_ret ?_
        rw [hd] at hq3
        rw [dayR_ok ok hv hk, hq3]
        simp only [shD, if_true, Nat.add_zero]
        exact x3 (hr := (rI_)) (hr' := (rB_)) (hr'' := (rI_))
      · skip
        have hb : q.2.testBit k = false := by simpa using hc2
        refine awp_skip ?_
        show AWp cx _ _ _
        refine awp_seq ?_
        refine rg ?_
        refine qv (m_ldpa sz23 ag23) ?_
        refine qv m_mv ?_
        refine qqF (f64 n ok q.2 hq1) ?_
        refine qv m_as ?_
        show AWp cx _ _ _
        refine awp_seq ?_
        refine awp_seq ?_
        refine rg ?_
        refine qv m_mv ?_
        refine qv m_eql ?_
        show AWp cx _ _ _
        refine cd (fun hc3 => ?_) (fun hc3 => ?_)
        · skip
          have hd := day_no hb (by simpa using hc3)
          refine awp_seq ?_
          refine rg ?_
          refine qv m_as ?_
          refine qv m_as ?_
          refine qv m_as ?_
          show AWp cx _ _ _
          refine awp_ret ?_
          rw [hd] at hq3
          rw [dayR_ok ok hv hk, hq3]
          simp only [shD, Bool.false_eq_true, if_false]
          exact x3 (hr := (rI_)) (hr' := (rB_)) (hr'' := (rI_))
        · skip
          have h0 : rdN n q.2 ≠ 0 := by simpa using hc3
          have hd := day_step hb h0
          have hdl2 := dryC_lt h0
          refine awp_skip ?_
          show AWp cx _ _ _
          refine rg ?_
          refine qv m_mv ?_
          refine qv m_mv ?_
          refine qv (m_orS (ha := hq1) (hb := rdN_lt ok)) ?_
          refine qv m_as ?_
          show AWp cx _ _ _
          refine rg ?_
          refine qv m_mv ?_
          refine qv m_add ?_
          refine qv m_as ?_
          exact ⟨(q.1 + 1, q.2 ||| rdN n q.2), ⟨or36 hq1 (rdN_lt ok), by simp only; omega, by rw [hq3, hd, sh_sh]⟩, hdl2, (tl [(3, 3)])⟩

set_option maxHeartbeats 4000000 in
theorem f38 (m : Mw) (w s : Int) : ACallsF Tryd.prog 38 [dMw m, i64 w, i64 s] (.many [.dv (i64 (dayR m w s).1), .dv (.bool (dayR m w s).2.1), .dv (i64 (dayR m w s).2.2)]) := by
  refine callsF_of Tryd.func38 rfl rfl (by rw [Tryd.ntmps38]; simp) fun cx hP hn hg => ?_
  rw [Tryd.ntmps38] at hn
  rw [startF_lk, none_mkM]
  simp only [List.nil_append, List.append_nil, List.cons_append, zipSV, Nat.reduceAdd]
  refine awp_seq ?_
  refine rg ?_
  refine qp m_box ?_
  refine qv m_as ?_
  refine qv m_as ?_
  refine qv m_as ?_
  show AWp cx _ _ _
  refine awp_seq ?_
  refine rg ?_
  refine qv (m_ldpa sz23 ag23) ?_
  refine qv m_mv ?_
  refine qqF (f61 m w) ?_
  refine qv m_as ?_
  show AWp cx _ _ _
  refine awp_seq ?_
  refine awp_seq ?_
  refine rg ?_
  refine qv m_mv ?_
  refine qv m_neq ?_
  show AWp cx _ _ _
  refine cd (fun hc0 => ?_) (fun hc0 => ?_)
  · skip
    have hne : ¬ wetE m w = 0 := by simpa using hc0
    refine awp_seq ?_
    refine rg ?_
    refine qv m_mv ?_
    refine qv m_as ?_
    refine qv m_as ?_
    refine qv m_as ?_
    show AWp cx _ _ _
    refine awp_ret ?_
    rw [dayR_no hne]
    exact x3 (hr := (rI_)) (hr' := (rB_)) (hr'' := (rI_))
  · skip
    have he : wetE m w = 0 := by simpa using hc0
    obtain ⟨n, v, ok, rfl, rfl, hv⟩ := wetE_ok he
    have hv36 := le36 ok hv
    have hwe := wetE_v ok hv
    refine awp_skip ?_
    show AWp cx _ _ _
    refine awp_seq ?_
    refine awp_seq ?_
    refine rg ?_
    have hN := ok.N2
    have hN1 := ok.N1
    refine qv m_mv ?_
    refine qv (m_ldpa sz23 ag23) ?_
    refine qqF (f62 n ok) ?_
    refine qv m_sub ?_
    refine qqF (f66 s 0 ((n.r * n.c : Nat) - 1)) ?_
    refine qv m_not ?_
    show AWp cx _ _ _
    refine cd (fun hc1 => ?_) (fun hc1 => ?_)
    · skip
      have hs : fromB s 0 ((n.r * n.c : Nat) - 1) = false := by simpa using hc1
      refine awp_seq ?_
      refine rg ?_
      refine qv m_as ?_
      refine qv m_as ?_
      refine qv m_as ?_
      show AWp cx _ _ _
      refine awp_ret ?_
      rw [dayR_bad ok hv hs]
      exact x3 (hr := (rI_)) (hr' := (rB_)) (hr'' := (rI_))
    · skip
      have hs : fromB s 0 ((n.r * n.c : Nat) - 1) = true := by simpa using hc1
      obtain ⟨k, hk, rfl⟩ := sq_of hs
      have hN := ok.N2
      have hdl := dryC_le (n := n) (w := v)
      have hst36 := (spr_lt ok _ v (Nat.le_refl _) hv36).2
      refine awp_skip ?_
      show AWp cx _ _ _
      refine awp_seq ?_
      refine rg ?_
      refine qv (m_ldpa sz23 ag23) ?_
      refine qv m_mv ?_
      refine qqF (f70 n ok v hv36) ?_
      refine qv m_mv ?_
      refine qv m_ext ?_
      refine qv m_ext ?_
      refine qv m_as ?_
      refine qv m_as ?_
      show AWp cx _ _ _
      refine awp_seq ?_
      refine awp_seq ?_
      refine rg ?_
      refine qv m_as ?_
      show AWp cx _ _ _
      refine awp_block ?_
      refine awp_loop (ι := Nat × Nat) (fun q => ⟨lk [(1, .dv (i64 (q.2 : Nat))), (2, .dv (i64 ((k : Int)))), (3, .pt 3 0 0), (11, .dv (i64 ((spr n v).2 : Int))), (12, .dv (i64 (q.1 : Nat)))], mkM [(3, 0, some ⟨[.dv (i64 ((n.r : Int))), .dv (i64 ((n.c : Int))), .dv (i64 ((n.nd : Int)))], 0, 23, 0, false⟩)]⟩) (fun q => q.2 < 68719476736 ∧ ((q.1 ≤ (spr n v).2 ∧ (spr n v).2 = q.1 + (spr n q.2).2 ∧ dayN n k v = shD q.1 (dayN n k q.2)) ∨ (q.1 = (spr n v).2 + 1 ∧ dayN n k v = (0, false)))) (fun q => (spr n v).2 + 1 - q.1) (0, v) ⟨hv36, .inl ⟨Nat.zero_le _, by simp only; omega, day_nf k v⟩⟩ (tl [(3, 3)]) ?_
      intro q hφ0
      obtain ⟨hq1, hq2⟩ := hφ0
      refine awp_seq ?_
      refine awp_seq ?_
      refine rg ?_
      refine qv m_mv ?_
      refine qv m_mv ?_
      refine qv m_leq ?_
      show AWp cx _ _ _
      refine cd (fun hc2 => ?_) (fun hc2 => ?_)
      · try simp at hc2
        have hqs : q.1 ≤ (spr n v).2 := by omega
        have hq5 : (spr n v).2 = q.1 + (spr n q.2).2 ∧ dayN n k v = shD q.1 (dayN n k q.2) := by
          rcases hq2 with h | h
          · exact h.2
          · omega
        refine awp_skip ?_
        show AWp cx _ _ _
        refine awp_seq ?_
        refine awp_block ?_
        refine awp_seq ?_
        refine awp_seq ?_
        refine rg ?_
        refine qv m_mv ?_
        refine qv m_mv ?_
        refine qqF (f36 q.2 k hq1 (by omega)) ?_
        show AWp cx _ _ _
        refine cd (fun hc3 => ?_) (fun hc3 => ?_)
        · skip
          have hd := day_yes (n := n) hc3
          refine awp_seq ?_
          refine rg ?_
          refine qv m_mv ?_
          refine qv m_as ?_
          refine qv m_as ?_
          refine qv m_as ?_
          show AWp cx _ _ _
          refine awp_ret ?_
          rw [dayR_ok ok hv hk, hq5.2, hd]
          simp only [shD, if_true, Nat.add_zero]
          exact x3 (hr := (rI_)) (hr' := (rB_)) (hr'' := (rI_))
        · skip
          have hb : q.2.testBit k = false := by simpa using hc3
          refine awp_skip ?_
          show AWp cx _ _ _
          refine rg ?_
          refine qv (m_ldpa sz23 ag23) ?_
          refine qv m_mv ?_
          refine qqF (f69 n ok q.2 hq1) ?_
          refine qv m_as ?_
          show AWp cx _ _ _
          refine rg ?_
          refine qv m_mv ?_
          refine qv m_add ?_
          refine qv m_as ?_
          exact ⟨(q.1 + 1, stN n q.2), ⟨by rw [stN_eq ok]; exact or36 hq1 (rdN_lt ok), by
                simp only
                rw [stN_eq ok]
                by_cases h0 : rdN n q.2 = 0
                · rw [day_no hb h0, spr_zero h0] at hq5
                  exact .inr ⟨by simp at hq5; omega, by rw [hq5.2]; rfl⟩
                · rw [day_step hb h0, spr_step h0, sh_sh] at hq5
                  exact .inl ⟨by simp only at hq5; omega, by simp only at hq5; omega, hq5.2⟩⟩, (by simp only; omega), (tl [(3, 3)])⟩
      · try simp at hc2
        refine awp_exit ?_
        show AWp cx _ _ _
        refine awp_seq ?_
        refine rg ?_
        refine qv m_as ?_
        refine qv m_as ?_
        refine qv m_as ?_
        show AWp cx _ _ _
        refine awp_ret ?_
        have hq5 : dayN n k v = (0, false) := by
          rcases hq2 with h | h
          · omega
          · exact h.2
        rw [dayR_ok ok hv hk, hq5]
        exact x3 (hr := (rI_)) (hr' := (rB_)) (hr'' := (rI_))

set_option maxHeartbeats 4000000 in
theorem f8 (m : Mw) (w s : Int) : ACallsF Tryd.prog 8 [dMw m, i64 w, i64 s] (.one (.dv (.bool true))) := by
  refine callsF_of Tryd.func8 rfl rfl (by rw [Tryd.ntmps8]; simp) fun cx hP hn hg => ?_
  rw [Tryd.ntmps8] at hn
  rw [startF_lk, none_mkM]
  simp only [List.nil_append, List.append_nil, List.cons_append, zipSV, Nat.reduceAdd]
  refine awp_seq ?_
  refine rg ?_
  refine qp m_box ?_
  refine qv m_as ?_
  show AWp cx _ _ _
  refine awp_seq ?_
  refine rg ?_
  refine qv (m_ldpa sz23 ag23) ?_
  refine qv m_mv ?_
  refine qv m_mv ?_
  refine qqF (f37 m w s) ?_
  refine qv m_mv ?_
  refine qv m_ext ?_
  refine qv m_ext ?_
  refine qv m_ext ?_
  refine qv m_as ?_
  refine qv m_as ?_
  refine qv m_as ?_
  show AWp cx _ _ _
  refine awp_seq ?_
  refine rg ?_
  refine qv (m_ldpa sz23 ag23) ?_
  refine qv m_mv ?_
  refine qv m_mv ?_
  refine qqF (f38 m w s) ?_
  refine qv m_mv ?_
  refine qv m_ext ?_
  refine qv m_ext ?_
  refine qv m_ext ?_
  refine qv m_as ?_
  refine qv m_as ?_
  refine qv m_as ?_
  show AWp cx _ _ _
  refine awp_seq ?_
  refine awp_seq ?_
  refine rg ?_
  refine qv m_mv ?_
  refine qv m_mv ?_
  refine qv m_neq ?_
  refine qx m_mv (fun hg35 => ?_) (fun hg35 => ?_)
  · exact absurd hg35 (by simp)
  refine qv m_mv ?_
  refine qv m_mv ?_
  refine qv (m_bne ib4) ?_
  refine qv m_pk ?_
  refine qx m_mv (fun hg40 => ?_) (fun hg40 => ?_)
  · exact absurd hg40 (by simp)
  refine qv m_mv ?_
  refine qv m_mv ?_
  refine qv m_neq ?_
  refine qv m_pk ?_
  show AWp cx _ _ _
  refine cdF (hb := by simp) (ht := ?_)
  refine awp_skip ?_
  show AWp cx _ _ _
  refine awp_seq ?_
  refine rg ?_
  refine qv (m_ldpa sz23 ag23) ?_
  refine qv m_mv ?_
  refine qqF (f17 m w) ?_
  refine qv m_mv ?_
  refine qv m_ext ?_
  refine qv m_ext ?_
  refine qv m_ext ?_
  refine qv m_as ?_
  refine qv m_as ?_
  refine qv m_as ?_
  show AWp cx _ _ _
  refine awp_seq ?_
  refine rg ?_
  refine qv m_mv ?_
  refine qv m_neq ?_
  refine qx m_mv (fun hg54 => ?_) (fun hg54 => ?_)
  · skip
    refine qk ?_
    refine qk ?_
    refine qk ?_
    refine qk ?_
    refine qk ?_
    refine qk ?_
    refine qk ?_
    refine qk ?_
    refine qk ?_
    refine qk ?_
    refine qk ?_
    refine qk ?_
    refine qk ?_
    refine qk ?_
    refine qv m_pk ?_
    refine qv m_mv ?_
    refine qqF (f18) ?_
    refine qv m_pk ?_
    refine qv m_as ?_
    show AWp cx _ _ _
    refine awp_ret ?_
    exact x1 (hr := (rB_))
  · skip
    obtain ⟨n, v, k, ok, rfl, rfl, hv, rfl, hk⟩ := dayR_fit (show (dayR m w s).2.2 = 0 by simpa using hg54)
    rw [dayR_ok ok hv hk, onWet_ok ok hv, onWet_ok ok hv, wetE_v ok hv]
    have hN := ok.N2
    have hs36 := le36 ok (spr_full (n := n) v hv)
    obtain ⟨ds1, ds2⟩ := day_spec (n := n) k v
    refine qv m_mv ?_
    refine qv m_eql ?_
    refine qx m_mv (fun hg57 => ?_) (fun hg57 => ?_)
    rotate_left
    · exact absurd hg57 (by simp)
    refine qv m_mv ?_
    refine qv m_mv ?_
    refine qv m_mv ?_
    refine qqF (f36 (spr n v).1 k hs36 (by omega)) ?_
    refine qv (m_beq ib4) ?_
    refine qv m_pk ?_
    refine qx m_mv (fun hg64 => ?_) (fun hg64 => ?_)
    rotate_left
    · exact absurd hg64 (by simp [ds1])
    refine qv m_mv ?_
    refine qv m_mv ?_
    refine qv m_leq ?_
    refine qv m_pk ?_
    refine qv m_pk ?_
    refine qx m_mv (fun hg70 => ?_) (fun hg70 => ?_)
    rotate_left
    · exact absurd hg70 (by first | (simp; done) | (simp; omega))
    refine qqF (f18) ?_
    refine qv m_pk ?_
    refine qv m_as ?_
    show AWp cx _ _ _
    refine awp_ret ?_
    exact x1 (hr := (rB_))

end Go.Ab.Tryd
