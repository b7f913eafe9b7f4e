/- The functions of the moss laws, part 16. The walks are written by wip/gen/gw.py. -/
import Derived.Test.YtjipgkhfbfpacaaDoorMoss15
import Derived.Test.YtjipgkhfbfpacaaDoorMossFacts
import Derived.Test.YtjipgkhfbfpacaaDoorMossD
set_option linter.all false
namespace Go.Ab.Tryd
open Go Go.Ab Go.Proofs Go.Ab.Moss

theorem popc_half {x : Nat} (hx : x < 2 ^ 64) : popc x = x % 2 + popc (x / 2) := by
  have h1 : pc (1 + 63) x = pc 1 x + pc 63 (x / 2 ^ 1) := pc_add 1 63 x
  have h2 : pc (63 + 1) (x / 2) = pc 63 (x / 2) + pc 1 (x / 2 / 2 ^ 63) := pc_add 63 1 (x / 2)
  have h3 : x / 2 / 2 ^ 63 = 0 := by rw [Nat.div_div_eq_div_mul]; exact Nat.div_eq_of_lt (by omega)
  have h4 : pc 1 0 = 0 := by decide
  have h5 : pc 1 x = x % 2 := by
    unfold pc
    simp only [List.range_one, List.countP_cons, List.countP_nil, Nat.zero_add, Nat.testBit_zero]
    rcases Nat.mod_two_eq_zero_or_one x with h | h <;> simp [h]
  rw [h3, h4] at h2
  show pc 64 x = x % 2 + pc 64 (x / 2)
  rw [show (64 : Nat) = 1 + 63 from rfl, h1, h5, show 1 + 63 = 63 + 1 from rfl, h2]
  simp
theorem mul_bd {a b : Int} (h1 : 0 < a) (h2 : 0 < b) (h3 : a ≤ 6) (h4 : b ≤ 6) : 0 < a * b ∧ a * b ≤ 36 := by
  have h5 := Int.mul_pos h1 h2
  have h6 := Int.mul_le_mul h3 h4 (by omega) (by omega)
  omega
theorem popc_zero : popc 0 = 0 := by decide
/-- The best set so far, among those below k. -/
def bestF (n : Mn) : Nat → Nat
  | 0 => full n
  | k + 1 => if popc k < popc (bestF n k) ∧ (spr n k).1 = full n then k else bestF n k
def best (n : Mn) : Nat := bestF n (full n)
theorem spr_fix {n : Mn} : (spr n (full n)).1 = full n := by
  refine Sub.antisymm (fun i hi => ?_) (spr_sub _)
  have h := le_full_iff.1 (spr_full (n := n) _ (Nat.le_refl _)) i hi
  have h2 := full_add (n := n)
  unfold full
  rw [Nat.testBit_two_pow_sub_one]
  simp [h]
theorem popc_lt_full {n : Mn} (ok : n.Ok) {s : Nat} (hs : s ≤ full n) (hne : s ≠ full n) : popc s < popc (full n) := by
  have hsub : Sub s (full n) := fun i hi => by
    have := le_full_iff.1 hs i hi
    unfold full
    rw [Nat.testBit_two_pow_sub_one]
    simp [this]
  obtain ⟨i, hi1, hi2⟩ : ∃ i, (full n).testBit i = true ∧ s.testBit i = false := by
    refine Classical.byContradiction fun hc => hne (Sub.antisymm hsub fun i hi => ?_)
    cases hb : s.testBit i with
    | true => rfl
    | false => exact absurd ⟨i, hi, hb⟩ hc
  refine countP_lt _ i (List.mem_range.2 ?_) (fun k _ hk => hsub k hk) hi1 hi2
  have h5 := le_full_iff.1 (Nat.le_refl (full n)) i hi1
  have := ok.N2
  omega
theorem bestF_spec {n : Mn} (ok : n.Ok) : ∀ k, k ≤ full n → (spr n (bestF n k)).1 = full n ∧ (bestF n k < k ∨ bestF n k = full n) ∧ ∀ s, s < k → (spr n s).1 = full n → popc (bestF n k) < popc s ∨ (popc (bestF n k) = popc s ∧ bestF n k ≤ s)
  | 0, _ => ⟨spr_fix, .inr rfl, fun s hs => absurd hs (Nat.not_lt_zero _)⟩
  | k + 1, hk => by
    obtain ⟨h1, h2, h3⟩ := bestF_spec ok k (by omega)
    simp only [bestF]
    by_cases h : popc k < popc (bestF n k) ∧ (spr n k).1 = full n
    · rw [if_pos h]
      refine ⟨h.2, .inl (by omega), fun s hs hf => ?_⟩
      rcases Nat.lt_or_ge s k with h4 | h4
      · have := h3 s h4 hf; omega
      · have : s = k := by omega
        subst this; omega
    · rw [if_neg h]
      refine ⟨h1, by omega, fun s hs hf => ?_⟩
      rcases Nat.lt_or_ge s k with h4 | h4
      · exact h3 s h4 hf
      · have : s = k := by omega
        subst this
        have h5 : ¬ popc s < popc (bestF n s) := fun h5 => h ⟨h5, hf⟩
        rcases Nat.lt_or_ge (popc (bestF n s)) (popc s) with h6 | h6
        · exact .inl h6
        · have h7 := popc_lt_full ok (s := s) (by omega)
          refine .inr ⟨by omega, ?_⟩
          rcases h2 with h2 | h2
          · omega
          · rw [h2] at h6 h5
            have := h7 (by omega)
            omega
def Fills (n : Mn) (b k : Nat) : Prop := (spr n b).1 = full n ∧ b ≤ full n ∧ ∀ s, k ≤ s → s ≤ full n → (spr n s).1 = full n → popc b < popc s ∨ (popc b = popc s ∧ b ≤ s)
theorem best_fills {n : Mn} (ok : n.Ok) : Fills n (best n) 0 := by
  obtain ⟨h1, h2, h3⟩ := bestF_spec ok (full n) (Nat.le_refl _)
  refine ⟨h1, by unfold best; omega, fun s _ hs hf => ?_⟩
  rcases Nat.lt_or_ge s (full n) with h | h
  · exact h3 s h hf
  · obtain rfl : s = full n := by omega
    rcases h2 with h2 | h2
    · refine .inl ?_
      exact popc_lt_full ok (show bestF n (full n) ≤ full n by omega) (show bestF n (full n) ≠ full n by omega)
    · exact .inr ⟨congrArg popc h2, Nat.le_of_eq h2⟩
theorem fills_uniq {n : Mn} {a b : Nat} (ha : Fills n a 0) (hb : Fills n b 0) : a = b := by
  have h1 := ha.2.2 b (Nat.zero_le _) hb.2.1 hb.1
  have h2 := hb.2.2 a (Nat.zero_le _) ha.2.1 ha.1
  omega
theorem bestF_le {n : Mn} (ok : n.Ok) {k : Nat} (hk : k ≤ full n) : bestF n k ≤ full n := by
  have := (bestF_spec ok k hk).2.1
  omega
def fewR (m : Mw) : Int × Int × Int := if validB m then (if m.rows * m.cols > 12 then (0, 0, 3) else ((popc (best (toMn m)) : Int), (best (toMn m) : Int), 0)) else (0, 0, 1)
theorem fewR_no {m : Mw} (h : validB m = false) : fewR m = (0, 0, 1) := by simp [fewR, h]
theorem fewR_big {n : Mn} (ok : n.Ok) (h : 12 < n.r * n.c) : fewR n.w = (0, 0, 3) := by
  have e : n.w.rows * n.w.cols = ((n.r * n.c : Nat) : Int) := by simp
  unfold fewR
  rw [if_pos (n_valid ok), e, if_pos (by omega)]
theorem fewR_ok {n : Mn} (ok : n.Ok) (h : n.r * n.c ≤ 12) : fewR n.w = ((popc (best n) : Int), (best n : Int), 0) := by
  have e : n.w.rows * n.w.cols = ((n.r * n.c : Nat) : Int) := by simp
  unfold fewR
  rw [if_pos (n_valid ok), e, if_neg (by omega), toMn_w]
theorem fewR_fit {m : Mw} (h : (fewR m).2.2 = 0) : ∃ n : Mn, n.Ok ∧ m = n.w ∧ n.r * n.c ≤ 12 ∧ fewR m = ((popc (best n) : Int), (best n : Int), 0) := by
  cases hv : validB m with
  | false => rw [fewR_no hv] at h; cases h
  | true =>
    obtain ⟨n, ok, rfl⟩ := valid_n hv
    rcases Nat.lt_or_ge 12 (n.r * n.c) with h1 | h1
    · rw [fewR_big ok h1] at h; cases h
    · exact ⟨n, ok, rfl, h1, fewR_ok ok h1⟩
theorem edge_full_all : ((List.range 6).all fun r => (List.range 6).all fun c => decide (edgeR ⟨r + 1, c + 1, 0⟩ (full ⟨r + 1, c + 1, 0⟩) = 2 * ((r : Int) + 1 + (c + 1)))) = true := by decide +kernel
theorem edge_full {n : Mn} (ok : n.Ok) : edgeR n (full n) = 2 * ((n.r : Int) + n.c) := by
  obtain ⟨a1, a2, a3, a4, _, _⟩ := ok
  have h := edge_full_all
  rw [List.all_eq_true] at h
  have h1 := h (n.r - 1) (List.mem_range.2 (by omega))
  rw [List.all_eq_true] at h1
  have h2 := h1 (n.c - 1) (List.mem_range.2 (by omega))
  rw [decide_eq_true_eq] at h2
  obtain ⟨r, c, d⟩ := n
  simp only at *
  rw [show r - 1 + 1 = r by omega, show c - 1 + 1 = c by omega] at h2
  refine Eq.trans (show edgeR ⟨r, c, d⟩ (full ⟨r, c, d⟩) = edgeR ⟨r, c, 0⟩ (full ⟨r, c, 0⟩) from rfl) (h2.trans ?_)
  omega
theorem siz_popc {n : Mn} (ok : n.Ok) {v : Nat} (hv : v ≤ full n) : sizI n v = (popc v : Int) := by
  have h := bl_range ok hv
  have h1 := congrArg List.length h
  rw [bl_length, ← List.countP_eq_length_filter] at h1
  rw [sizI, ← countP_sum, ← h1]
theorem few_law {n : Mn} (ok : n.Ok) (h2 : 2 ≤ n.nd) : (n.r : Int) + n.c ≤ 2 * (popc (best n) : Int) := by
  obtain ⟨h1, h3, _⟩ := best_fills ok
  have h4 := edge_spr ok h2 (best n) h3
  rw [h1, edge_full ok, edge_eq ok h3, siz_popc ok h3] at h4
  have h5 := prs_pos (n := n) (a := best n) (b := best n)
  omega
theorem f29b {n : Mn} (ok : n.Ok) : ACallsF Tryd.prog 29 [dMn n, i64 (best n : Int)] (.many [.dv (.bool true), .dv (i64 0)]) := by
  obtain ⟨h1, h3, _⟩ := best_fills ok
  have h := f29 n.w (best n)
  rw [onWet_ok ok h3, wetE_v ok h3, h1, decide_eq_true rfl] at h
  exact h
theorem fills_step {n : Mn} {b t : Nat} (h : Fills n b (t + 1)) (hn : (spr n t).1 = full n → popc b < popc t) : Fills n b t := by
  refine ⟨h.1, h.2.1, fun s hs hf hg => ?_⟩
  rcases Nat.lt_or_ge t s with h1 | h1
  · exact h.2.2 s h1 hf hg
  · obtain rfl : s = t := by omega
    exact .inl (hn hg)
theorem fills_take {n : Mn} {b t : Nat} (h : Fills n b (t + 1)) (ht : t ≤ full n) (hf : (spr n t).1 = full n) (hs : popc t ≤ popc b) : Fills n t t := by
  refine ⟨hf, ht, fun s hs1 hf1 hg => ?_⟩
  rcases Nat.lt_or_ge t s with h1 | h1
  · have := h.2.2 s h1 hf1 hg; omega
  · obtain rfl : s = t := by omega
    exact .inr ⟨rfl, Nat.le_refl _⟩


theorem f81 (x : Nat) (hx : x < 68719476736) : ACallsF Tryd.prog 81 [i64 (x : Int)] (.one (.dv (i64 (popc x : Int)))) := by
  refine callsF_of Tryd.func81 rfl rfl (by rw [Tryd.ntmps81]; simp) fun cx hP hn hg => ?_
  rw [Tryd.ntmps81] at hn
  rw [startF_lk, none_mkM]
  simp only [List.nil_append, List.append_nil, List.cons_append, zipSV, Nat.reduceAdd]
  refine awp_seq ?_
  refine rg ?_
  refine qv m_as ?_
  show AWp cx _ _ _
  refine awp_seq ?_
  refine rg ?_
  refine qv m_as ?_
  show AWp cx _ _ _
  refine awp_seq ?_
  refine awp_block ?_
  refine awp_loop (ι := Nat × Nat) (fun q => ⟨lk [(0, .dv (i64 (q.1 : Nat))), (3, .dv (i64 (q.2 : Nat)))], mkM []⟩) (fun q => q.1 < 68719476736 ∧ popc q.1 + q.2 = popc x) (fun q => q.1) (x, 0) ⟨hx, by simp⟩ (tl []) ?_
  intro q hφ0
  refine awp_seq ?_
  refine awp_seq ?_
  refine rg ?_
  refine qv m_mv ?_
  refine qv m_gtr ?_
  show AWp cx _ _ _
  refine cd (fun hc0 => ?_) (fun hc0 => ?_)
  · try simp at hc0
    have hph := popc_half (x := q.1) (by omega)
    refine awp_skip ?_
    show AWp cx _ _ _
    refine awp_seq ?_
    refine awp_block ?_
    refine rg ?_
    refine qv m_mv ?_
    refine qv m_mv ?_
    refine qv (m_remN (b := 2)) ?_
    refine qv (m_addN (ha := by have := popc_le x; omega)) ?_
    refine qv m_as ?_
    show AWp cx _ _ _
    refine rg ?_
    refine qv m_mv ?_
    refine qv (m_quoN (b := 2)) ?_
    refine qv m_as ?_
    exact ⟨(q.1 / 2, q.2 + q.1 % 2), ⟨by simp only; omega, by simp only; have := hφ0.2; omega⟩, (by simp only; omega), (tl [])⟩
  · try simp at hc0
    refine awp_exit ?_
    show AWp cx _ _ _
    refine awp_seq ?_
    refine rg ?_
    refine qv m_mv ?_
    refine qv m_as ?_
    show AWp cx _ _ _
    refine awp_ret ?_
    have h0 : q.1 = 0 := by omega
    have h2 := hφ0.2
    rw [h0, popc_zero, Nat.zero_add] at h2
    rw [← h2]
    exact x1 (hr := (rI_))

set_option maxHeartbeats 4000000 in
theorem f40 (m : Mw) : ACallsF Tryd.prog 40 [dMw m] (.many [.dv (i64 (fewR m).1), .dv (i64 (fewR m).2.1), .dv (i64 (fewR m).2.2)]) := by
  refine callsF_of Tryd.func40 rfl rfl (by rw [Tryd.ntmps40]; simp) fun cx hP hn hg => ?_
  rw [Tryd.ntmps40] at hn
  rw [startF_lk, none_mkM]
  simp only [List.nil_append, List.append_nil, List.cons_append, zipSV, Nat.reduceAdd]
  refine awp_seq ?_
  refine rg ?_
  refine qp m_box ?_
  refine qv m_as ?_
  refine qv m_as ?_
  refine qv m_as ?_
  show AWp cx _ _ _
  refine awp_seq ?_
  refine awp_seq ?_
  refine rg ?_
  refine qv (m_ldpa sz23 ag23) ?_
  refine qqF (f24 m) ?_
  refine qv m_as ?_
  show AWp cx _ _ _
  refine awp_seq ?_
  refine rg ?_
  refine qv m_mv ?_
  refine qv m_neq ?_
  show AWp cx _ _ _
  refine cd (fun hc0 => ?_) (fun hc0 => ?_)
  · skip
    have hv : validB m = false := by simpa [valid] using hc0
    refine awp_seq ?_
    refine rg ?_
    refine qv m_mv ?_
    refine qv m_as ?_
    refine qv m_as ?_
    refine qv m_as ?_
    show AWp cx _ _ _
    refine awp_ret ?_
    rw [fewR_no hv]
    exact x3 (hr := (rI_)) (hr' := (rI_)) (hr'' := (rI_ (by simp [valid, hv])))
  · skip
    have hv : validB m = true := by simpa [valid] using hc0
    obtain ⟨n, ok, rfl⟩ := valid_n hv
    have hN := ok.N2
    have hf36 := full_lt ok
    refine awp_skip ?_
    show AWp cx _ _ _
    refine awp_seq ?_
    refine awp_seq ?_
    refine rg ?_
    refine qv (m_fdp fd23_0) ?_
    refine qv (m_ldp sz3 ag3) ?_
    refine qv (m_fdp fd23_1) ?_
    refine qv (m_ldp sz3 ag3) ?_
    refine qv m_mulN ?_
    refine qv m_gtr ?_
    show AWp cx _ _ _
    refine cd (fun hc1 => ?_) (fun hc1 => ?_)
    · try simp at hc1
      refine awp_seq ?_
      refine rg ?_
      refine qv m_as ?_
      refine qv m_as ?_
      refine qv m_as ?_
      show AWp cx _ _ _
      refine awp_ret ?_
      rw [fewR_big ok (by first | omega | (simp at hc1; omega))]
      exact x3 (hr := (rI_)) (hr' := (rI_)) (hr'' := (rI_))
    · try simp at hc1
      refine awp_skip ?_
      show AWp cx _ _ _
      refine awp_seq ?_
      refine rg ?_
      refine qv (m_ldpa sz23 ag23) ?_
      refine qqF (f78 n ok) ?_
      refine qv m_as ?_
      show AWp cx _ _ _
      refine awp_seq ?_
      refine awp_seq ?_
      refine rg ?_
      refine qv (m_ldpa sz23 ag23) ?_
      refine qqF (f78 n ok) ?_
      refine qv m_mv ?_
      show AWp cx _ _ _
      refine awp_block ?_
      refine awp_loop (ι := Nat) (fun k => ⟨lk [(1, .pt 1 0 0), (6, .dv (i64 (bestF n k : Nat))), (22, .dv (i64 (full n : Int))), (23, .dv (i64 (k : Nat)))], mkM [(1, 0, some ⟨[.dv (i64 ((n.r : Int))), .dv (i64 ((n.c : Int))), .dv (i64 ((n.nd : Int)))], 0, 23, 0, false⟩)]⟩) (fun k => k ≤ full n) (fun k => full n - k) 0 (by simp) (tl [(1, 1)] (hF := by simp [FLe, svLe, lk, mkM, isLive, tauL, bestF]) (hM := by simp [MLe, blkLe, svLe, svLes, lk, mkM, isLive, tauL, svLes_ints, svLes_self, isDvs, isDvs_map, isDvs_app, isDvs_take, isDvs_set, isDvs_repl, bestF])) ?_
      intro k hφ0
      refine awp_seq ?_
      refine rg ?_
      refine qv m_lss ?_
      show AWp cx _ _ _
      refine awp_seq ?_
      refine cd (fun hc2 => ?_) (fun hc2 => ?_)
      · try simp at hc2
        refine awp_skip ?_
        show AWp cx _ _ _
        refine awp_seq ?_
        refine awp_block ?_
        refine awp_seq ?_
        refine rg ?_
        have hbl := bestF_le ok (k := k) (by omega)
        refine qv m_mv ?_
        refine qv m_as ?_
        show AWp cx _ _ _
        refine awp_seq ?_
        refine rg ?_
        refine qv m_mv ?_
        refine qqF (f59 k (by omega)) ?_
        refine qv m_mv ?_
        refine qqF (f59 (bestF n k) (by omega)) ?_
        refine qv m_lss ?_
        refine qx m_mv (fun hg31 => ?_) (fun hg31 => ?_)
        · try simp at hg31
          refine qv (m_ldpa sz23 ag23) ?_
          refine qv m_mv ?_
          refine qqF (f71 n ok k (by omega)) ?_
          have hb : popc (bestF n k) ≤ popc k → bestF n (k + 1) = bestF n k := fun h => by simp only [bestF]; rw [if_neg (by omega)]
          refine qv m_pk ?_
          show AWp cx _ _ _
          refine cd (fun hc3 => ?_) (fun hc3 => ?_)
          · skip
            have hb : bestF n (k + 1) = k := by simp only [bestF]; rw [if_pos]; simp at hg31 hc3; exact ⟨hg31, hc3⟩
            refine rg ?_
            refine qv m_mv ?_
            refine qv m_as ?_
            show AWp cx _ _ _
            refine rg ?_
            refine qv m_add ?_
            refine qv m_mv ?_
            exact ⟨k + 1, by omega, (by simp only; omega), (tl [(1, 1)] (hF := by simp [FLe, svLe, lk, mkM, isLive, tauL, hb]) (hM := by simp [MLe, blkLe, svLe, svLes, lk, mkM, isLive, tauL, svLes_ints, svLes_self, isDvs, isDvs_map, isDvs_app, isDvs_take, isDvs_set, isDvs_repl, hb]))⟩
          · skip
            have hb : bestF n (k + 1) = bestF n k := by
              simp only [bestF]; rw [if_neg]; rintro ⟨h1, h2⟩; simp_all
            refine awp_skip ?_
            show AWp cx _ _ _
            refine rg ?_
            refine qv m_add ?_
            refine qv m_mv ?_
            exact ⟨k + 1, by omega, (by simp only; omega), (tl [(1, 1)] (hF := by simp [FLe, svLe, lk, mkM, isLive, tauL, hb]) (hM := by simp [MLe, blkLe, svLe, svLes, lk, mkM, isLive, tauL, svLes_ints, svLes_self, isDvs, isDvs_map, isDvs_app, isDvs_take, isDvs_set, isDvs_repl, hb]))⟩
        · try simp at hg31
          refine qk ?_
          refine qk ?_
          refine qk ?_
          have hb : popc (bestF n k) ≤ popc k → bestF n (k + 1) = bestF n k := fun h => by simp only [bestF]; rw [if_neg (by omega)]
          refine qv m_pk ?_
          show AWp cx _ _ _
          refine cdF (hb := by first | rfl | simp | simp_all) (ht := ?_)
          refine awp_skip ?_
          show AWp cx _ _ _
          refine rg ?_
          refine qv m_add ?_
          refine qv m_mv ?_
          have hb := hb (by simpa using hg31)
          exact ⟨k + 1, by omega, by simp only; omega, (tl [(1, 1)] (hF := by simp [FLe, svLe, lk, mkM, isLive, tauL, hb]) (hM := by simp [MLe, blkLe, svLe, svLes, lk, mkM, isLive, tauL, svLes_ints, svLes_self, isDvs, isDvs_map, isDvs_app, isDvs_take, isDvs_set, isDvs_repl, hb]))⟩
      · try simp at hc2
        refine awp_exit ?_
        show AWp cx _ _ _
        refine awp_seq ?_
        refine rg ?_
        refine qv m_mv ?_
        refine qqF (f59 (bestF n k) (by have := bestF_le ok (k := k) (by omega); omega)) ?_
        refine qv m_mv ?_
        refine qv m_as ?_
        refine qv m_as ?_
        refine qv m_as ?_
        show AWp cx _ _ _
        refine awp_ret ?_
        rw [fewR_ok ok (by omega)]
        obtain rfl : k = full n := by omega
        exact x3 (hr := (rI_)) (hr' := (rI_)) (hr'' := (rI_))

set_option maxHeartbeats 4000000 in
theorem f41 (m : Mw) : ACallsF Tryd.prog 41 [dMw m] (.many [.dv (i64 (fewR m).1), .dv (i64 (fewR m).2.1), .dv (i64 (fewR m).2.2)]) := by
  refine callsF_of Tryd.func41 rfl rfl (by rw [Tryd.ntmps41]; simp) fun cx hP hn hg => ?_
  rw [Tryd.ntmps41] at hn
  rw [startF_lk, none_mkM]
  simp only [List.nil_append, List.append_nil, List.cons_append, zipSV, Nat.reduceAdd]
  refine awp_seq ?_
  refine rg ?_
  refine qp m_box ?_
  refine qv m_as ?_
  refine qv m_as ?_
  refine qv m_as ?_
  show AWp cx _ _ _
  refine awp_seq ?_
  refine rg ?_
  refine qv (m_ldpa sz23 ag23) ?_
  refine qqF (f25 m) ?_
  refine qv m_as ?_
  show AWp cx _ _ _
  refine awp_seq ?_
  refine awp_seq ?_
  refine rg ?_
  refine qv m_mv ?_
  refine qv m_neq ?_
  show AWp cx _ _ _
  refine cd (fun hc0 => ?_) (fun hc0 => ?_)
  · skip
    have hv : validB m = false := by simpa [valid] using hc0
    refine awp_seq ?_
    refine rg ?_
    refine qv m_mv ?_
    refine qv m_as ?_
    refine qv m_as ?_
    refine qv m_as ?_
    show AWp cx _ _ _
    refine awp_ret ?_
    rw [fewR_no hv]
    exact x3 (hr := (rI_)) (hr' := (rI_)) (hr'' := (rI_ (by simp [valid, hv])))
  · skip
    have hv : validB m = true := by simpa [valid] using hc0
    obtain ⟨n, ok, rfl⟩ := valid_n hv
    have hN := ok.N2
    have hf36 := full_lt ok
    refine awp_skip ?_
    show AWp cx _ _ _
    refine awp_seq ?_
    refine awp_seq ?_
    refine rg ?_
    refine qv (m_ldpa sz23 ag23) ?_
    refine qqF (f62 n ok) ?_
    refine qv m_gtr ?_
    show AWp cx _ _ _
    refine cd (fun hc1 => ?_) (fun hc1 => ?_)
    · try simp at hc1
      refine awp_seq ?_
      refine rg ?_
      refine qv m_as ?_
      refine qv m_as ?_
      refine qv m_as ?_
      show AWp cx _ _ _
      refine awp_ret ?_
      rw [fewR_big ok (by first | omega | (simp at hc1; omega))]
      exact x3 (hr := (rI_)) (hr' := (rI_)) (hr'' := (rI_))
    · try simp at hc1
      refine awp_skip ?_
      show AWp cx _ _ _
      refine awp_seq ?_
      refine rg ?_
      refine qv (m_ldpa sz23 ag23) ?_
      refine qqF (f72 n ok) ?_
      refine qv m_as ?_
      show AWp cx _ _ _
      refine awp_seq ?_
      refine awp_seq ?_
      refine rg ?_
      refine qv (m_ldpa sz23 ag23) ?_
      refine qqF (f72 n ok) ?_
      refine qv m_as ?_
      show AWp cx _ _ _
      refine awp_block ?_
      refine awp_loop (ι := Nat × Nat) (fun q => ⟨lk [(1, .pt 1 0 0), (6, .dv (i64 (q.2 : Nat))), (7, .dv (i64 ((q.1 : Int) - 1)))], mkM [(1, 0, some ⟨[.dv (i64 ((n.r : Int))), .dv (i64 ((n.c : Int))), .dv (i64 ((n.nd : Int)))], 0, 23, 0, false⟩)]⟩) (fun q => q.1 ≤ full n + 1 ∧ Fills n q.2 q.1) (fun q => q.1) (full n + 1, full n) ⟨Nat.le_refl _, spr_fix, Nat.le_refl _, fun s h1 h2 _ => absurd h1 (by simp only; omega)⟩ (tl [(1, 1)]) ?_
      intro q hφ0
      refine awp_seq ?_
      refine awp_seq ?_
      refine rg ?_
      refine qv m_mv ?_
      refine qv m_geq ?_
      show AWp cx _ _ _
      refine cd (fun hc2 => ?_) (fun hc2 => ?_)
      · try simp at hc2
        have hk : ((q.1 : Int) - 1) = ((q.1 - 1 : Nat) : Int) := by omega
        rw [hk]
        have hF := hφ0.2
        rw [show q.1 = (q.1 - 1) + 1 by omega] at hF
        have hb1 := hF.2.1
        have ht1 : q.1 - 1 ≤ full n := by have := hφ0.1; omega
        refine awp_skip ?_
        show AWp cx _ _ _
        refine awp_seq ?_
        refine awp_block ?_
        refine awp_seq ?_
        refine awp_seq ?_
        refine rg ?_
        refine qv m_mv ?_
        refine qqF (f81 (q.1 - 1) (by omega)) ?_
        refine qv m_mv ?_
        refine qqF (f81 q.2 (by omega)) ?_
        refine qv m_gtr ?_
        show AWp cx _ _ _
        refine cd (fun hc3 => ?_) (fun hc3 => ?_)
        · skip
          refine awp_exit ?_
          show AWp cx _ _ _
          refine rg ?_
          refine qv m_mv ?_
          refine qv m_sub ?_
          refine qv m_as ?_
          exact ⟨(q.1 - 1, q.2), ⟨by simp only; omega, fills_step hF fun _ => by simpa using hc3⟩, by simp only; omega, (tl [(1, 1)])⟩
        · skip
          refine awp_skip ?_
          show AWp cx _ _ _
          refine awp_seq ?_
          refine rg ?_
          refine qv (m_ldpa sz23 ag23) ?_
          refine qv m_mv ?_
          refine qqF (f70 n ok (q.1 - 1) (by omega)) ?_
          refine qv m_mv ?_
          refine qv m_ext ?_
          refine qv m_ext ?_
          refine qv m_as ?_
          refine qv m_as ?_
          show AWp cx _ _ _
          refine awp_seq ?_
          refine rg ?_
          refine qv m_mv ?_
          refine qv (m_ldpa sz23 ag23) ?_
          refine qqF (f72 n ok) ?_
          refine qv m_eql ?_
          show AWp cx _ _ _
          refine cd (fun hc4 => ?_) (fun hc4 => ?_)
          · skip
            refine rg ?_
            refine qv m_mv ?_
            refine qv m_as ?_
            show AWp cx _ _ _
            refine rg ?_
            refine qv m_mv ?_
            refine qv m_sub ?_
            refine qv m_as ?_
            exact ⟨(q.1 - 1, q.1 - 1), ⟨by simp only; omega, fills_take hF ht1 (show (spr n (q.1 - 1)).1 = full n by have := hc4; simp at this; omega) (show popc (q.1 - 1) ≤ popc q.2 by have := hc3; simp at this; omega)⟩, by simp only; omega, (tl [(1, 1)])⟩
          · skip
            refine awp_skip ?_
            show AWp cx _ _ _
            refine rg ?_
            refine qv m_mv ?_
            refine qv m_sub ?_
            refine qv m_as ?_
            exact ⟨(q.1 - 1, q.2), ⟨by simp only; omega, fills_step hF fun h => absurd (show (spr n (q.1 - 1)).1 = full n from h) (by have := hc4; simp at this; omega)⟩, by simp only; omega, (tl [(1, 1)])⟩
      · try simp at hc2
        refine awp_exit ?_
        show AWp cx _ _ _
        refine awp_seq ?_
        refine rg ?_
        refine qv m_mv ?_
        refine qqF (f81 q.2 (by have := hφ0.2.2.1; omega)) ?_
        refine qv m_mv ?_
        refine qv m_as ?_
        refine qv m_as ?_
        refine qv m_as ?_
        show AWp cx _ _ _
        refine awp_ret ?_
        have hF := hφ0.2
        rw [show q.1 = 0 by omega] at hF
        have hbq := fills_uniq hF (best_fills ok)
        rw [fewR_ok ok (by omega), ← hbq]
        exact x3 (hr := (rI_)) (hr' := (rI_)) (hr'' := (rI_))

set_option maxHeartbeats 8000000 in
theorem f10 (m : Mw) : ACallsF Tryd.prog 10 [dMw m] (.one (.dv (.bool true))) := by
  refine callsF_of Tryd.func10 rfl rfl (by rw [Tryd.ntmps10]; simp) fun cx hP hn hg => ?_
  rw [Tryd.ntmps10] at hn
  rw [startF_lk, none_mkM]
  simp only [List.nil_append, List.append_nil, List.cons_append, zipSV, Nat.reduceAdd]
  refine awp_seq ?_
  refine rg ?_
  refine qp m_box ?_
  refine qv m_as ?_
  show AWp cx _ _ _
  refine awp_seq ?_
  refine awp_seq ?_
  refine rg ?_
  refine qv (m_fdp fd23_0) ?_
  refine qv (m_ldp sz3 ag3) ?_
  refine qv m_gtr ?_
  refine qx m_mv (fun hg14 => ?_) (fun hg14 => ?_)
  · try simp at hg14
    refine qv (m_fdp fd23_1) ?_
    refine qv (m_ldp sz3 ag3) ?_
    refine qv m_gtr ?_
    refine qv m_pk ?_
    refine qx m_mv (fun hg19 => ?_) (fun hg19 => ?_)
    · try simp at hg19
      refine qv (m_fdp fd23_0) ?_
      refine qv (m_ldp sz3 ag3) ?_
      refine qv m_leq ?_
      refine qv m_pk ?_
      refine qx m_mv (fun hg24 => ?_) (fun hg24 => ?_)
      · try simp at hg24
        refine qv (m_fdp fd23_1) ?_
        refine qv (m_ldp sz3 ag3) ?_
        refine qv m_leq ?_
        refine qv m_pk ?_
        refine qx m_mv (fun hg29 => ?_) (fun hg29 => ?_)
        · try simp at hg29
          refine qv (m_fdp fd23_0) ?_
          refine qv (m_ldp sz3 ag3) ?_
          refine qv (m_fdp fd23_1) ?_
          refine qv (m_ldp sz3 ag3) ?_
          have hmb := mul_bd hg14 hg19 hg24 hg29
          refine qv m_mul ?_
          refine qv m_gtr ?_
          refine qv m_pk ?_
          refine qx m_mv (fun hg37 => ?_) (fun hg37 => ?_)
          · try simp at hg37
            refine qv (m_fdp fd23_0) ?_
            refine qv (m_ldp sz3 ag3) ?_
            refine qv (m_fdp fd23_1) ?_
            refine qv (m_ldp sz3 ag3) ?_
            have hmb := mul_bd hg14 hg19 hg24 hg29
            refine qv m_mul ?_
            refine qv m_leq ?_
            refine qv m_pk ?_
            show AWp cx _ _ _
            refine cd (fun hc0 => ?_) (fun hc0 => ?_)
            · try simp at hc0
              refine awp_seq ?_
              refine rg ?_
              refine qqF (f18) ?_
              refine qv m_as ?_
              show AWp cx _ _ _
              refine awp_ret ?_
              exact x1 (hr := (rB_))
            · try simp at hc0
              refine awp_skip ?_
              show AWp cx _ _ _
              refine awp_seq ?_
              refine rg ?_
              refine qv (m_ldpa sz23 ag23) ?_
              refine qqF (f40 m) ?_
              refine qv m_mv ?_
              refine qv m_ext ?_
              refine qv m_ext ?_
              refine qv m_ext ?_
              refine qv m_as ?_
              refine qv m_as ?_
              refine qv m_as ?_
              show AWp cx _ _ _
              refine awp_seq ?_
              refine rg ?_
              refine qv (m_ldpa sz23 ag23) ?_
              refine qqF (f41 m) ?_
              refine qv m_mv ?_
              refine qv m_ext ?_
              refine qv m_ext ?_
              refine qv m_ext ?_
              refine qv m_as ?_
              refine qv m_as ?_
              refine qv m_as ?_
              show AWp cx _ _ _
              refine awp_seq ?_
              refine awp_seq ?_
              refine rg ?_
              refine qv m_mv ?_
              refine qv m_mv ?_
              refine qv m_neq ?_
              refine qx m_mv (fun hg61 => ?_) (fun hg61 => ?_)
              · exact absurd hg61 (by simp)
              refine qv m_mv ?_
              refine qv m_mv ?_
              refine qv m_neq ?_
              refine qv m_pk ?_
              refine qx m_mv (fun hg66 => ?_) (fun hg66 => ?_)
              · exact absurd hg66 (by simp)
              refine qv m_mv ?_
              refine qv m_mv ?_
              refine qv m_neq ?_
              refine qv m_pk ?_
              show AWp cx _ _ _
              refine cdF (hb := by simp) (ht := ?_)
              refine awp_skip ?_
              show AWp cx _ _ _
              refine awp_seq ?_
              refine awp_seq ?_
              refine rg ?_
              refine qv m_mv ?_
              refine qv m_neq ?_
              show AWp cx _ _ _
              refine cd (fun hc2 => ?_) (fun hc2 => ?_)
              · skip
                refine awp_seq ?_
                refine rg ?_
                refine qqF (f18) ?_
                refine qv m_as ?_
                show AWp cx _ _ _
                refine awp_ret ?_
                exact x1 (hr := (rB_))
              · skip
                have he : (fewR m).2.2 = 0 := by simpa using hc2
                obtain ⟨n, ok, rfl, hN, hfw⟩ := fewR_fit he
                simp only [hfw]
                have hpl := popc_le (best n)
                have hr2 := ok.r2
                have hcc2 := ok.c2
                refine awp_skip ?_
                show AWp cx _ _ _
                refine awp_seq ?_
                refine rg ?_
                refine qv (m_ldpa sz23 ag23) ?_
                refine qv m_mv ?_
                refine qqF (f29b ok) ?_
                refine qv m_mv ?_
                refine qv m_ext ?_
                refine qv m_ext ?_
                refine qv m_as ?_
                refine qv m_as ?_
                show AWp cx _ _ _
                refine awp_seq ?_
                refine rg ?_
                refine qv m_mv ?_
                refine qv m_eql ?_
                refine qx m_mv (fun hg82 => ?_) (fun hg82 => ?_)
                rotate_left
                · exact absurd hg82 (by simp)
                refine qv m_mv ?_
                refine qv m_pk ?_
                refine qx m_mv (fun hg85 => ?_) (fun hg85 => ?_)
                rotate_left
                · exact absurd hg85 (by simp)
                refine qv (m_fdp fd23_2) ?_
                refine qv (m_ldp sz3 ag3) ?_
                refine qv m_lss ?_
                refine qx m_mv (fun hg89 => ?_) (fun hg89 => ?_)
                · try simp at hg89
                  refine qk ?_
                  refine qk ?_
                  refine qk ?_
                  refine qk ?_
                  refine qk ?_
                  refine qk ?_
                  refine qk ?_
                  refine qk ?_
                  refine qv m_pk ?_
                  refine qv m_pk ?_
                  refine qv m_mv ?_
                  refine qqF (f18) ?_
                  refine qv m_pk ?_
                  refine qv m_as ?_
                  show AWp cx _ _ _
                  refine awp_ret ?_
                  exact x1 (hr := (rB_))
                · try simp at hg89
                  refine qv m_mv ?_
                  refine qv m_mul ?_
                  refine qv (m_fdp fd23_0) ?_
                  refine qv (m_ldp sz3 ag3) ?_
                  refine qv (m_fdp fd23_1) ?_
                  refine qv (m_ldp sz3 ag3) ?_
                  refine qv m_add ?_
                  refine qv m_geq ?_
                  refine qv m_pk ?_
                  refine qv m_pk ?_
                  refine qx m_mv (fun hg100 => ?_) (fun hg100 => ?_)
                  rotate_left
                  · exact absurd hg100 (by first | (simp; done) | (have hfl := few_law ok (show 2 ≤ n.nd by omega); first | (simp; omega) | (simp_all; omega)))
                  refine qqF (f18) ?_
                  refine qv m_pk ?_
                  refine qv m_as ?_
                  show AWp cx _ _ _
                  refine awp_ret ?_
                  exact x1 (hr := (rB_))
          · try simp at hg37
            refine qk ?_
            refine qk ?_
            refine qk ?_
            refine qk ?_
            refine qk ?_
            refine qk ?_
            refine qv m_pk ?_
            show AWp cx _ _ _
            refine cdF (hb := by first | rfl | simp | simp_all) (ht := ?_)
            refine awp_skip ?_
            show AWp cx _ _ _
            refine awp_seq ?_
            refine rg ?_
            refine qv (m_ldpa sz23 ag23) ?_
            refine qqF (f40 m) ?_
            refine qv m_mv ?_
            refine qv m_ext ?_
            refine qv m_ext ?_
            refine qv m_ext ?_
            refine qv m_as ?_
            refine qv m_as ?_
            refine qv m_as ?_
            show AWp cx _ _ _
            refine awp_seq ?_
            refine rg ?_
            refine qv (m_ldpa sz23 ag23) ?_
            refine qqF (f41 m) ?_
            refine qv m_mv ?_
            refine qv m_ext ?_
            refine qv m_ext ?_
            refine qv m_ext ?_
            refine qv m_as ?_
            refine qv m_as ?_
            refine qv m_as ?_
            show AWp cx _ _ _
            refine awp_seq ?_
            refine awp_seq ?_
            refine rg ?_
            refine qv m_mv ?_
            refine qv m_mv ?_
            refine qv m_neq ?_
            refine qx m_mv (fun hg61 => ?_) (fun hg61 => ?_)
            · exact absurd hg61 (by simp)
            refine qv m_mv ?_
            refine qv m_mv ?_
            refine qv m_neq ?_
            refine qv m_pk ?_
            refine qx m_mv (fun hg66 => ?_) (fun hg66 => ?_)
            · exact absurd hg66 (by simp)
            refine qv m_mv ?_
            refine qv m_mv ?_
            refine qv m_neq ?_
            refine qv m_pk ?_
            show AWp cx _ _ _
            refine cdF (hb := by simp) (ht := ?_)
            refine awp_skip ?_
            show AWp cx _ _ _
            refine awp_seq ?_
            refine awp_seq ?_
            refine rg ?_
            refine qv m_mv ?_
            refine qv m_neq ?_
            show AWp cx _ _ _
            refine cd (fun hc2 => ?_) (fun hc2 => ?_)
            · skip
              refine awp_seq ?_
              refine rg ?_
              refine qqF (f18) ?_
              refine qv m_as ?_
              show AWp cx _ _ _
              refine awp_ret ?_
              exact x1 (hr := (rB_))
            · skip
              have he : (fewR m).2.2 = 0 := by simpa using hc2
              obtain ⟨n, ok, rfl, hN, hfw⟩ := fewR_fit he
              simp only [hfw]
              have hpl := popc_le (best n)
              have hr2 := ok.r2
              have hcc2 := ok.c2
              refine awp_skip ?_
              show AWp cx _ _ _
              refine awp_seq ?_
              refine rg ?_
              refine qv (m_ldpa sz23 ag23) ?_
              refine qv m_mv ?_
              refine qqF (f29b ok) ?_
              refine qv m_mv ?_
              refine qv m_ext ?_
              refine qv m_ext ?_
              refine qv m_as ?_
              refine qv m_as ?_
              show AWp cx _ _ _
              refine awp_seq ?_
              refine rg ?_
              refine qv m_mv ?_
              refine qv m_eql ?_
              refine qx m_mv (fun hg82 => ?_) (fun hg82 => ?_)
              rotate_left
              · exact absurd hg82 (by simp)
              refine qv m_mv ?_
              refine qv m_pk ?_
              refine qx m_mv (fun hg85 => ?_) (fun hg85 => ?_)
              rotate_left
              · exact absurd hg85 (by simp)
              refine qv (m_fdp fd23_2) ?_
              refine qv (m_ldp sz3 ag3) ?_
              refine qv m_lss ?_
              refine qx m_mv (fun hg89 => ?_) (fun hg89 => ?_)
              · try simp at hg89
                refine qk ?_
                refine qk ?_
                refine qk ?_
                refine qk ?_
                refine qk ?_
                refine qk ?_
                refine qk ?_
                refine qk ?_
                refine qv m_pk ?_
                refine qv m_pk ?_
                refine qv m_mv ?_
                refine qqF (f18) ?_
                refine qv m_pk ?_
                refine qv m_as ?_
                show AWp cx _ _ _
                refine awp_ret ?_
                exact x1 (hr := (rB_))
              · try simp at hg89
                refine qv m_mv ?_
                refine qv m_mul ?_
                refine qv (m_fdp fd23_0) ?_
                refine qv (m_ldp sz3 ag3) ?_
                refine qv (m_fdp fd23_1) ?_
                refine qv (m_ldp sz3 ag3) ?_
                refine qv m_add ?_
                refine qv m_geq ?_
                refine qv m_pk ?_
                refine qv m_pk ?_
                refine qx m_mv (fun hg100 => ?_) (fun hg100 => ?_)
                rotate_left
                · exact absurd hg100 (by first | (simp; done) | (have hfl := few_law ok (show 2 ≤ n.nd by omega); first | (simp; omega) | (simp_all; omega)))
                refine qqF (f18) ?_
                refine qv m_pk ?_
                refine qv m_as ?_
                show AWp cx _ _ _
                refine awp_ret ?_
                exact x1 (hr := (rB_))
        · try simp at hg29
          refine qk ?_
          refine qk ?_
          refine qk ?_
          refine qk ?_
          refine qk ?_
          refine qk ?_
          refine qv m_pk ?_
          refine qv m_mv ?_
          refine qk ?_
          refine qk ?_
          refine qk ?_
          refine qk ?_
          refine qk ?_
          refine qk ?_
          refine qv m_pk ?_
          show AWp cx _ _ _
          refine cdF (hb := by first | rfl | simp | simp_all) (ht := ?_)
          refine awp_skip ?_
          show AWp cx _ _ _
          refine awp_seq ?_
          refine rg ?_
          refine qv (m_ldpa sz23 ag23) ?_
          refine qqF (f40 m) ?_
          refine qv m_mv ?_
          refine qv m_ext ?_
          refine qv m_ext ?_
          refine qv m_ext ?_
          refine qv m_as ?_
          refine qv m_as ?_
          refine qv m_as ?_
          show AWp cx _ _ _
          refine awp_seq ?_
          refine rg ?_
          refine qv (m_ldpa sz23 ag23) ?_
          refine qqF (f41 m) ?_
          refine qv m_mv ?_
          refine qv m_ext ?_
          refine qv m_ext ?_
          refine qv m_ext ?_
          refine qv m_as ?_
          refine qv m_as ?_
          refine qv m_as ?_
          show AWp cx _ _ _
          refine awp_seq ?_
          refine awp_seq ?_
          refine rg ?_
          refine qv m_mv ?_
          refine qv m_mv ?_
          refine qv m_neq ?_
          refine qx m_mv (fun hg61 => ?_) (fun hg61 => ?_)
          · exact absurd hg61 (by simp)
          refine qv m_mv ?_
          refine qv m_mv ?_
          refine qv m_neq ?_
          refine qv m_pk ?_
          refine qx m_mv (fun hg66 => ?_) (fun hg66 => ?_)
          · exact absurd hg66 (by simp)
          refine qv m_mv ?_
          refine qv m_mv ?_
          refine qv m_neq ?_
          refine qv m_pk ?_
          show AWp cx _ _ _
          refine cdF (hb := by simp) (ht := ?_)
          refine awp_skip ?_
          show AWp cx _ _ _
          refine awp_seq ?_
          refine awp_seq ?_
          refine rg ?_
          refine qv m_mv ?_
          refine qv m_neq ?_
          show AWp cx _ _ _
          refine cd (fun hc2 => ?_) (fun hc2 => ?_)
          · skip
            refine awp_seq ?_
            refine rg ?_
            refine qqF (f18) ?_
            refine qv m_as ?_
            show AWp cx _ _ _
            refine awp_ret ?_
            exact x1 (hr := (rB_))
          · skip
            have he : (fewR m).2.2 = 0 := by simpa using hc2
            obtain ⟨n, ok, rfl, hN, hfw⟩ := fewR_fit he
            simp only [hfw]
            have hpl := popc_le (best n)
            have hr2 := ok.r2
            have hcc2 := ok.c2
            refine awp_skip ?_
            show AWp cx _ _ _
            refine awp_seq ?_
            refine rg ?_
            refine qv (m_ldpa sz23 ag23) ?_
            refine qv m_mv ?_
            refine qqF (f29b ok) ?_
            refine qv m_mv ?_
            refine qv m_ext ?_
            refine qv m_ext ?_
            refine qv m_as ?_
            refine qv m_as ?_
            show AWp cx _ _ _
            refine awp_seq ?_
            refine rg ?_
            refine qv m_mv ?_
            refine qv m_eql ?_
            refine qx m_mv (fun hg82 => ?_) (fun hg82 => ?_)
            rotate_left
            · exact absurd hg82 (by simp)
            refine qv m_mv ?_
            refine qv m_pk ?_
            refine qx m_mv (fun hg85 => ?_) (fun hg85 => ?_)
            rotate_left
            · exact absurd hg85 (by simp)
            refine qv (m_fdp fd23_2) ?_
            refine qv (m_ldp sz3 ag3) ?_
            refine qv m_lss ?_
            refine qx m_mv (fun hg89 => ?_) (fun hg89 => ?_)
            · try simp at hg89
              refine qk ?_
              refine qk ?_
              refine qk ?_
              refine qk ?_
              refine qk ?_
              refine qk ?_
              refine qk ?_
              refine qk ?_
              refine qv m_pk ?_
              refine qv m_pk ?_
              refine qv m_mv ?_
              refine qqF (f18) ?_
              refine qv m_pk ?_
              refine qv m_as ?_
              show AWp cx _ _ _
              refine awp_ret ?_
              exact x1 (hr := (rB_))
            · try simp at hg89
              refine qv m_mv ?_
              refine qv m_mul ?_
              refine qv (m_fdp fd23_0) ?_
              refine qv (m_ldp sz3 ag3) ?_
              refine qv (m_fdp fd23_1) ?_
              refine qv (m_ldp sz3 ag3) ?_
              refine qv m_add ?_
              refine qv m_geq ?_
              refine qv m_pk ?_
              refine qv m_pk ?_
              refine qx m_mv (fun hg100 => ?_) (fun hg100 => ?_)
              rotate_left
              · exact absurd hg100 (by first | (simp; done) | (have hfl := few_law ok (show 2 ≤ n.nd by omega); first | (simp; omega) | (simp_all; omega)))
              refine qqF (f18) ?_
              refine qv m_pk ?_
              refine qv m_as ?_
              show AWp cx _ _ _
              refine awp_ret ?_
              exact x1 (hr := (rB_))
      · try simp at hg24
        refine qk ?_
        refine qk ?_
        refine qk ?_
        refine qv m_pk ?_
        refine qv m_mv ?_
        refine qk ?_
        refine qk ?_
        refine qk ?_
        refine qk ?_
        refine qk ?_
        refine qk ?_
        refine qv m_pk ?_
        refine qv m_mv ?_
        refine qk ?_
        refine qk ?_
        refine qk ?_
        refine qk ?_
        refine qk ?_
        refine qk ?_
        refine qv m_pk ?_
        show AWp cx _ _ _
        refine cdF (hb := by first | rfl | simp | simp_all) (ht := ?_)
        refine awp_skip ?_
        show AWp cx _ _ _
        refine awp_seq ?_
        refine rg ?_
        refine qv (m_ldpa sz23 ag23) ?_
        refine qqF (f40 m) ?_
        refine qv m_mv ?_
        refine qv m_ext ?_
        refine qv m_ext ?_
        refine qv m_ext ?_
        refine qv m_as ?_
        refine qv m_as ?_
        refine qv m_as ?_
        show AWp cx _ _ _
        refine awp_seq ?_
        refine rg ?_
        refine qv (m_ldpa sz23 ag23) ?_
        refine qqF (f41 m) ?_
        refine qv m_mv ?_
        refine qv m_ext ?_
        refine qv m_ext ?_
        refine qv m_ext ?_
        refine qv m_as ?_
        refine qv m_as ?_
        refine qv m_as ?_
        show AWp cx _ _ _
        refine awp_seq ?_
        refine awp_seq ?_
        refine rg ?_
        refine qv m_mv ?_
        refine qv m_mv ?_
        refine qv m_neq ?_
        refine qx m_mv (fun hg61 => ?_) (fun hg61 => ?_)
        · exact absurd hg61 (by simp)
        refine qv m_mv ?_
        refine qv m_mv ?_
        refine qv m_neq ?_
        refine qv m_pk ?_
        refine qx m_mv (fun hg66 => ?_) (fun hg66 => ?_)
        · exact absurd hg66 (by simp)
        refine qv m_mv ?_
        refine qv m_mv ?_
        refine qv m_neq ?_
        refine qv m_pk ?_
        show AWp cx _ _ _
        refine cdF (hb := by simp) (ht := ?_)
        refine awp_skip ?_
        show AWp cx _ _ _
        refine awp_seq ?_
        refine awp_seq ?_
        refine rg ?_
        refine qv m_mv ?_
        refine qv m_neq ?_
        show AWp cx _ _ _
        refine cd (fun hc2 => ?_) (fun hc2 => ?_)
        · skip
          refine awp_seq ?_
          refine rg ?_
          refine qqF (f18) ?_
          refine qv m_as ?_
          show AWp cx _ _ _
          refine awp_ret ?_
          exact x1 (hr := (rB_))
        · skip
          have he : (fewR m).2.2 = 0 := by simpa using hc2
          obtain ⟨n, ok, rfl, hN, hfw⟩ := fewR_fit he
          simp only [hfw]
          have hpl := popc_le (best n)
          have hr2 := ok.r2
          have hcc2 := ok.c2
          refine awp_skip ?_
          show AWp cx _ _ _
          refine awp_seq ?_
          refine rg ?_
          refine qv (m_ldpa sz23 ag23) ?_
          refine qv m_mv ?_
          refine qqF (f29b ok) ?_
          refine qv m_mv ?_
          refine qv m_ext ?_
          refine qv m_ext ?_
          refine qv m_as ?_
          refine qv m_as ?_
          show AWp cx _ _ _
          refine awp_seq ?_
          refine rg ?_
          refine qv m_mv ?_
          refine qv m_eql ?_
          refine qx m_mv (fun hg82 => ?_) (fun hg82 => ?_)
          rotate_left
          · exact absurd hg82 (by simp)
          refine qv m_mv ?_
          refine qv m_pk ?_
          refine qx m_mv (fun hg85 => ?_) (fun hg85 => ?_)
          rotate_left
          · exact absurd hg85 (by simp)
          refine qv (m_fdp fd23_2) ?_
          refine qv (m_ldp sz3 ag3) ?_
          refine qv m_lss ?_
          refine qx m_mv (fun hg89 => ?_) (fun hg89 => ?_)
          · try simp at hg89
            refine qk ?_
            refine qk ?_
            refine qk ?_
            refine qk ?_
            refine qk ?_
            refine qk ?_
            refine qk ?_
            refine qk ?_
            refine qv m_pk ?_
            refine qv m_pk ?_
            refine qv m_mv ?_
            refine qqF (f18) ?_
            refine qv m_pk ?_
            refine qv m_as ?_
            show AWp cx _ _ _
            refine awp_ret ?_
            exact x1 (hr := (rB_))
          · try simp at hg89
            refine qv m_mv ?_
            refine qv m_mul ?_
            refine qv (m_fdp fd23_0) ?_
            refine qv (m_ldp sz3 ag3) ?_
            refine qv (m_fdp fd23_1) ?_
            refine qv (m_ldp sz3 ag3) ?_
            refine qv m_add ?_
            refine qv m_geq ?_
            refine qv m_pk ?_
            refine qv m_pk ?_
            refine qx m_mv (fun hg100 => ?_) (fun hg100 => ?_)
            rotate_left
            · exact absurd hg100 (by first | (simp; done) | (have hfl := few_law ok (show 2 ≤ n.nd by omega); first | (simp; omega) | (simp_all; omega)))
            refine qqF (f18) ?_
            refine qv m_pk ?_
            refine qv m_as ?_
            show AWp cx _ _ _
            refine awp_ret ?_
            exact x1 (hr := (rB_))
    · try simp at hg19
      refine qk ?_
      refine qk ?_
      refine qk ?_
      refine qv m_pk ?_
      refine qv m_mv ?_
      refine qk ?_
      refine qk ?_
      refine qk ?_
      refine qv m_pk ?_
      refine qv m_mv ?_
      refine qk ?_
      refine qk ?_
      refine qk ?_
      refine qk ?_
      refine qk ?_
      refine qk ?_
      refine qv m_pk ?_
      refine qv m_mv ?_
      refine qk ?_
      refine qk ?_
      refine qk ?_
      refine qk ?_
      refine qk ?_
      refine qk ?_
      refine qv m_pk ?_
      show AWp cx _ _ _
      refine cdF (hb := by first | rfl | simp | simp_all) (ht := ?_)
      refine awp_skip ?_
      show AWp cx _ _ _
      refine awp_seq ?_
      refine rg ?_
      refine qv (m_ldpa sz23 ag23) ?_
      refine qqF (f40 m) ?_
      refine qv m_mv ?_
      refine qv m_ext ?_
      refine qv m_ext ?_
      refine qv m_ext ?_
      refine qv m_as ?_
      refine qv m_as ?_
      refine qv m_as ?_
      show AWp cx _ _ _
      refine awp_seq ?_
      refine rg ?_
      refine qv (m_ldpa sz23 ag23) ?_
      refine qqF (f41 m) ?_
      refine qv m_mv ?_
      refine qv m_ext ?_
      refine qv m_ext ?_
      refine qv m_ext ?_
      refine qv m_as ?_
      refine qv m_as ?_
      refine qv m_as ?_
      show AWp cx _ _ _
      refine awp_seq ?_
      refine awp_seq ?_
      refine rg ?_
      refine qv m_mv ?_
      refine qv m_mv ?_
      refine qv m_neq ?_
      refine qx m_mv (fun hg61 => ?_) (fun hg61 => ?_)
      · exact absurd hg61 (by simp)
      refine qv m_mv ?_
      refine qv m_mv ?_
      refine qv m_neq ?_
      refine qv m_pk ?_
      refine qx m_mv (fun hg66 => ?_) (fun hg66 => ?_)
      · exact absurd hg66 (by simp)
      refine qv m_mv ?_
      refine qv m_mv ?_
      refine qv m_neq ?_
      refine qv m_pk ?_
      show AWp cx _ _ _
      refine cdF (hb := by simp) (ht := ?_)
      refine awp_skip ?_
      show AWp cx _ _ _
      refine awp_seq ?_
      refine awp_seq ?_
      refine rg ?_
      refine qv m_mv ?_
      refine qv m_neq ?_
      show AWp cx _ _ _
      refine cd (fun hc2 => ?_) (fun hc2 => ?_)
      · skip
        refine awp_seq ?_
        refine rg ?_
        refine qqF (f18) ?_
        refine qv m_as ?_
        show AWp cx _ _ _
        refine awp_ret ?_
        exact x1 (hr := (rB_))
      · skip
        have he : (fewR m).2.2 = 0 := by simpa using hc2
        obtain ⟨n, ok, rfl, hN, hfw⟩ := fewR_fit he
        simp only [hfw]
        have hpl := popc_le (best n)
        have hr2 := ok.r2
        have hcc2 := ok.c2
        refine awp_skip ?_
        show AWp cx _ _ _
        refine awp_seq ?_
        refine rg ?_
        refine qv (m_ldpa sz23 ag23) ?_
        refine qv m_mv ?_
        refine qqF (f29b ok) ?_
        refine qv m_mv ?_
        refine qv m_ext ?_
        refine qv m_ext ?_
        refine qv m_as ?_
        refine qv m_as ?_
        show AWp cx _ _ _
        refine awp_seq ?_
        refine rg ?_
        refine qv m_mv ?_
        refine qv m_eql ?_
        refine qx m_mv (fun hg82 => ?_) (fun hg82 => ?_)
        rotate_left
        · exact absurd hg82 (by simp)
        refine qv m_mv ?_
        refine qv m_pk ?_
        refine qx m_mv (fun hg85 => ?_) (fun hg85 => ?_)
        rotate_left
        · exact absurd hg85 (by simp)
        refine qv (m_fdp fd23_2) ?_
        refine qv (m_ldp sz3 ag3) ?_
        refine qv m_lss ?_
        refine qx m_mv (fun hg89 => ?_) (fun hg89 => ?_)
        · try simp at hg89
          refine qk ?_
          refine qk ?_
          refine qk ?_
          refine qk ?_
          refine qk ?_
          refine qk ?_
          refine qk ?_
          refine qk ?_
          refine qv m_pk ?_
          refine qv m_pk ?_
          refine qv m_mv ?_
          refine qqF (f18) ?_
          refine qv m_pk ?_
          refine qv m_as ?_
          show AWp cx _ _ _
          refine awp_ret ?_
          exact x1 (hr := (rB_))
        · try simp at hg89
          refine qv m_mv ?_
          refine qv m_mul ?_
          refine qv (m_fdp fd23_0) ?_
          refine qv (m_ldp sz3 ag3) ?_
          refine qv (m_fdp fd23_1) ?_
          refine qv (m_ldp sz3 ag3) ?_
          refine qv m_add ?_
          refine qv m_geq ?_
          refine qv m_pk ?_
          refine qv m_pk ?_
          refine qx m_mv (fun hg100 => ?_) (fun hg100 => ?_)
          rotate_left
          · exact absurd hg100 (by first | (simp; done) | (have hfl := few_law ok (show 2 ≤ n.nd by omega); first | (simp; omega) | (simp_all; omega)))
          refine qqF (f18) ?_
          refine qv m_pk ?_
          refine qv m_as ?_
          show AWp cx _ _ _
          refine awp_ret ?_
          exact x1 (hr := (rB_))
  · try simp at hg14
    refine qk ?_
    refine qk ?_
    refine qk ?_
    refine qv m_pk ?_
    refine qv m_mv ?_
    refine qk ?_
    refine qk ?_
    refine qk ?_
    refine qv m_pk ?_
    refine qv m_mv ?_
    refine qk ?_
    refine qk ?_
    refine qk ?_
    refine qv m_pk ?_
    refine qv m_mv ?_
    refine qk ?_
    refine qk ?_
    refine qk ?_
    refine qk ?_
    refine qk ?_
    refine qk ?_
    refine qv m_pk ?_
    refine qv m_mv ?_
    refine qk ?_
    refine qk ?_
    refine qk ?_
    refine qk ?_
    refine qk ?_
    refine qk ?_
    refine qv m_pk ?_
    show AWp cx _ _ _
    refine cdF (hb := by first | rfl | simp | simp_all) (ht := ?_)
    refine awp_skip ?_
    show AWp cx _ _ _
    refine awp_seq ?_
    refine rg ?_
    refine qv (m_ldpa sz23 ag23) ?_
    refine qqF (f40 m) ?_
    refine qv m_mv ?_
    refine qv m_ext ?_
    refine qv m_ext ?_
    refine qv m_ext ?_
    refine qv m_as ?_
    refine qv m_as ?_
    refine qv m_as ?_
    show AWp cx _ _ _
    refine awp_seq ?_
    refine rg ?_
    refine qv (m_ldpa sz23 ag23) ?_
    refine qqF (f41 m) ?_
    refine qv m_mv ?_
    refine qv m_ext ?_
    refine qv m_ext ?_
    refine qv m_ext ?_
    refine qv m_as ?_
    refine qv m_as ?_
    refine qv m_as ?_
    show AWp cx _ _ _
    refine awp_seq ?_
    refine awp_seq ?_
    refine rg ?_
    refine qv m_mv ?_
    refine qv m_mv ?_
    refine qv m_neq ?_
    refine qx m_mv (fun hg61 => ?_) (fun hg61 => ?_)
    · exact absurd hg61 (by simp)
    refine qv m_mv ?_
    refine qv m_mv ?_
    refine qv m_neq ?_
    refine qv m_pk ?_
    refine qx m_mv (fun hg66 => ?_) (fun hg66 => ?_)
    · exact absurd hg66 (by simp)
    refine qv m_mv ?_
    refine qv m_mv ?_
    refine qv m_neq ?_
    refine qv m_pk ?_
    show AWp cx _ _ _
    refine cdF (hb := by simp) (ht := ?_)
    refine awp_skip ?_
    show AWp cx _ _ _
    refine awp_seq ?_
    refine awp_seq ?_
    refine rg ?_
    refine qv m_mv ?_
    refine qv m_neq ?_
    show AWp cx _ _ _
    refine cd (fun hc2 => ?_) (fun hc2 => ?_)
    · skip
      refine awp_seq ?_
      refine rg ?_
      refine qqF (f18) ?_
      refine qv m_as ?_
      show AWp cx _ _ _
      refine awp_ret ?_
      exact x1 (hr := (rB_))
    · skip
      have he : (fewR m).2.2 = 0 := by simpa using hc2
      obtain ⟨n, ok, rfl, hN, hfw⟩ := fewR_fit he
      simp only [hfw]
      have hpl := popc_le (best n)
      have hr2 := ok.r2
      have hcc2 := ok.c2
      refine awp_skip ?_
      show AWp cx _ _ _
      refine awp_seq ?_
      refine rg ?_
      refine qv (m_ldpa sz23 ag23) ?_
      refine qv m_mv ?_
      refine qqF (f29b ok) ?_
      refine qv m_mv ?_
      refine qv m_ext ?_
      refine qv m_ext ?_
      refine qv m_as ?_
      refine qv m_as ?_
      show AWp cx _ _ _
      refine awp_seq ?_
      refine rg ?_
      refine qv m_mv ?_
      refine qv m_eql ?_
      refine qx m_mv (fun hg82 => ?_) (fun hg82 => ?_)
      rotate_left
      · exact absurd hg82 (by simp)
      refine qv m_mv ?_
      refine qv m_pk ?_
      refine qx m_mv (fun hg85 => ?_) (fun hg85 => ?_)
      rotate_left
      · exact absurd hg85 (by simp)
      refine qv (m_fdp fd23_2) ?_
      refine qv (m_ldp sz3 ag3) ?_
      refine qv m_lss ?_
      refine qx m_mv (fun hg89 => ?_) (fun hg89 => ?_)
      · try simp at hg89
        refine qk ?_
        refine qk ?_
        refine qk ?_
        refine qk ?_
        refine qk ?_
        refine qk ?_
        refine qk ?_
        refine qk ?_
        refine qv m_pk ?_
        refine qv m_pk ?_
        refine qv m_mv ?_
        refine qqF (f18) ?_
        refine qv m_pk ?_
        refine qv m_as ?_
        show AWp cx _ _ _
        refine awp_ret ?_
        exact x1 (hr := (rB_))
      · try simp at hg89
        refine qv m_mv ?_
        refine qv m_mul ?_
        refine qv (m_fdp fd23_0) ?_
        refine qv (m_ldp sz3 ag3) ?_
        refine qv (m_fdp fd23_1) ?_
        refine qv (m_ldp sz3 ag3) ?_
        refine qv m_add ?_
        refine qv m_geq ?_
        refine qv m_pk ?_
        refine qv m_pk ?_
        refine qx m_mv (fun hg100 => ?_) (fun hg100 => ?_)
        rotate_left
        · exact absurd hg100 (by first | (simp; done) | (have hfl := few_law ok (show 2 ≤ n.nd by omega); first | (simp; omega) | (simp_all; omega)))
        refine qqF (f18) ?_
        refine qv m_pk ?_
        refine qv m_as ?_
        show AWp cx _ _ _
        refine awp_ret ?_
        exact x1 (hr := (rB_))

end Go.Ab.Tryd
