/- The functions of the moss laws, part 11. The walks are written by wip/gen/gw.py. -/
import Derived.Test.YtjipgkhfbfpacaaDoorMoss10
import Derived.Test.YtjipgkhfbfpacaaDoorMossFacts
import Derived.Test.YtjipgkhfbfpacaaDoorMossD
set_option linter.all false
namespace Go.Ab.Tryd
open Go Go.Ab Go.Proofs Go.Ab.Moss

/-- The sum of the first k. -/
def sumN (f : Nat → Int) : Nat → Int
  | 0 => 0
  | k + 1 => sumN f k + f k
theorem sumN_filter (f : Nat → Int) (p : Nat → Bool) : ∀ k, sumI f ((List.range k).filter p) = sumN (fun i => if p i then f i else 0) k
  | 0 => rfl
  | k + 1 => by
    rw [List.range_succ, List.filter_append]
    have ih := sumN_filter f p k
    simp only [sumI] at *
    rw [List.map_append, List.sum_append, ih]
    simp only [sumN]
    by_cases h : p k = true
    · simp [h]
    · simp [h]
theorem bl_range {n : Mn} (ok : n.Ok) {v : Nat} (hv : v ≤ full n) : bl v = (List.range (n.r * n.c)).filter fun i => v.testBit i := by
  have h1 := full_add (n := n)
  have h2 : v < 2 ^ (n.r * n.c) := by omega
  unfold bl
  have e : (64 : Nat) = n.r * n.c + (64 - n.r * n.c) := by have := ok.N2; omega
  rw [e, List.range_add, List.filter_append]
  have : ((List.range (64 - n.r * n.c)).map (n.r * n.c + ·)).filter (fun i => v.testBit i) = [] := by
    rw [List.filter_eq_nil_iff]
    intro i hi
    obtain ⟨j, _, rfl⟩ := List.mem_map.1 hi
    rw [testBit_high h2 (by omega)]; simp
  rw [this, List.append_nil]
def edE (n : Mn) (v k : Nat) : Int := if v.testBit k then 4 - (cntR n v k : Int) else 0
theorem edgeR_sum {n : Mn} (ok : n.Ok) {v : Nat} (hv : v ≤ full n) : edgeR n v = sumN (edE n v) (n.r * n.c) := by
  unfold edgeR
  rw [bl_range ok hv, sumN_filter]
  have : ∀ m, m ≤ n.r * n.c → sumN (fun i => if v.testBit i then sideN n v i else 0) m = sumN (edE n v) m := fun m => by
    induction m with
    | zero => intro _; rfl
    | succ m ih => intro h; simp only [sumN]; rw [ih (by omega)]; simp only [edE, sideN, popc_and ok (show m < n.r * n.c by omega)]
  exact this _ (Nat.le_refl _)
theorem cntR_le {n : Mn} {v k : Nat} : cntR n v k ≤ n.r * n.c := by
  unfold cntR nbL
  refine Nat.le_trans List.countP_le_length (Nat.le_trans (List.length_filter_le _ _) (by simp))
theorem edE_bd {n : Mn} (ok : n.Ok) {v : Nat} : ∀ k : Nat, -36 * (k : Int) ≤ sumN (edE n v) k ∧ sumN (edE n v) k ≤ 4 * (k : Int)
  | 0 => by simp [sumN]
  | k + 1 => by
    have ih := edE_bd ok (v := v) k
    have h1 := cntR_le (n := n) (v := v) (k := k)
    have h2 := ok.N2
    simp only [sumN, edE]
    split <;> push_cast <;> omega


theorem f30 (m : Mw) (w : Int) : ACallsF Tryd.prog 30 [dMw m, i64 w] (.many [.dv (.bool (onWet m w false fun n v => decide ((spr n v).1 = full n))), .dv (i64 (wetE m w))]) := by
  refine callsF_of Tryd.func30 rfl rfl (by rw [Tryd.ntmps30]; simp) fun cx hP hn hg => ?_
  rw [Tryd.ntmps30] at hn
  rw [startF_lk, none_mkM]
  simp only [List.nil_append, List.append_nil, List.cons_append, zipSV, Nat.reduceAdd]
  refine awp_seq ?_
  refine rg ?_
  refine qp m_box ?_
  refine qv m_as ?_
  refine qv m_as ?_
  show AWp cx _ _ _
  refine awp_seq ?_
  refine rg ?_
  refine qv (m_ldpa sz23 ag23) ?_
  refine qv m_mv ?_
  refine qqF (f28 m w) ?_
  refine qv m_mv ?_
  refine qv m_ext ?_
  refine qv m_ext ?_
  refine qv m_ext ?_
  refine qv m_as ?_
  refine qv m_as ?_
  refine qv m_as ?_
  show AWp cx _ _ _
  refine awp_seq ?_
  refine rg ?_
  refine qv m_mv ?_
  refine qv m_eql ?_
  refine qx m_mv (fun hg18 => ?_) (fun hg18 => ?_)
  · try simp at hg18
    have he : wetE m w = 0 := by simpa using hg18
    obtain ⟨n, v, ok, rfl, rfl, hv⟩ := wetE_ok he
    have hv36 := le36 ok hv
    have hwe := wetE_v ok hv
    refine qv m_mv ?_
    refine qv (m_ldpa sz23 ag23) ?_
    refine qqF (f72 n ok) ?_
    refine qv m_eql ?_
    refine qv m_pk ?_
    refine qv m_mv ?_
    refine qv m_as ?_
    refine qv m_as ?_
    show AWp cx _ _ _
    refine awp_ret ?_
    exact x2 (hr := (rB_ (by rw [onWet_ok ok hv, onWet_ok ok hv]; exact decide_eq_decide.2 (by omega)))) (hr' := (rI_))
  · try simp at hg18
    refine qk ?_
    refine qk ?_
    refine qk ?_
    refine qk ?_
    refine qv m_pk ?_
    refine qv m_mv ?_
    refine qv m_as ?_
    refine qv m_as ?_
    show AWp cx _ _ _
    refine awp_ret ?_
    exact x2 (hr := (rB_ (by rw [onWet_no (by simpa using hg18)]))) (hr' := (rI_))

theorem f20 (m : Mw) (w : Int) : ACallsF Tryd.prog 20 [dMw m, i64 w] (.many [.dv (i64 (onWet m w 0 edgeR)), .dv (i64 (wetE m w))]) := by
  refine callsF_of Tryd.func20 rfl rfl (by rw [Tryd.ntmps20]; simp) fun cx hP hn hg => ?_
  rw [Tryd.ntmps20] at hn
  rw [startF_lk, none_mkM]
  simp only [List.nil_append, List.append_nil, List.cons_append, zipSV, Nat.reduceAdd]
  refine awp_seq ?_
  refine rg ?_
  refine qp m_box ?_
  refine qv m_as ?_
  refine qv m_as ?_
  show AWp cx _ _ _
  refine awp_seq ?_
  refine rg ?_
  refine qv (m_ldpa sz23 ag23) ?_
  refine qv m_mv ?_
  refine qqF (f61 m w) ?_
  refine qv m_as ?_
  show AWp cx _ _ _
  refine awp_seq ?_
  refine awp_seq ?_
  refine rg ?_
  refine qv m_mv ?_
  refine qv m_neq ?_
  show AWp cx _ _ _
  refine cd (fun hc0 => ?_) (fun hc0 => ?_)
  · skip
    have hne : ¬ wetE m w = 0 := by simpa using hc0
    refine awp_seq ?_
    refine rg ?_
    refine qv m_mv ?_
    refine qv m_as ?_
    refine qv m_as ?_
    show AWp cx _ _ _
    refine awp_ret ?_
    exact x2 (hr := (rI_ (by rw [onWet_no hne]))) (hr' := (rI_))
  · skip
    have he : wetE m w = 0 := by simpa using hc0
    obtain ⟨n, v, ok, rfl, rfl, hv⟩ := wetE_ok he
    have hv36 := le36 ok hv
    have hwe := wetE_v ok hv
    refine awp_skip ?_
    show AWp cx _ _ _
    refine awp_seq ?_
    refine rg ?_
    refine qv m_as ?_
    show AWp cx _ _ _
    refine awp_seq ?_
    refine awp_seq ?_
    refine rg ?_
    refine qv m_as ?_
    show AWp cx _ _ _
    refine awp_block ?_
    refine awp_loop (ι := Nat) (fun k => ⟨lk [(1, .dv (i64 ((v : Int)))), (2, .pt 2 0 0), (7, .dv (i64 (sumN (edE n v) k))), (8, .dv (i64 (k : Nat)))], mkM [(2, 0, some ⟨[.dv (i64 ((n.r : Int))), .dv (i64 ((n.c : Int))), .dv (i64 ((n.nd : Int)))], 0, 23, 0, false⟩)]⟩) (fun k => k ≤ n.r * n.c) (fun k => n.r * n.c - k) 0 (by simp) (tl [(2, 2)] (hF := by simp [FLe, svLe, lk, mkM, isLive, tauL, sumN]) (hM := by simp [MLe, blkLe, svLe, svLes, lk, mkM, isLive, tauL, svLes_ints, svLes_self, isDvs, isDvs_map, isDvs_app, isDvs_take, isDvs_set, isDvs_repl, sumN])) ?_
    intro k hφ0
    refine awp_seq ?_
    refine awp_seq ?_
    refine rg ?_
    refine qv m_mv ?_
    refine qv (m_ldpa sz23 ag23) ?_
    refine qqF (f62 n ok) ?_
    refine qv m_lss ?_
    show AWp cx _ _ _
    refine cd (fun hc1 => ?_) (fun hc1 => ?_)
    · try simp at hc1
      have hkl : k < n.r * n.c := by omega
      have hN := ok.N2
      have hbd := edE_bd ok (v := v) k
      have hcl := cntR_le (n := n) (v := v) (k := k)
      have hst : sumN (edE n v) (k + 1) = sumN (edE n v) k + edE n v k := rfl
      refine awp_skip ?_
      show AWp cx _ _ _
      refine awp_seq ?_
      refine awp_block ?_
      refine awp_seq ?_
      refine rg ?_
      refine qv m_mv ?_
      refine qv m_mv ?_
      refine qqF (f36 v k hv36 (by omega)) ?_
      show AWp cx _ _ _
      refine cd (fun hc2 => ?_) (fun hc2 => ?_)
      · try simp at hc2
        have hed : edE n v k = 4 - (cntR n v k : Int) := by simp [edE, hc2]
        refine rg ?_
        refine qv m_mv ?_
        refine qv (m_ldpa sz23 ag23) ?_
        refine qv m_mv ?_
        refine qv m_mv ?_
        refine qqF (f63 n ok v k hv36 hkl) ?_
        refine qv m_sub ?_
        refine qv m_add ?_
        refine qv m_as ?_
        show AWp cx _ _ _
        refine rg ?_
        refine qv m_mv ?_
        refine qv m_add ?_
        refine qv m_as ?_
        exact ⟨k + 1, hkl, (by simp only; omega), (tl [(2, 2)] (hF := by simp [FLe, svLe, lk, mkM, isLive, tauL, hst, hed]) (hM := by simp [MLe, blkLe, svLe, svLes, lk, mkM, isLive, tauL, svLes_ints, svLes_self, isDvs, isDvs_map, isDvs_app, isDvs_take, isDvs_set, isDvs_repl, hst, hed]))⟩
      · try simp at hc2
        have hed : edE n v k = 0 := by simp [edE, hc2]
        refine awp_skip ?_
        show AWp cx _ _ _
        refine rg ?_
        refine qv m_mv ?_
        refine qv m_add ?_
        refine qv m_as ?_
        exact ⟨k + 1, hkl, (by simp only; omega), (tl [(2, 2)] (hF := by simp [FLe, svLe, lk, mkM, isLive, tauL, hst, hed]) (hM := by simp [MLe, blkLe, svLe, svLes, lk, mkM, isLive, tauL, svLes_ints, svLes_self, isDvs, isDvs_map, isDvs_app, isDvs_take, isDvs_set, isDvs_repl, hst, hed]))⟩
    · try simp at hc1
      refine awp_exit ?_
      show AWp cx _ _ _
      refine awp_seq ?_
      refine rg ?_
      refine qv m_mv ?_
      refine qv m_as ?_
      refine qv m_as ?_
      show AWp cx _ _ _
      refine awp_ret ?_
      exact x2 (hr := (rI_ (by rw [onWet_ok ok hv, edgeR_sum ok hv]; congr 1; omega))) (hr' := (rI_ (by rw [hwe])))

set_option maxHeartbeats 4000000 in
theorem f6 (m : Mw) (w : Int) : ACallsF Tryd.prog 6 [dMw m, i64 w] (.one (.dv (.bool true))) := by
  refine callsF_of Tryd.func6 rfl rfl (by rw [Tryd.ntmps6]; simp) fun cx hP hn hg => ?_
  rw [Tryd.ntmps6] at hn
  rw [startF_lk, none_mkM]
  simp only [List.nil_append, List.append_nil, List.cons_append, zipSV, Nat.reduceAdd]
  refine awp_seq ?_
  refine rg ?_
  refine qp m_box ?_
  refine qv m_as ?_
  show AWp cx _ _ _
  refine awp_seq ?_
  refine rg ?_
  refine qv (m_ldpa sz23 ag23) ?_
  refine qv m_mv ?_
  refine qqF (f21 m w) ?_
  refine qv m_mv ?_
  refine qv m_ext ?_
  refine qv m_ext ?_
  refine qv m_as ?_
  refine qv m_as ?_
  show AWp cx _ _ _
  refine awp_seq ?_
  refine rg ?_
  refine qv (m_ldpa sz23 ag23) ?_
  refine qv m_mv ?_
  refine qqF (f27 m w) ?_
  refine qv m_mv ?_
  refine qv m_ext ?_
  refine qv m_ext ?_
  refine qv m_as ?_
  refine qv m_as ?_
  show AWp cx _ _ _
  refine awp_seq ?_
  refine rg ?_
  refine qv (m_ldpa sz23 ag23) ?_
  refine qv m_mv ?_
  refine qqF (f17 m w) ?_
  refine qv m_mv ?_
  refine qv m_ext ?_
  refine qv m_ext ?_
  refine qv m_ext ?_
  refine qv m_as ?_
  refine qv m_as ?_
  refine qv m_as ?_
  show AWp cx _ _ _
  refine awp_seq ?_
  refine rg ?_
  refine qv (m_ldpa sz23 ag23) ?_
  refine qv m_mv ?_
  refine qqF (f28 m w) ?_
  refine qv m_mv ?_
  refine qv m_ext ?_
  refine qv m_ext ?_
  refine qv m_ext ?_
  refine qv m_as ?_
  refine qv m_as ?_
  refine qv m_as ?_
  show AWp cx _ _ _
  refine awp_seq ?_
  refine rg ?_
  refine qv (m_ldpa sz23 ag23) ?_
  refine qv m_mv ?_
  refine qqF (f29 m w) ?_
  refine qv m_mv ?_
  refine qv m_ext ?_
  refine qv m_ext ?_
  refine qv m_as ?_
  refine qv m_as ?_
  show AWp cx _ _ _
  refine awp_seq ?_
  refine rg ?_
  refine qv (m_ldpa sz23 ag23) ?_
  refine qv m_mv ?_
  refine qqF (f30 m w) ?_
  refine qv m_mv ?_
  refine qv m_ext ?_
  refine qv m_ext ?_
  refine qv m_as ?_
  refine qv m_as ?_
  show AWp cx _ _ _
  refine awp_seq ?_
  refine rg ?_
  refine qv m_mv ?_
  refine qv m_mv ?_
  refine qv m_eql ?_
  refine qx m_mv (fun hg60 => ?_) (fun hg60 => ?_)
  rotate_left
  · exact absurd hg60 (by simp)
  refine qv m_mv ?_
  refine qv m_mv ?_
  refine qv m_eql ?_
  refine qv m_pk ?_
  refine qx m_mv (fun hg65 => ?_) (fun hg65 => ?_)
  rotate_left
  · exact absurd hg65 (by simp)
  refine qv m_mv ?_
  refine qv m_mv ?_
  refine qv m_eql ?_
  refine qv m_pk ?_
  refine qx m_mv (fun hg70 => ?_) (fun hg70 => ?_)
  rotate_left
  · exact absurd hg70 (by simp)
  refine qv m_mv ?_
  refine qv m_mv ?_
  refine qv m_eql ?_
  refine qv m_pk ?_
  refine qx m_mv (fun hg75 => ?_) (fun hg75 => ?_)
  rotate_left
  · exact absurd hg75 (by simp)
  refine qv m_mv ?_
  refine qv m_mv ?_
  refine qv m_eql ?_
  refine qv m_pk ?_
  refine qx m_mv (fun hg80 => ?_) (fun hg80 => ?_)
  rotate_left
  · exact absurd hg80 (by simp)
  refine qv m_mv ?_
  refine qv m_mv ?_
  refine qv (m_beq ib4) ?_
  refine qv m_pk ?_
  refine qx m_mv (fun hg85 => ?_) (fun hg85 => ?_)
  rotate_left
  · exact absurd hg85 (by simp)
  refine qv m_mv ?_
  refine qv m_mv ?_
  refine qv m_eql ?_
  refine qv m_pk ?_
  refine qx m_mv (fun hg90 => ?_) (fun hg90 => ?_)
  rotate_left
  · exact absurd hg90 (by simp)
  refine qqF (f18) ?_
  refine qv m_pk ?_
  refine qv m_as ?_
  show AWp cx _ _ _
  refine awp_ret ?_
  exact x1 (hr := (rB_))

end Go.Ab.Tryd
