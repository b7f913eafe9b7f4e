/- The functions of the moss laws, part 28. The walks are written by wip/gen/gw.py. -/
import Derived.Test.YtjipgkhfbfpacaaDoorMoss27
import Derived.Test.YtjipgkhfbfpacaaDoorMossFacts
import Derived.Test.YtjipgkhfbfpacaaDoorMossD
set_option linter.all false
namespace Go.Ab.Tryd
open Go Go.Ab Go.Proofs Go.Ab.Moss


set_option maxHeartbeats 4000000 in
theorem f45 (m : Mw) (w : Int) : ACallsF Tryd.prog 45 [dMw m, i64 w] (.many [.dv (dMw (turnM m w)), .dv (i64 (onWet m w 0 fun n v => (movF v (turnK n) (n.r * n.c) : Int))), .dv (i64 (wetE m w))]) := by
  refine callsF_of Tryd.func45 rfl rfl (by rw [Tryd.ntmps45]; simp) fun cx hP hn hg => ?_
  rw [Tryd.ntmps45] at hn
  rw [startF_lk, none_mkM]
  simp only [List.nil_append, List.append_nil, List.cons_append, zipSV, Nat.reduceAdd]
  refine awp_seq ?_
  refine rg ?_
  refine qp m_box ?_
  refine qp (m_al ze23) ?_
  refine qv m_as ?_
  refine qv m_as ?_
  show AWp cx _ _ _
  refine awp_seq ?_
  refine rg ?_
  refine qv (m_ldpa sz23 ag23) ?_
  refine qv m_mv ?_
  refine qqF (f61 m w) ?_
  refine qv m_as ?_
  show AWp cx _ _ _
  refine awp_seq ?_
  refine awp_seq ?_
  refine rg ?_
  refine qv m_mv ?_
  refine qv m_neq ?_
  show AWp cx _ _ _
  refine cd (fun hc0 => ?_) (fun hc0 => ?_)
  · skip
    have hne : ¬ wetE m w = 0 := by simpa using hc0
    refine awp_seq ?_
    refine rg ?_
    refine qv (m_bld pl23 ze23) ?_
    refine qv m_mv ?_
    refine qs (m_st sz23) ?_
    refine qv m_as ?_
    refine qv m_as ?_
    show AWp cx _ _ _
    refine awp_ret ?_
    rw [turnM_no hne, onWet_no hne]
    exact x3c (rv := [.cell 4 23, .tmp 5, .tmp 6]) (.inr rfl) (by simp only [resSV, loadSV, St.look, St.ev, lk, mkM, blkOf, svOf, svOfCell, sz23, ag23, reduceIte, Nat.reduceEqDiff]; rfl) (.agg _ (by intro c hc; simp at hc; rcases hc with rfl | rfl | rfl <;> exact .int _ _)) (.int _ _) (.int _ _)
  · skip
    have he : wetE m w = 0 := by simpa using hc0
    obtain ⟨n, v, ok, rfl, rfl, hv⟩ := wetE_ok he
    have hv36 := le36 ok hv
    have hwe := wetE_v ok hv
    refine awp_skip ?_
    show AWp cx _ _ _
    refine awp_seq ?_
    refine rg ?_
    refine qv m_as ?_
    show AWp cx _ _ _
    refine awp_seq ?_
    refine awp_seq ?_
    refine rg ?_
    refine qv m_as ?_
    show AWp cx _ _ _
    refine awp_block ?_
    refine awp_loop (ι := Nat) (fun k => ⟨lk [(1, .dv (i64 ((v : Int)))), (2, .pt 2 0 0), (4, .pt 4 0 0), (8, .dv (i64 (movF v (turnK n) k : Nat))), (9, .dv (i64 (k : Nat)))], mkM [(2, 0, some ⟨[.dv (i64 ((n.r : Int))), .dv (i64 ((n.c : Int))), .dv (i64 ((n.nd : Int)))], 0, 23, 0, false⟩), (4, 0, some ⟨[.dv (i64 0), .dv (i64 0), .dv (i64 0)], 0, 23, 0, false⟩)]⟩) (fun k => k ≤ n.r * n.c) (fun k => n.r * n.c - k) 0 (by simp) (tl [(2, 2), (4, 4)] (hF := by simp [FLe, svLe, lk, mkM, isLive, tauL, movF]) (hM := by simp [MLe, blkLe, svLe, svLes, lk, mkM, isLive, tauL, svLes_ints, svLes_self, isDvs, isDvs_map, isDvs_app, isDvs_take, isDvs_set, isDvs_repl, movF])) ?_
    intro k hφ0
    refine awp_seq ?_
    refine awp_seq ?_
    refine rg ?_
    refine qv m_mv ?_
    refine qv (m_ldpa sz23 ag23) ?_
    refine qqF (f62 n ok) ?_
    refine qv m_lss ?_
    show AWp cx _ _ _
    refine cd (fun hc1 => ?_) (fun hc1 => ?_)
    · try simp at hc1
      have hkl : k < n.r * n.c := by omega
      have hN := ok.N2
      have hk1 := row_lt hkl ok.c1
      have hk2 := Nat.mod_lt k ok.c1
      have hr2 := ok.r2
      have hc2' := ok.c2
      have hcp : 0 < n.c := ok.c1
      have hw36 := movF_lt (v := v) (g := turnK n) (k := k) fun j hj => turnK36 ok (by omega)
      have hg36 := turnK36 ok hkl
      have hm : k % n.c * n.r ≤ 6 * 6 := Nat.mul_le_mul (by omega) hr2
      have hex : ((k % n.c * n.r : Nat) : Int) + (n.r : Int) - 1 - ((k / n.c : Nat) : Int) = ((turnK n k : Nat) : Int) := by unfold turnK; generalize k / n.c = a at *; generalize k % n.c * n.r = b at *; omega
      refine awp_skip ?_
      show AWp cx _ _ _
      refine awp_seq ?_
      refine awp_block ?_
      refine awp_seq ?_
      refine rg ?_
      refine qv m_mv ?_
      refine qv m_mv ?_
      refine qqF (f36 v k hv36 (by omega)) ?_
      show AWp cx _ _ _
      refine cd (fun hc2 => ?_) (fun hc2 => ?_)
      · skip
        have hb : movF v (turnK n) (k + 1) = movF v (turnK n) k ||| 2 ^ turnK n k := by simp only [movF]; rw [if_pos hc2]
        refine rd mixed ?_
        refine zv m_mv ?_
        refine zv m_mv ?_
        refine zv (m_fdp fd23_1) ?_
        refine zv (m_ldp sz3 ag3) ?_
        refine zv m_remN ?_
        refine zv (m_fdp fd23_0) ?_
        refine zv (m_ldp sz3 ag3) ?_
        refine zv m_mulN ?_
        refine zv (m_fdp fd23_0) ?_
        refine zv (m_ldp sz3 ag3) ?_
        refine zv m_add ?_
        refine zv m_sub ?_
        refine zv m_mv ?_
        refine zv (m_fdp fd23_1) ?_
        refine zv (m_ldp sz3 ag3) ?_
        refine zv m_quoN ?_
        refine zv m_sub ?_
        rw [hex]
        refine zv (m_cnvU kd3 kd41) ?_
        refine zv (m_shlS (turnK n k)) ?_
        refine zv (m_orS (ha := hw36) (hb := two36 (by omega))) ?_
        refine zv m_as ?_
        refine ⟨by rfl, ?_⟩
        show AWp cx _ _ _
        refine rg ?_
        refine qv m_mv ?_
        refine qv m_add ?_
        refine qv m_as ?_
        exact ⟨k + 1, hkl, (by simp only; omega), (tl [(2, 2), (4, 4)] (hF := by simp [FLe, svLe, lk, mkM, isLive, tauL, hb]) (hM := by simp [MLe, blkLe, svLe, svLes, lk, mkM, isLive, tauL, svLes_ints, svLes_self, isDvs, isDvs_map, isDvs_app, isDvs_take, isDvs_set, isDvs_repl, hb]))⟩
      · skip
        have hb : movF v (turnK n) (k + 1) = movF v (turnK n) k := by simp only [movF]; rw [if_neg (by rw [hc2]; simp)]
        refine awp_skip ?_
        show AWp cx _ _ _
        refine rg ?_
        refine qv m_mv ?_
        refine qv m_add ?_
        refine qv m_as ?_
        exact ⟨k + 1, hkl, (by simp only; omega), (tl [(2, 2), (4, 4)] (hF := by simp [FLe, svLe, lk, mkM, isLive, tauL, hb]) (hM := by simp [MLe, blkLe, svLe, svLes, lk, mkM, isLive, tauL, svLes_ints, svLes_self, isDvs, isDvs_map, isDvs_app, isDvs_take, isDvs_set, isDvs_repl, hb]))⟩
    · try simp at hc1
      refine awp_exit ?_
      show AWp cx _ _ _
      refine awp_seq ?_
      refine rg ?_
      refine qv (m_fdp fd23_1) ?_
      refine qv (m_ldp sz3 ag3) ?_
      refine qv (m_fdp fd23_0) ?_
      refine qv (m_ldp sz3 ag3) ?_
      refine qv (m_fdp fd23_2) ?_
      refine qv (m_ldp sz3 ag3) ?_
      refine qv (m_bld pl23 ze23) ?_
      refine qv m_mv ?_
      refine qs (m_st sz23) ?_
      refine qv m_as ?_
      refine qv m_as ?_
      show AWp cx _ _ _
      refine awp_ret ?_
      obtain rfl : k = n.r * n.c := by omega
      rw [turnM_ok ok hv, onWet_ok ok hv, hwe]
      exact x3c (rv := [.cell 4 23, .tmp 5, .tmp 6]) (.inr rfl) (by simp only [resSV, loadSV, St.look, St.ev, lk, mkM, blkOf, svOf, svOfCell, sz23, ag23, reduceIte, Nat.reduceEqDiff]; rfl) (.agg _ (by intro c hc; simp at hc; rcases hc with rfl | rfl | rfl <;> exact .int _ _)) (.int _ _) (.int _ _)

set_option maxHeartbeats 4000000 in
theorem f47 (m : Mw) (w : Int) : ACallsF Tryd.prog 47 [dMw m, i64 w] (.many [.dv (i64 (onWet m w 0 fun n v => (movF v (mirK n) (n.r * n.c) : Int))), .dv (i64 (wetE m w))]) := by
  refine callsF_of Tryd.func47 rfl rfl (by rw [Tryd.ntmps47]; simp) fun cx hP hn hg => ?_
  rw [Tryd.ntmps47] at hn
  rw [startF_lk, none_mkM]
  simp only [List.nil_append, List.append_nil, List.cons_append, zipSV, Nat.reduceAdd]
  refine awp_seq ?_
  refine rg ?_
  refine qp m_box ?_
  refine qv m_as ?_
  refine qv m_as ?_
  show AWp cx _ _ _
  refine awp_seq ?_
  refine rg ?_
  refine qv (m_ldpa sz23 ag23) ?_
  refine qv m_mv ?_
  refine qqF (f61 m w) ?_
  refine qv m_as ?_
  show AWp cx _ _ _
  refine awp_seq ?_
  refine awp_seq ?_
  refine rg ?_
  refine qv m_mv ?_
  refine qv m_neq ?_
  show AWp cx _ _ _
  refine cd (fun hc0 => ?_) (fun hc0 => ?_)
  · skip
    have hne : ¬ wetE m w = 0 := by simpa using hc0
    refine awp_seq ?_
    refine rg ?_
    refine qv m_mv ?_
    refine qv m_as ?_
    refine qv m_as ?_
    show AWp cx _ _ _
    refine awp_ret ?_
    exact x2 (hr := (rI_ (by rw [onWet_no hne]))) (hr' := (rI_))
  · skip
    have he : wetE m w = 0 := by simpa using hc0
    obtain ⟨n, v, ok, rfl, rfl, hv⟩ := wetE_ok he
    have hv36 := le36 ok hv
    have hwe := wetE_v ok hv
    refine awp_skip ?_
    show AWp cx _ _ _
    refine awp_seq ?_
    refine rg ?_
    refine qv m_as ?_
    show AWp cx _ _ _
    refine awp_seq ?_
    refine awp_seq ?_
    refine rg ?_
    refine qv m_as ?_
    show AWp cx _ _ _
    refine awp_block ?_
    refine awp_loop (ι := Nat) (fun k => ⟨lk [(1, .dv (i64 ((v : Int)))), (2, .pt 2 0 0), (7, .dv (i64 (movF v (mirK n) k : Nat))), (8, .dv (i64 (k : Nat)))], mkM [(2, 0, some ⟨[.dv (i64 ((n.r : Int))), .dv (i64 ((n.c : Int))), .dv (i64 ((n.nd : Int)))], 0, 23, 0, false⟩)]⟩) (fun k => k ≤ n.r * n.c) (fun k => n.r * n.c - k) 0 (by simp) (tl [(2, 2)] (hF := by simp [FLe, svLe, lk, mkM, isLive, tauL, movF]) (hM := by simp [MLe, blkLe, svLe, svLes, lk, mkM, isLive, tauL, svLes_ints, svLes_self, isDvs, isDvs_map, isDvs_app, isDvs_take, isDvs_set, isDvs_repl, movF])) ?_
    intro k hφ0
    refine awp_seq ?_
    refine awp_seq ?_
    refine rg ?_
    refine qv m_mv ?_
    refine qv (m_ldpa sz23 ag23) ?_
    refine qqF (f62 n ok) ?_
    refine qv m_lss ?_
    show AWp cx _ _ _
    refine cd (fun hc1 => ?_) (fun hc1 => ?_)
    · try simp at hc1
      have hkl : k < n.r * n.c := by omega
      have hN := ok.N2
      have hk1 := row_lt hkl ok.c1
      have hk2 := Nat.mod_lt k ok.c1
      have hr2 := ok.r2
      have hc2' := ok.c2
      have hcp : 0 < n.c := ok.c1
      have hw36 := movF_lt (v := v) (g := mirK n) (k := k) fun j hj => mirK36 ok (by omega)
      have hg36 := mirK36 ok hkl
      have hm : k / n.c * n.c ≤ 6 * 6 := Nat.mul_le_mul (by omega) (by omega)
      have hex : ((k / n.c * n.c : Nat) : Int) + (n.c : Int) - 1 - ((k % n.c : Nat) : Int) = ((mirK n k : Nat) : Int) := by unfold mirK; generalize k % n.c = a at *; generalize k / n.c * n.c = b at *; omega
      refine awp_skip ?_
      show AWp cx _ _ _
      refine awp_seq ?_
      refine awp_block ?_
      refine awp_seq ?_
      refine rg ?_
      refine qv m_mv ?_
      refine qv m_mv ?_
      refine qqF (f36 v k hv36 (by omega)) ?_
      show AWp cx _ _ _
      refine cd (fun hc2 => ?_) (fun hc2 => ?_)
      · skip
        have hb : movF v (mirK n) (k + 1) = movF v (mirK n) k ||| 2 ^ mirK n k := by simp only [movF]; rw [if_pos hc2]
        refine rd mixed ?_
        refine zv m_mv ?_
        refine zv m_mv ?_
        refine zv (m_fdp fd23_1) ?_
        refine zv (m_ldp sz3 ag3) ?_
        refine zv m_quoN ?_
        refine zv (m_fdp fd23_1) ?_
        refine zv (m_ldp sz3 ag3) ?_
        refine zv m_mulN ?_
        refine zv (m_fdp fd23_1) ?_
        refine zv (m_ldp sz3 ag3) ?_
        refine zv m_add ?_
        refine zv m_sub ?_
        refine zv m_mv ?_
        refine zv (m_fdp fd23_1) ?_
        refine zv (m_ldp sz3 ag3) ?_
        refine zv m_remN ?_
        refine zv m_sub ?_
        rw [hex]
        refine zv (m_cnvU kd3 kd41) ?_
        refine zv (m_shlS (mirK n k)) ?_
        refine zv (m_orS (ha := hw36) (hb := two36 (by omega))) ?_
        refine zv m_as ?_
        refine ⟨by rfl, ?_⟩
        show AWp cx _ _ _
        refine rg ?_
        refine qv m_mv ?_
        refine qv m_add ?_
        refine qv m_as ?_
        exact ⟨k + 1, hkl, (by simp only; omega), (tl [(2, 2)] (hF := by simp [FLe, svLe, lk, mkM, isLive, tauL, hb]) (hM := by simp [MLe, blkLe, svLe, svLes, lk, mkM, isLive, tauL, svLes_ints, svLes_self, isDvs, isDvs_map, isDvs_app, isDvs_take, isDvs_set, isDvs_repl, hb]))⟩
      · skip
        have hb : movF v (mirK n) (k + 1) = movF v (mirK n) k := by simp only [movF]; rw [if_neg (by rw [hc2]; simp)]
        refine awp_skip ?_
        show AWp cx _ _ _
        refine rg ?_
        refine qv m_mv ?_
        refine qv m_add ?_
        refine qv m_as ?_
        exact ⟨k + 1, hkl, (by simp only; omega), (tl [(2, 2)] (hF := by simp [FLe, svLe, lk, mkM, isLive, tauL, hb]) (hM := by simp [MLe, blkLe, svLe, svLes, lk, mkM, isLive, tauL, svLes_ints, svLes_self, isDvs, isDvs_map, isDvs_app, isDvs_take, isDvs_set, isDvs_repl, hb]))⟩
    · try simp at hc1
      refine awp_exit ?_
      show AWp cx _ _ _
      refine awp_seq ?_
      refine rg ?_
      refine qv m_mv ?_
      refine qv m_as ?_
      refine qv m_as ?_
      show AWp cx _ _ _
      refine awp_ret ?_
      obtain rfl : k = n.r * n.c := by omega
      exact x2 (hr := (rI_ (by rw [onWet_ok ok hv]))) (hr' := (rI_ (by rw [hwe])))

end Go.Ab.Tryd
