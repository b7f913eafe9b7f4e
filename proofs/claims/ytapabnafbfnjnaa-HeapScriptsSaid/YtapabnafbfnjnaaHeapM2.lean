/- The functions of the heap laws, part M2. The walks are written by wip/gen/gw.py. -/
import Derived.Test.YtapabnafbfnjnaaHeapPD
import Derived.Test.YtapabnafbfnjnaaHeapFacts
import Derived.Test.YtapabnafbfnjnaaHeapPT
set_option linter.all false
namespace Go.Ab.Try
open Go Go.Ab Go.Proofs Go.Ab.Heap
set_option maxHeartbeats 4000000 in
theorem f71_2 (h : Hp) (v : VH h) (hN : h.ground.length = 2) : ACallsG Try.prog 71 [.dv (dHp h)] (mkB []) ⟨[.sl 100000 0 0 2], mkB [(100000, ⟨[.sl 100001 0 0 2, .sl 100002 0 0 2], 1, 23, 0, true⟩), (100001, rowI (mrow h 0)), (100002, rowI (mrow h 1))]⟩ := by
  have hi0 : 0 < h.ground.length := by omega
  have hg0 := v.get hi0
  have hr0 := v.row 0 hi0
  have hi1 : 1 < h.ground.length := by omega
  have hg1 := v.get hi1
  have hr1 := v.row 1 hi1
  refine callsG_of Try.func71 rfl rfl (by rw [Try.ntmps71]; simp) fun cx hP hn hg => ?_
  rw [Try.ntmps71] at hn
  refine startG ?_
  refine awp_seq ?_
  refine rg ?_
  refine qp m_box ?_
  refine qv m_as ?_
  show AWp cx _ _ _
  refine awp_seq ?_
  refine rg ?_
  refine qv m_as ?_
  show AWp cx _ _ _
  refine awp_seq ?_
  refine awp_seq ?_
  refine rg ?_
  refine qv (m_fdp fd25_1) ?_
  refine qv (m_ldp sz23 ag23) ?_
  refine qv (m_len il23) ?_
  refine qv m_mv ?_
  show AWp cx _ _ _
  refine awp_block ?_
  refine awp_ul ?_
  refine ul_un (S0 := ⟨lk [(1, .pt 1 0 0), (3, .nils), (9, .dv (i64 ((2 : Nat) : Int))), (10, .dv (i64 ((0 : Nat) : Int)))], mkM [(1, 0, some ⟨[.dv (.list (h.links.map ints)), .dv (ints h.ground)], 0, 25, 0, false⟩)]⟩) (tl [(1, 1)] (hF := by simp [FLe, svLe, lk, mkM, isLive, tauL, hN]) (hM := by simp [MLe, blkLe, svLe, svLes, lk, mkM, isLive, tauL, svLes_ints, svLes_self, isDvs, isDvs_map, isDvs_app, isDvs_take, isDvs_set, isDvs_repl, hN])) ?_
  refine awp_seq ?_
  refine rg ?_
  refine qv m_lss ?_
  show AWp cx _ _ _
  refine awp_seq ?_
  refine cdT (hb := (by decide)) (ht := ?_)
  refine awp_skip ?_
  show AWp cx _ _ _
  refine awp_seq ?_
  refine awp_block ?_
  refine awp_seq ?_
  refine rg ?_
  refine qv m_mv ?_
  refine qv m_as ?_
  show AWp cx _ _ _
  refine awp_seq ?_
  refine rg ?_
  refine qv (m_fdp fd25_0) ?_
  refine qv (m_ldp sz22 ag22) ?_
  refine qv m_mv ?_
  first | refine qv (m_ixN el22 sz23) ?_ | refine qv (m_ix el22 sz23) ?_
  refine qv (m_ld sz23 ag23) ?_
  refine qqF (f80 (lrow h 0) (by omega)) ?_
  refine qv m_as ?_
  show AWp cx _ _ _
  refine awp_seq ?_
  refine awp_seq ?_
  refine rg ?_
  refine qv m_mv ?_
  refine qv (m_lenR il23) ?_
  refine qv m_mv ?_
  show AWp cx _ _ _
  refine awp_block ?_
  have hz0 := ngQ_zero v hi0
  refine awp_loop (ι := Nat) (fun q => ⟨lk [(1, .pt 1 0 0), (3, .nils), (4, .dv (i64 ((0 : Nat) : Int))), (5, .sl 5 0 0 2), (9, .dv (i64 ((2 : Nat) : Int))), (10, .dv (i64 ((0 : Nat) : Int))), (20, .dv (i64 (((lrow h 0).length : Nat)))), (21, .dv (i64 (q : Nat)))], mkM [(1, 0, some ⟨[.dv (.list ((h.links).map ints)), .dv (ints (h.ground))], 0, 25, 0, false⟩), (5, 0, some (rowI (ngQ h 0 q)))]⟩) (fun q => q ≤ 2) (fun q => 2 - q) 0 (by simp) (tl [(1, 1), (5, 18)] (hF := by simp [FLe, svLe, lk, mkM, isLive, tauL, hz0, ngQ_len, hN]) (hM := by simp [MLe, blkLe, svLe, svLes, lk, mkM, isLive, tauL, svLes_ints, svLes_self, isDvs, isDvs_map, isDvs_app, isDvs_take, isDvs_set, isDvs_repl, hz0, ngQ_len, hN])) ?_
  intro q hφ1
  refine awp_seq ?_
  refine rg ?_
  refine qv m_lss ?_
  show AWp cx _ _ _
  refine awp_seq ?_
  refine cd (fun hc1 => ?_) (fun hc1 => ?_)
  · try simp at hc1
    refine awp_skip ?_
    show AWp cx _ _ _
    refine awp_seq ?_
    refine awp_block ?_
    refine awp_seq ?_
    have hnl := ngQ_len (h := h) (i := 0) (q := q)
    have hq : q < 2 := by omega
    have hgq := ata_get (a := ngQ h 0 q) (i := q) (by rw [ngQ_len]; omega)
    have hsc := ngQ_succ (h := h) (i := 0) (q := q) (by omega)
    have hat := ngQ_at (h := h) (i := 0) (q := q) (j := q) (by omega)
    rw [if_neg (Nat.lt_irrefl q)] at hat
    have hlb := v.lb 0 q hi0 (by omega)
    refine rg ?_
    refine qv m_mv ?_
    refine qv m_as ?_
    show AWp cx _ _ _
    refine rg ?_
    refine qv m_mv ?_
    refine qv m_mv ?_
    refine qv m_mv ?_
    refine qv m_mv ?_
    refine qv (m_ixR el23 sz3) ?_
    refine qv (m_ldI sz3 ag3 (hq := hgq)) ?_
    refine qv m_neg ?_
    refine qv (m_ixR el23 sz3) ?_
    first | refine qs (m_stI sz3) ?_ | refine qs (m_st sz3) ?_
    show AWp cx _ _ _
    refine rg ?_
    refine qv m_add ?_
    refine qv m_mv ?_
    exact ⟨q + 1, hq, (by simp only; omega), (tl [(1, 1), (5, 5)] (hF := by simp [FLe, svLe, lk, mkM, isLive, tauL, hsc, ngQ_len, hN]) (hM := by simp [MLe, blkLe, svLe, svLes, lk, mkM, isLive, tauL, svLes_ints, svLes_self, isDvs, isDvs_map, isDvs_app, isDvs_take, isDvs_set, isDvs_repl, hsc, ngQ_len, hN]))⟩
  · try simp at hc1
    obtain rfl : q = 2 := by omega
    have hnl := ngQ_len (h := h) (i := 0) (q := 2)
    have hfu0 := ngQ_full hi0
    rw [hN] at hfu0
    refine awp_exit ?_
    show AWp cx _ _ _
    refine awp_seq ?_
    refine rg ?_
    refine qv m_mv ?_
    refine qv m_mv ?_
    refine qv (m_ldpa sz25 ag25) ?_
    refine qv m_mv ?_
    refine qqF (f60 h v 0 hi0) ?_
    refine qv (m_ixR el23 sz3) ?_
    first | refine qs (m_stI sz3) ?_ | refine qs (m_st sz3) ?_
    show AWp cx _ _ _
    refine rg ?_
    refine qv m_mv ?_
    refine qv m_mv ?_
    refine qr (m_bsl el22 ze23 sz23) ?_
    refine qa0 (m_app0 el22 el22 ze23 sz23 by23) ?_
    refine qv m_as ?_
    show AWp cx _ _ _
    refine rg ?_
    refine qv m_add ?_
    refine qv m_mv ?_
    show ALoop cx _ _ _
    refine ul_un (S0 := ⟨lk [(1, .pt 1 0 0), (3, .sl 3 0 0 1), (9, .dv (i64 ((2 : Nat) : Int))), (10, .dv (i64 ((1 : Nat) : Int)))], mkM [(1, 0, some ⟨[.dv (.list (h.links.map ints)), .dv (ints h.ground)], 0, 25, 0, false⟩), (3, 0, some ⟨[.sl 100001 0 0 2], 1, 23, 0, true⟩), (100001, 0, some (rowI (mrow h 0)))]⟩) (tl [(1, 1), (3, 42), (100001, 5)] (hF := by simp [FLe, svLe, lk, mkM, isLive, tauL, hN, mrow_len, ngQ_len, hfu0]) (hM := by simp [MLe, blkLe, svLe, svLes, lk, mkM, isLive, tauL, svLes_ints, svLes_self, isDvs, isDvs_map, isDvs_app, isDvs_take, isDvs_set, isDvs_repl, hN, mrow_len, ngQ_len, hfu0])) ?_
    refine awp_seq ?_
    refine rg ?_
    refine qv m_lss ?_
    show AWp cx _ _ _
    refine awp_seq ?_
    refine cdT (hb := (by decide)) (ht := ?_)
    refine awp_skip ?_
    show AWp cx _ _ _
    refine awp_seq ?_
    refine awp_block ?_
    refine awp_seq ?_
    refine rg ?_
    refine qv m_mv ?_
    refine qv m_as ?_
    show AWp cx _ _ _
    refine awp_seq ?_
    refine rg ?_
    refine qv (m_fdp fd25_0) ?_
    refine qv (m_ldp sz22 ag22) ?_
    refine qv m_mv ?_
    first | refine qv (m_ixN el22 sz23) ?_ | refine qv (m_ix el22 sz23) ?_
    refine qv (m_ld sz23 ag23) ?_
    refine qqF (f80 (lrow h 1) (by omega)) ?_
    refine qv m_as ?_
    show AWp cx _ _ _
    refine awp_seq ?_
    refine awp_seq ?_
    refine rg ?_
    refine qv m_mv ?_
    refine qv (m_lenR il23) ?_
    refine qv m_mv ?_
    show AWp cx _ _ _
    refine awp_block ?_
    have hz1 := ngQ_zero v hi1
    refine awp_loop (ι := Nat) (fun q => ⟨lk [(1, .pt 1 0 0), (3, .sl 3 0 0 1), (4, .dv (i64 ((1 : Nat) : Int))), (5, .sl 5 0 0 2), (9, .dv (i64 ((2 : Nat) : Int))), (10, .dv (i64 ((1 : Nat) : Int))), (20, .dv (i64 (((lrow h 1).length : Nat)))), (21, .dv (i64 (q : Nat)))], mkM [(1, 0, some ⟨[.dv (.list ((h.links).map ints)), .dv (ints (h.ground))], 0, 25, 0, false⟩), (3, 0, some ⟨[.sl 100001 0 0 2], 1, 23, 0, true⟩), (5, 0, some (rowI (ngQ h 1 q))), (100001, 0, some (rowI (mrow h 0)))]⟩) (fun q => q ≤ 2) (fun q => 2 - q) 0 (by simp) (tl [(1, 1), (3, 3), (5, 18), (100001, 100001)] (hF := by simp [FLe, svLe, lk, mkM, isLive, tauL, hz1, ngQ_len, hN]) (hM := by simp [MLe, blkLe, svLe, svLes, lk, mkM, isLive, tauL, svLes_ints, svLes_self, isDvs, isDvs_map, isDvs_app, isDvs_take, isDvs_set, isDvs_repl, hz1, ngQ_len, hN])) ?_
    intro q hφ1
    refine awp_seq ?_
    refine rg ?_
    refine qv m_lss ?_
    show AWp cx _ _ _
    refine awp_seq ?_
    refine cd (fun hc1 => ?_) (fun hc1 => ?_)
    · try simp at hc1
      refine awp_skip ?_
      show AWp cx _ _ _
      refine awp_seq ?_
      refine awp_block ?_
      refine awp_seq ?_
      have hnl := ngQ_len (h := h) (i := 1) (q := q)
      have hq : q < 2 := by omega
      have hgq := ata_get (a := ngQ h 1 q) (i := q) (by rw [ngQ_len]; omega)
      have hsc := ngQ_succ (h := h) (i := 1) (q := q) (by omega)
      have hat := ngQ_at (h := h) (i := 1) (q := q) (j := q) (by omega)
      rw [if_neg (Nat.lt_irrefl q)] at hat
      have hlb := v.lb 1 q hi1 (by omega)
      refine rg ?_
      refine qv m_mv ?_
      refine qv m_as ?_
      show AWp cx _ _ _
      refine rg ?_
      refine qv m_mv ?_
      refine qv m_mv ?_
      refine qv m_mv ?_
      refine qv m_mv ?_
      refine qv (m_ixR el23 sz3) ?_
      refine qv (m_ldI sz3 ag3 (hq := hgq)) ?_
      refine qv m_neg ?_
      refine qv (m_ixR el23 sz3) ?_
      first | refine qs (m_stI sz3) ?_ | refine qs (m_st sz3) ?_
      show AWp cx _ _ _
      refine rg ?_
      refine qv m_add ?_
      refine qv m_mv ?_
      exact ⟨q + 1, hq, (by simp only; omega), (tl [(1, 1), (3, 3), (5, 5), (100001, 100001)] (hF := by simp [FLe, svLe, lk, mkM, isLive, tauL, hsc, ngQ_len, hN]) (hM := by simp [MLe, blkLe, svLe, svLes, lk, mkM, isLive, tauL, svLes_ints, svLes_self, isDvs, isDvs_map, isDvs_app, isDvs_take, isDvs_set, isDvs_repl, hsc, ngQ_len, hN]))⟩
    · try simp at hc1
      obtain rfl : q = 2 := by omega
      have hnl := ngQ_len (h := h) (i := 1) (q := 2)
      have hfu1 := ngQ_full hi1
      rw [hN] at hfu1
      refine awp_exit ?_
      show AWp cx _ _ _
      refine awp_seq ?_
      refine rg ?_
      refine qv m_mv ?_
      refine qv m_mv ?_
      refine qv (m_ldpa sz25 ag25) ?_
      refine qv m_mv ?_
      refine qqF (f60 h v 1 hi1) ?_
      refine qv (m_ixR el23 sz3) ?_
      first | refine qs (m_stI sz3) ?_ | refine qs (m_st sz3) ?_
      show AWp cx _ _ _
      refine rg ?_
      refine qv m_mv ?_
      refine qv m_mv ?_
      refine qr (m_bsl el22 ze23 sz23) ?_
      refine qa1 (m_app1 el22 el22 ze23 sz23 by23) ?_
      refine qv m_as ?_
      show AWp cx _ _ _
      refine rg ?_
      refine qv m_add ?_
      refine qv m_mv ?_
      show ALoop cx _ _ _
      refine ul_un (S0 := ⟨lk [(1, .pt 1 0 0), (3, .sl 3 0 0 2), (9, .dv (i64 ((2 : Nat) : Int))), (10, .dv (i64 ((2 : Nat) : Int)))], mkM [(1, 0, some ⟨[.dv (.list (h.links.map ints)), .dv (ints h.ground)], 0, 25, 0, false⟩), (3, 0, some ⟨[.sl 100001 0 0 2, .sl 100002 0 0 2], 1, 23, 0, true⟩), (100001, 0, some (rowI (mrow h 0))), (100002, 0, some (rowI (mrow h 1)))]⟩) (tl [(1, 1), (3, 42), (100001, 100001), (100002, 5)] (hF := by simp [FLe, svLe, lk, mkM, isLive, tauL, hN, mrow_len, ngQ_len, hfu1]) (hM := by simp [MLe, blkLe, svLe, svLes, lk, mkM, isLive, tauL, svLes_ints, svLes_self, isDvs, isDvs_map, isDvs_app, isDvs_take, isDvs_set, isDvs_repl, hN, mrow_len, ngQ_len, hfu1])) ?_
      refine awp_seq ?_
      refine rg ?_
      refine qv m_lss ?_
      show AWp cx _ _ _
      refine awp_seq ?_
      refine cdF (hb := (by decide)) (ht := ?_)
      refine awp_exit ?_
      show AWp cx _ _ _
      refine awp_seq ?_
      refine rg ?_
      refine qv m_mv ?_
      refine qv m_as ?_
      show AWp cx _ _ _
      refine awp_ret ?_
      exact xg [(100000, 3), (100001, 100001), (100002, 100002)]
set_option maxHeartbeats 8000000 in
theorem f70_2 (M : Mat) (hK : KM 2 M) (hB : ∀ i j, i < 2 → j < 2 → -12 ≤ M i j ∧ M i j ≤ 12) : ACallsG Try.prog 70 [.sl 100000 0 0 2] (mkB [(100000, ⟨[.sl 100001 0 0 2, .sl 100002 0 0 2], 1, 23, 100003, true⟩), (100001, lentI 1 (bRow M 2 0 0 0)), (100002, lentI 2 (bRow M 2 0 1 0))]) ⟨[.dv (i64 (befD M 2))], mkB []⟩ := by
  refine callsG_of Try.func70 rfl rfl (by rw [Try.ntmps70]; simp) fun cx hP hn hg => ?_
  rw [Try.ntmps70] at hn
  refine startG ?_
  refine awp_seq ?_
  refine rg ?_
  refine qv m_as ?_
  show AWp cx _ _ _
  refine awp_seq ?_
  refine rg ?_
  refine qv m_as ?_
  show AWp cx _ _ _
  refine awp_seq ?_
  refine awp_seq ?_
  refine rg ?_
  refine qv m_mv ?_
  refine qv (m_lenR il22) ?_
  refine qv m_mv ?_
  show AWp cx _ _ _
  refine awp_block ?_
  refine awp_ul ?_
  refine ul_un (S0 := ⟨lk [(0, .sl 100000 0 0 2), (3, .dv (i64 (befD M 0))), (8, .dv (i64 ((2 : Nat) : Int))), (9, .dv (i64 ((0 : Nat) : Int)))], mkM [(100000, 0, some ⟨[.sl 100001 0 0 2, .sl 100002 0 0 2], 1, 23, 100003, true⟩), (100001, 0, some (lentI 1 (bRow M 2 0 0 0))), (100002, 0, some (lentI 2 (bRow M 2 0 1 0)))]⟩) (tl [(100000, 100000), (100001, 100001), (100002, 100002)] (hF := by simp [FLe, svLe, lk, mkM, isLive, tauL, befD, det]) (hM := by simp [MLe, blkLe, svLe, svLes, lk, mkM, isLive, tauL, svLes_ints, svLes_self, isDvs, isDvs_map, isDvs_app, isDvs_take, isDvs_set, isDvs_repl, befD, det])) ?_
  refine awp_seq ?_
  refine rg ?_
  refine qv m_lss ?_
  show AWp cx _ _ _
  refine awp_seq ?_
  refine cdT (hb := (by decide)) (ht := ?_)
  refine awp_skip ?_
  show AWp cx _ _ _
  refine awp_seq ?_
  refine awp_block ?_
  refine awp_seq ?_
  refine rg ?_
  refine qv m_mv ?_
  refine qv m_as ?_
  show AWp cx _ _ _
  refine awp_seq ?_
  refine awp_seq ?_
  refine rg ?_
  refine qv m_mv ?_
  refine qv m_add ?_
  refine qv m_as ?_
  show AWp cx _ _ _
  refine awp_block ?_
  refine awp_ul ?_
  refine ul_un (S0 := ⟨lk [(0, .sl 100000 0 0 2), (3, .dv (i64 (befD M 0))), (4, .dv (i64 ((0 : Nat) : Int))), (5, .dv (i64 ((1 : Nat) : Int))), (8, .dv (i64 ((2 : Nat) : Int))), (9, .dv (i64 ((0 : Nat) : Int)))], mkM [(100000, 0, some ⟨[.sl 100001 0 0 2, .sl 100002 0 0 2], 1, 23, 100003, true⟩), (100001, 0, some (lentI 1 (bRow M 2 0 0 0))), (100002, 0, some (lentI 2 (bRow M 2 0 1 0)))]⟩) (tl [(100000, 100000), (100001, 100001), (100002, 100002)]) ?_
  refine awp_seq ?_
  refine awp_seq ?_
  refine rg ?_
  refine qv m_mv ?_
  refine qv m_mv ?_
  refine qv (m_lenR il22) ?_
  refine qv m_lss ?_
  show AWp cx _ _ _
  refine cdT (hb := (by decide)) (ht := ?_)
  refine awp_skip ?_
  show AWp cx _ _ _
  refine awp_seq ?_
  refine awp_block ?_
  refine awp_seq ?_
  refine rg ?_
  refine qv m_mv ?_
  refine qv m_add ?_
  refine qv m_as ?_
  show AWp cx _ _ _
  refine awp_block ?_
  have hz0_1 : bRow M 2 0 1 0 = bRow M 2 0 1 1 := bRow_start
  refine awp_loop (ι := Nat) (fun q => ⟨lk [(0, .sl 100000 0 0 2), (3, .dv (i64 (befD M 0))), (4, .dv (i64 ((0 : Nat) : Int))), (5, .dv (i64 ((1 : Nat) : Int))), (6, .dv (i64 (q : Nat))), (8, .dv (i64 ((2 : Nat) : Int))), (9, .dv (i64 ((0 : Nat) : Int)))], mkM [(100000, 0, some ⟨[.sl 100001 0 0 2, .sl 100002 0 0 2], 1, 23, 100003, true⟩), (100001, 0, some (lentI 1 (bRow M 2 0 0 0))), (100002, 0, some (lentI 2 (bRow M 2 0 1 q)))]⟩) (fun q => 1 ≤ q ∧ q ≤ 2) (fun q => 2 - q) 1 (by omega) (tl [(100000, 100000), (100001, 100001), (100002, 100002)] (hF := by simp [FLe, svLe, lk, mkM, isLive, tauL, hz0_1]) (hM := by simp [MLe, blkLe, svLe, svLes, lk, mkM, isLive, tauL, svLes_ints, svLes_self, isDvs, isDvs_map, isDvs_app, isDvs_take, isDvs_set, isDvs_repl, hz0_1])) ?_
  intro q hφ2
  refine awp_seq ?_
  refine awp_seq ?_
  refine rg ?_
  refine qv m_mv ?_
  refine qv m_mv ?_
  refine qv (m_lenR il22) ?_
  refine qv m_lss ?_
  show AWp cx _ _ _
  refine cd (fun hc2 => ?_) (fun hc2 => ?_)
  · try simp at hc2
    refine awp_skip ?_
    show AWp cx _ _ _
    refine awp_seq ?_
    refine awp_block ?_
    have hq : q < 2 := by omega
    have hl1 := bRow_len (M := M) (n := 2) (i := 0) (k := 1) (q := q)
    have hg1 := ata_get (a := bRow M 2 0 1 q) (i := q) (by rw [bRow_len]; omega)
    have hb1 := bRow_bd (n := 2) (M := M) (by omega) hB (i := 0) (k := 1) (q := q) (c := q) (by omega) (by omega)
    have hl2 := bRow_len (M := M) (n := 2) (i := 0) (k := 0) (q := 0)
    have hg2 := ata_get (a := bRow M 2 0 0 0) (i := 0) (by rw [bRow_len]; omega)
    have hb2 := bRow_bd (n := 2) (M := M) (by omega) hB (i := 0) (k := 0) (q := 0) (c := 0) (by omega) (by omega)
    have hl3 := bRow_len (M := M) (n := 2) (i := 0) (k := 1) (q := q)
    have hg3 := ata_get (a := bRow M 2 0 1 q) (i := 0) (by rw [bRow_len]; omega)
    have hb3 := bRow_bd (n := 2) (M := M) (by omega) hB (i := 0) (k := 1) (q := q) (c := 0) (by omega) (by omega)
    have hl4 := bRow_len (M := M) (n := 2) (i := 0) (k := 0) (q := 0)
    have hg4 := ata_get (a := bRow M 2 0 0 0) (i := q) (by rw [bRow_len]; omega)
    have hb4 := bRow_bd (n := 2) (M := M) (by omega) hB (i := 0) (k := 0) (q := 0) (c := q) (by omega) (by omega)
    have hp1 := bRow_prod (n := 2) (M := M) (by omega) hB (i := 0) (k := 1) (q := q) (c := q) (i' := 0) (k' := 0) (q' := 0) (c' := 0) (by omega) (by omega) (by omega) (by omega)
    have hp2 := bRow_prod (n := 2) (M := M) (by omega) hB (i := 0) (k := 1) (q := q) (c := 0) (i' := 0) (k' := 0) (q' := 0) (c' := q) (by omega) (by omega) (by omega) (by omega)
    have hbp : 0 < befD M 0 := hK.det_pos 0 (by omega)
    have hqb := bm_bd (n := 2) (M := M) (by omega) hB (i := 0 + 1) (k := 1) (c := q) (by omega) (by omega) (by omega)
    rw [← bRow_quo hK (i := 0) (k := 1) (q := q) (by omega) (by omega) (by omega) (by omega)] at hqb
    have hsc := bRow_step hK (i := 0) (k := 1) (q := q) (by omega) (by omega) (by omega) (by omega)
    refine rd mixed ?_
    refine zv m_mv ?_
    refine zv m_mv ?_
    refine zv (m_ixR el22 sz23) ?_
    first | refine zv (m_ldI sz23 ag23) ?_ | refine zv (m_ldp sz23 ag23) ?_
    refine zv m_mv ?_
    refine zv m_mv ?_
    refine zv m_mv ?_
    refine zv (m_ixR el22 sz23) ?_
    first | refine zv (m_ldI sz23 ag23) ?_ | refine zv (m_ldp sz23 ag23) ?_
    refine zv m_mv ?_
    first | refine zv (m_ixN el23 sz3) ?_ | refine zv (m_ix el23 sz3) ?_ | refine zv (m_ixR el23 sz3) ?_
    refine zv (m_ldI sz3 ag3 (hq := hg1)) ?_
    refine zv m_mv ?_
    refine zv m_mv ?_
    refine zv (m_ixR el22 sz23) ?_
    first | refine zv (m_ldI sz23 ag23) ?_ | refine zv (m_ldp sz23 ag23) ?_
    refine zv m_mv ?_
    first | refine zv (m_ixN el23 sz3) ?_ | refine zv (m_ix el23 sz3) ?_ | refine zv (m_ixR el23 sz3) ?_
    refine zv (m_ldI sz3 ag3 (hq := hg2)) ?_
    refine zv m_mul ?_
    refine zv m_mv ?_
    refine zv m_mv ?_
    refine zv (m_ixR el22 sz23) ?_
    first | refine zv (m_ldI sz23 ag23) ?_ | refine zv (m_ldp sz23 ag23) ?_
    refine zv m_mv ?_
    first | refine zv (m_ixN el23 sz3) ?_ | refine zv (m_ix el23 sz3) ?_ | refine zv (m_ixR el23 sz3) ?_
    refine zv (m_ldI sz3 ag3 (hq := hg3)) ?_
    refine zv m_mv ?_
    refine zv m_mv ?_
    refine zv (m_ixR el22 sz23) ?_
    first | refine zv (m_ldI sz23 ag23) ?_ | refine zv (m_ldp sz23 ag23) ?_
    refine zv m_mv ?_
    first | refine zv (m_ixN el23 sz3) ?_ | refine zv (m_ix el23 sz3) ?_ | refine zv (m_ixR el23 sz3) ?_
    refine zv (m_ldI sz3 ag3 (hq := hg4)) ?_
    refine zv m_mul ?_
    refine zv m_sub ?_
    refine zv m_mv ?_
    refine zv m_quo ?_
    first | refine zv (m_ixN el23 sz3) ?_ | refine zv (m_ix el23 sz3) ?_ | refine zv (m_ixR el23 sz3) ?_
    refine zs (m_stI sz3) ?_
    refine ⟨by kernel_rfl, ?_⟩
    show AWp cx _ _ _
    refine rg ?_
    refine qv m_mv ?_
    refine qv m_add ?_
    refine qv m_as ?_
    exact ⟨q + 1, (by omega), (by simp only; omega), (tl [(100000, 100000), (100001, 100001), (100002, 100002)] (hF := by simp [FLe, svLe, lk, mkM, isLive, tauL, hsc]) (hM := by simp [MLe, blkLe, svLe, svLes, lk, mkM, isLive, tauL, svLes_ints, svLes_self, isDvs, isDvs_map, isDvs_app, isDvs_take, isDvs_set, isDvs_repl, hsc]))⟩
  · try simp at hc2
    obtain rfl : q = 2 := by omega
    have hnx0_1 : bRow M 2 0 1 2 = bRow M 2 1 1 0 := bRow_next
    refine awp_exit ?_
    show AWp cx _ _ _
    refine rg ?_
    refine qv m_mv ?_
    refine qv m_add ?_
    refine qv m_as ?_
    show ALoop cx _ _ _
    refine ul_un (S0 := ⟨lk [(0, .sl 100000 0 0 2), (3, .dv (i64 (befD M 0))), (4, .dv (i64 ((0 : Nat) : Int))), (5, .dv (i64 ((2 : Nat) : Int))), (8, .dv (i64 ((2 : Nat) : Int))), (9, .dv (i64 ((0 : Nat) : Int)))], mkM [(100000, 0, some ⟨[.sl 100001 0 0 2, .sl 100002 0 0 2], 1, 23, 100003, true⟩), (100001, 0, some (lentI 1 (bRow M 2 0 0 0))), (100002, 0, some (lentI 2 (bRow M 2 1 1 0)))]⟩) (tl [(100000, 100000), (100001, 100001), (100002, 100002)] (hF := by simp [FLe, svLe, lk, mkM, isLive, tauL, hnx0_1]) (hM := by simp [MLe, blkLe, svLe, svLes, lk, mkM, isLive, tauL, svLes_ints, svLes_self, isDvs, isDvs_map, isDvs_app, isDvs_take, isDvs_set, isDvs_repl, hnx0_1])) ?_
    refine awp_seq ?_
    refine awp_seq ?_
    refine rg ?_
    refine qv m_mv ?_
    refine qv m_mv ?_
    refine qv (m_lenR il22) ?_
    refine qv m_lss ?_
    show AWp cx _ _ _
    refine cdF (hb := (by decide)) (ht := ?_)
    refine awp_exit ?_
    show AWp cx _ _ _
    have hl9 := bRow_len (M := M) (n := 2) (i := 0) (k := 0) (q := 0)
    have hg9 := ata_get (a := bRow M 2 0 0 0) (i := 0) (by rw [bRow_len]; omega)
    have hdg0 := bRow_diag (M := M) (n := 2) (i := 0) (by omega)
    refine rg ?_
    refine qv m_mv ?_
    refine qv m_mv ?_
    refine qv (m_ixR el22 sz23) ?_
    first | refine qv (m_ldI sz23 ag23) ?_ | refine qv (m_ldp sz23 ag23) ?_
    refine qv m_mv ?_
    first | refine qv (m_ixN el23 sz3) ?_ | refine qv (m_ix el23 sz3) ?_ | refine qv (m_ixR el23 sz3) ?_
    refine qv (m_ldI sz3 ag3 (hq := hg9)) ?_
    refine qv m_as ?_
    show AWp cx _ _ _
    refine rg ?_
    refine qv m_add ?_
    refine qv m_mv ?_
    show ALoop cx _ _ _
    refine ul_un (S0 := ⟨lk [(0, .sl 100000 0 0 2), (3, .dv (i64 (befD M 1))), (8, .dv (i64 ((2 : Nat) : Int))), (9, .dv (i64 ((1 : Nat) : Int)))], mkM [(100000, 0, some ⟨[.sl 100001 0 0 2, .sl 100002 0 0 2], 1, 23, 100003, true⟩), (100001, 0, some (lentI 1 (bRow M 2 0 0 0))), (100002, 0, some (lentI 2 (bRow M 2 1 1 0)))]⟩) (tl [(100000, 100000), (100001, 100001), (100002, 100002)] (hF := by simp [FLe, svLe, lk, mkM, isLive, tauL, hdg0]) (hM := by simp [MLe, blkLe, svLe, svLes, lk, mkM, isLive, tauL, svLes_ints, svLes_self, isDvs, isDvs_map, isDvs_app, isDvs_take, isDvs_set, isDvs_repl, hdg0])) ?_
    refine awp_seq ?_
    refine rg ?_
    refine qv m_lss ?_
    show AWp cx _ _ _
    refine awp_seq ?_
    refine cdT (hb := (by decide)) (ht := ?_)
    refine awp_skip ?_
    show AWp cx _ _ _
    refine awp_seq ?_
    refine awp_block ?_
    refine awp_seq ?_
    refine rg ?_
    refine qv m_mv ?_
    refine qv m_as ?_
    show AWp cx _ _ _
    refine awp_seq ?_
    refine awp_seq ?_
    refine rg ?_
    refine qv m_mv ?_
    refine qv m_add ?_
    refine qv m_as ?_
    show AWp cx _ _ _
    refine awp_block ?_
    refine awp_ul ?_
    refine ul_un (S0 := ⟨lk [(0, .sl 100000 0 0 2), (3, .dv (i64 (befD M 1))), (4, .dv (i64 ((1 : Nat) : Int))), (5, .dv (i64 ((2 : Nat) : Int))), (8, .dv (i64 ((2 : Nat) : Int))), (9, .dv (i64 ((1 : Nat) : Int)))], mkM [(100000, 0, some ⟨[.sl 100001 0 0 2, .sl 100002 0 0 2], 1, 23, 100003, true⟩), (100001, 0, some (lentI 1 (bRow M 2 0 0 0))), (100002, 0, some (lentI 2 (bRow M 2 1 1 0)))]⟩) (tl [(100000, 100000), (100001, 100001), (100002, 100002)]) ?_
    refine awp_seq ?_
    refine awp_seq ?_
    refine rg ?_
    refine qv m_mv ?_
    refine qv m_mv ?_
    refine qv (m_lenR il22) ?_
    refine qv m_lss ?_
    show AWp cx _ _ _
    refine cdF (hb := (by decide)) (ht := ?_)
    refine awp_exit ?_
    show AWp cx _ _ _
    have hl9 := bRow_len (M := M) (n := 2) (i := 1) (k := 1) (q := 0)
    have hg9 := ata_get (a := bRow M 2 1 1 0) (i := 1) (by rw [bRow_len]; omega)
    have hdg1 := bRow_diag (M := M) (n := 2) (i := 1) (by omega)
    refine rg ?_
    refine qv m_mv ?_
    refine qv m_mv ?_
    refine qv (m_ixR el22 sz23) ?_
    first | refine qv (m_ldI sz23 ag23) ?_ | refine qv (m_ldp sz23 ag23) ?_
    refine qv m_mv ?_
    first | refine qv (m_ixN el23 sz3) ?_ | refine qv (m_ix el23 sz3) ?_ | refine qv (m_ixR el23 sz3) ?_
    refine qv (m_ldI sz3 ag3 (hq := hg9)) ?_
    refine qv m_as ?_
    show AWp cx _ _ _
    refine rg ?_
    refine qv m_add ?_
    refine qv m_mv ?_
    show ALoop cx _ _ _
    refine ul_un (S0 := ⟨lk [(0, .sl 100000 0 0 2), (3, .dv (i64 (befD M 2))), (8, .dv (i64 ((2 : Nat) : Int))), (9, .dv (i64 ((2 : Nat) : Int)))], mkM [(100000, 0, some ⟨[.sl 100001 0 0 2, .sl 100002 0 0 2], 1, 23, 100003, true⟩), (100001, 0, some (lentI 1 (bRow M 2 0 0 0))), (100002, 0, some (lentI 2 (bRow M 2 1 1 0)))]⟩) (tl [(100000, 100000), (100001, 100001), (100002, 100002)] (hF := by simp [FLe, svLe, lk, mkM, isLive, tauL, hdg1]) (hM := by simp [MLe, blkLe, svLe, svLes, lk, mkM, isLive, tauL, svLes_ints, svLes_self, isDvs, isDvs_map, isDvs_app, isDvs_take, isDvs_set, isDvs_repl, hdg1])) ?_
    refine awp_seq ?_
    refine rg ?_
    refine qv m_lss ?_
    show AWp cx _ _ _
    refine awp_seq ?_
    refine cdF (hb := (by decide)) (ht := ?_)
    refine awp_exit ?_
    show AWp cx _ _ _
    refine awp_seq ?_
    refine rg ?_
    refine qv m_mv ?_
    refine qv m_as ?_
    show AWp cx _ _ _
    refine awp_ret ?_
    exact xg []
theorem f70h_2 (h : Hp) (v : VH h) (hN : h.ground.length = 2) : ACallsG Try.prog 70 [.sl 100000 0 0 2] (mkB [(100000, ⟨[.sl 100001 0 0 2, .sl 100002 0 0 2], 1, 23, 100003, true⟩), (100001, lentI 1 (mrow h 0)), (100002, lentI 2 (mrow h 1))]) ⟨[.dv (i64 (cntD h))], mkB []⟩ := by
  have hk := hM_km v
  rw [hN] at hk
  have e := f70_2 (hM h) hk (fun i j hi hj => hM_bd v (by omega) (by omega))
  have r0 : bRow (hM h) 2 0 0 0 = mrow h 0 := (bRow_zero (by rw [mrow_len, hN]) (fun c hc => mrow_at (by omega))).symm
  have r1 : bRow (hM h) 2 0 1 0 = mrow h 1 := (bRow_zero (by rw [mrow_len, hN]) (fun c hc => mrow_at (by omega))).symm
  have hb : befD (hM h) 2 = cntD h := by unfold befD cntD; rw [hN]
  rw [hb, r0, r1] at e
  exact e
theorem f97c_2 (h : Hp) (v : VH h) (hN : h.ground.length = 2) (a b : List Int) (hab : ∀ i, i < h.ground.length → (0 ≤ ata a i ∧ ata a i ≤ 30) ∧ 0 ≤ ata b i ∧ ata b i ≤ 30) (c : Nat) (hc : c < h.ground.length) : ACallsF Try.prog 97 [.list [ints (crow h a b c 0), ints (crow h a b c 1)]] (.one (.dv (i64 (scrD h a b c)))) := by
  have e := f97 h.ground.length v.n5 (cmat h a b c) (cmat_sq v hc hab)
  rw [cmat_det hc] at e
  have e2 : (cmat h a b c).map ints = [ints (crow h a b c 0), ints (crow h a b c 1)] := by unfold cmat; rw [hN]; rfl
  rw [e2] at e
  exact e
set_option maxHeartbeats 8000000 in
theorem f84_2 (h : Hp) (v : VH h) (hN : h.ground.length = 2) (a b : List Int) (ha : a.length = h.ground.length) (hb : b.length = h.ground.length) (hab : ∀ i, i < h.ground.length → (0 ≤ ata a i ∧ ata a i ≤ 30) ∧ 0 ≤ ata b i ∧ ata b i ≤ 30) : ACallsF Try.prog 84 [dHp h, ints a, ints b] (.many [rI (scrR h a b).1, .dv (.bool (scrR h a b).2)]) := by
  have hcb := cntD_bd v
  have hcp := cntD_pos v
  refine callsF_of Try.func84 rfl rfl (by rw [Try.ntmps84]; simp) fun cx hP hn hg => ?_
  rw [Try.ntmps84] at hn
  rw [startF_lk, none_mkM]
  simp only [List.nil_append, List.append_nil, List.cons_append, zipSV, Nat.reduceAdd]
  refine awp_seq ?_
  refine rg ?_
  refine qp m_box ?_
  refine qv m_as ?_
  refine qv m_as ?_
  show AWp cx _ _ _
  refine awp_seq ?_
  refine rg ?_
  refine qv (m_ldpa sz25 ag25) ?_
  refine qqG (f71_2 h v hN) [] [] [160000, 160001, 160002] ?_
  refine qv m_as ?_
  show AWp cx _ _ _
  refine awp_seq ?_
  refine rg ?_
  refine qv (m_ldpa sz25 ag25) ?_
  refine qqG (f71_2 h v hN) [] [] [180000, 180001, 180002] ?_
  refine qqG (f70h_2 h v hN) [] [(100000, 180000), (100001, 180001), (100002, 180002)] [] ?_
  refine qv m_as ?_
  show AWp cx _ _ _
  refine awp_seq ?_
  refine rg ?_
  refine qv m_as ?_
  show AWp cx _ _ _
  refine awp_seq ?_
  refine awp_seq ?_
  refine rg ?_
  refine qv m_mv ?_
  refine qv (m_lenR il22) ?_
  refine qv m_mv ?_
  show AWp cx _ _ _
  refine awp_block ?_
  refine awp_loop (ι := Nat) (fun i => ⟨lk [(1, .dv (ints (a))), (2, .dv (ints (b))), (3, .pt 3 0 0), (9, .dv (i64 (cntD h))), (10, .sl 10 0 0 i), (21, .dv (i64 ((2 : Nat) : Int))), (22, .dv (i64 (i : Nat)))], mkM [(3, 0, some ⟨[.dv (.list ((h.links).map ints)), .dv (ints (h.ground))], 0, 25, 0, false⟩), (10, 0, some (rowI (scrQ h a b i)))]⟩) (fun i => i ≤ 2 ∧ ∀ c, c < i → (scrD h a b c).tmod (cntD h) = 0) (fun i => 2 - i) 0 ⟨by omega, fun c hc => by omega⟩ (tl [(3, 3)] (hF := by simp [FLe, svLe, lk, mkM, isLive, tauL, scrQ, hN]) (hM := by simp [MLe, blkLe, svLe, svLes, lk, mkM, isLive, tauL, svLes_ints, svLes_self, isDvs, isDvs_map, isDvs_app, isDvs_take, isDvs_set, isDvs_repl, scrQ, hN])) ?_
  intro i hφ0
  refine awp_seq ?_
  refine rg ?_
  refine qv m_lss ?_
  show AWp cx _ _ _
  refine awp_seq ?_
  refine cd (fun hc0 => ?_) (fun hc0 => ?_)
  · try simp at hc0
    refine awp_skip ?_
    show AWp cx _ _ _
    refine awp_seq ?_
    refine awp_block ?_
    refine awp_seq ?_
    have hi : i < 2 := by omega
    have hql := scrQ_len (h := h) (a := a) (b := b) (q := i)
    refine rg ?_
    refine qv m_mv ?_
    refine qv m_as ?_
    show AWp cx _ _ _
    refine awp_seq ?_
    refine rg ?_
    refine qv (m_ldpa sz25 ag25) ?_
    refine qqG (f71_2 h v hN) [] [] [260000, 260001, 260002] ?_
    refine qv m_as ?_
    show AWp cx _ _ _
    refine awp_seq ?_
    refine awp_seq ?_
    refine rg ?_
    refine qv m_mv ?_
    refine qv (m_lenR il22) ?_
    refine qv m_mv ?_
    show AWp cx _ _ _
    refine awp_block ?_
    refine awp_ul ?_
    refine ul_un (S0 := ⟨lk [(1, .dv (ints (a))), (2, .dv (ints (b))), (3, .pt 3 0 0), (9, .dv (i64 (cntD h))), (10, .sl 10 0 0 i), (11, .dv (i64 (i : Nat))), (12, .sl 260000 0 0 2), (21, .dv (i64 ((2 : Nat) : Int))), (22, .dv (i64 (i : Nat))), (28, .dv (i64 ((2 : Nat) : Int))), (29, .dv (i64 ((0 : Nat) : Int)))], mkM [(3, 0, some ⟨[.dv (.list (h.links.map ints)), .dv (ints h.ground)], 0, 25, 0, false⟩), (10, 0, some (rowI (scrQ h a b i))), (260000, 0, some ⟨[.sl 260001 0 0 2, .sl 260002 0 0 2], 1, 23, 0, true⟩), (260001, 0, some (rowI (mrow h 0))), (260002, 0, some (rowI (mrow h 1)))]⟩) (tl [(3, 3), (10, 10), (260000, 260000), (260001, 260001), (260002, 260002)] (hF := by simp [FLe, svLe, lk, mkM, isLive, tauL, hN]) (hM := by simp [MLe, blkLe, svLe, svLes, lk, mkM, isLive, tauL, svLes_ints, svLes_self, isDvs, isDvs_map, isDvs_app, isDvs_take, isDvs_set, isDvs_repl, hN])) ?_
    refine awp_seq ?_
    refine rg ?_
    refine qv m_lss ?_
    show AWp cx _ _ _
    refine awp_seq ?_
    refine cdT (hb := (by decide)) (ht := ?_)
    refine awp_skip ?_
    show AWp cx _ _ _
    refine awp_seq ?_
    refine awp_block ?_
    refine awp_seq ?_
    refine rg ?_
    refine qv m_mv ?_
    refine qv m_as ?_
    show AWp cx _ _ _
    have hga0 := ata_get (a := a) (i := 0) (by omega)
    have hgb0 := ata_get (a := b) (i := 0) (by omega)
    have hbd0 := hab 0 (by omega)
    have hml0 := mrow_len (h := h) (i := 0)
    have hcr0 : (mrow h 0).set i (ata a 0 - ata b 0) = crow h a b i 0 := rfl
    refine rd mixed ?_
    refine zv m_mv ?_
    refine zv m_mv ?_
    refine zv (m_ixR el22 sz23) ?_
    first | refine zv (m_ldI sz23 ag23) ?_ | refine zv (m_ldp sz23 ag23) ?_
    refine zv m_mv ?_
    refine zv m_mv ?_
    refine zv m_mv ?_
    first | refine zv (m_ixN el23 sz3) ?_ | refine zv (m_ix el23 sz3) ?_
    refine zv (m_ld sz3 ag3) ?_
    refine zv m_mv ?_
    refine zv m_mv ?_
    first | refine zv (m_ixN el23 sz3) ?_ | refine zv (m_ix el23 sz3) ?_
    refine zv (m_ld sz3 ag3) ?_
    refine zv m_sub ?_
    first | refine zv (m_ixN el23 sz3) ?_ | refine zv (m_ix el23 sz3) ?_ | refine zv (m_ixR el23 sz3) ?_
    refine zs (m_stI sz3) ?_
    refine ⟨by kernel_rfl, ?_⟩
    show AWp cx _ _ _
    refine rg ?_
    refine qv m_add ?_
    refine qv m_mv ?_
    show ALoop cx _ _ _
    refine ul_un (S0 := ⟨lk [(1, .dv (ints (a))), (2, .dv (ints (b))), (3, .pt 3 0 0), (9, .dv (i64 (cntD h))), (10, .sl 10 0 0 i), (11, .dv (i64 (i : Nat))), (12, .sl 260000 0 0 2), (21, .dv (i64 ((2 : Nat) : Int))), (22, .dv (i64 (i : Nat))), (28, .dv (i64 ((2 : Nat) : Int))), (29, .dv (i64 ((1 : Nat) : Int)))], mkM [(3, 0, some ⟨[.dv (.list (h.links.map ints)), .dv (ints h.ground)], 0, 25, 0, false⟩), (10, 0, some (rowI (scrQ h a b i))), (260000, 0, some ⟨[.sl 260001 0 0 2, .sl 260002 0 0 2], 1, 23, 0, true⟩), (260001, 0, some (rowI (crow h a b i 0))), (260002, 0, some (rowI (mrow h 1)))]⟩) (tl [(3, 3), (10, 10), (260000, 260000), (260001, 260001), (260002, 260002)] (hF := by simp [FLe, svLe, lk, mkM, isLive, tauL, hcr0]) (hM := by simp [MLe, blkLe, svLe, svLes, lk, mkM, isLive, tauL, svLes_ints, svLes_self, isDvs, isDvs_map, isDvs_app, isDvs_take, isDvs_set, isDvs_repl, hcr0])) ?_
    refine awp_seq ?_
    refine rg ?_
    refine qv m_lss ?_
    show AWp cx _ _ _
    refine awp_seq ?_
    refine cdT (hb := (by decide)) (ht := ?_)
    refine awp_skip ?_
    show AWp cx _ _ _
    refine awp_seq ?_
    refine awp_block ?_
    refine awp_seq ?_
    refine rg ?_
    refine qv m_mv ?_
    refine qv m_as ?_
    show AWp cx _ _ _
    have hga1 := ata_get (a := a) (i := 1) (by omega)
    have hgb1 := ata_get (a := b) (i := 1) (by omega)
    have hbd1 := hab 1 (by omega)
    have hml1 := mrow_len (h := h) (i := 1)
    have hcr1 : (mrow h 1).set i (ata a 1 - ata b 1) = crow h a b i 1 := rfl
    refine rd mixed ?_
    refine zv m_mv ?_
    refine zv m_mv ?_
    refine zv (m_ixR el22 sz23) ?_
    first | refine zv (m_ldI sz23 ag23) ?_ | refine zv (m_ldp sz23 ag23) ?_
    refine zv m_mv ?_
    refine zv m_mv ?_
    refine zv m_mv ?_
    first | refine zv (m_ixN el23 sz3) ?_ | refine zv (m_ix el23 sz3) ?_
    refine zv (m_ld sz3 ag3) ?_
    refine zv m_mv ?_
    refine zv m_mv ?_
    first | refine zv (m_ixN el23 sz3) ?_ | refine zv (m_ix el23 sz3) ?_
    refine zv (m_ld sz3 ag3) ?_
    refine zv m_sub ?_
    first | refine zv (m_ixN el23 sz3) ?_ | refine zv (m_ix el23 sz3) ?_ | refine zv (m_ixR el23 sz3) ?_
    refine zs (m_stI sz3) ?_
    refine ⟨by kernel_rfl, ?_⟩
    show AWp cx _ _ _
    refine rg ?_
    refine qv m_add ?_
    refine qv m_mv ?_
    show ALoop cx _ _ _
    refine ul_un (S0 := ⟨lk [(1, .dv (ints (a))), (2, .dv (ints (b))), (3, .pt 3 0 0), (9, .dv (i64 (cntD h))), (10, .sl 10 0 0 i), (11, .dv (i64 (i : Nat))), (12, .sl 260000 0 0 2), (21, .dv (i64 ((2 : Nat) : Int))), (22, .dv (i64 (i : Nat))), (28, .dv (i64 ((2 : Nat) : Int))), (29, .dv (i64 ((2 : Nat) : Int)))], mkM [(3, 0, some ⟨[.dv (.list (h.links.map ints)), .dv (ints h.ground)], 0, 25, 0, false⟩), (10, 0, some (rowI (scrQ h a b i))), (260000, 0, some ⟨[.sl 260001 0 0 2, .sl 260002 0 0 2], 1, 23, 0, true⟩), (260001, 0, some (rowI (crow h a b i 0))), (260002, 0, some (rowI (crow h a b i 1)))]⟩) (tl [(3, 3), (10, 10), (260000, 260000), (260001, 260001), (260002, 260002)] (hF := by simp [FLe, svLe, lk, mkM, isLive, tauL, hcr1]) (hM := by simp [MLe, blkLe, svLe, svLes, lk, mkM, isLive, tauL, svLes_ints, svLes_self, isDvs, isDvs_map, isDvs_app, isDvs_take, isDvs_set, isDvs_repl, hcr1])) ?_
    refine awp_seq ?_
    refine rg ?_
    refine qv m_lss ?_
    show AWp cx _ _ _
    refine awp_seq ?_
    refine cdF (hb := (by decide)) (ht := ?_)
    refine awp_exit ?_
    show AWp cx _ _ _
    refine awp_seq ?_
    have hsb := scrD_bd v (c := i) (by omega) hab
    have hdb := tdiv_bd (d := cntD h) hsb.1 hsb.2
    have hkl0 := crow_len (h := h) (a := a) (b := b) (c := i) (i := 0)
    have hkl1 := crow_len (h := h) (a := a) (b := b) (c := i) (i := 1)
    refine rg ?_
    refine qv m_mv ?_
    refine qqF (f97c_2 h v hN a b hab i (by omega)) ?_ (ha := (args_cons (data_cells (blk := ⟨[.sl 260001 0 0 2, .sl 260002 0 0 2], 1, 23, 0, true⟩) (l := [ints (crow h a b i 0), ints (crow h a b i 1)]) (by simp only [mkM, reduceIte, Nat.reduceEqDiff] <;> rfl) trivial rfl (by simp [DV.cells]) (args_cons (data_ints (L := crow h a b i 0) (by simp only [mkM, reduceIte, Nat.reduceEqDiff] <;> rfl) trivial (by omega) rfl rfl (fun _ => trivial)) (args_cons (data_ints (L := crow h a b i 1) (by simp only [mkM, reduceIte, Nat.reduceEqDiff] <;> rfl) trivial (by omega) rfl rfl (fun _ => trivial)) args_nil))) args_nil))
    refine qv m_as ?_
    show AWp cx _ _ _
    refine awp_seq ?_
    refine awp_seq ?_
    refine rg ?_
    refine qv m_mv ?_
    refine qv m_mv ?_
    refine qv m_rem ?_
    refine qv m_neq ?_
    show AWp cx _ _ _
    refine cd (fun hc2 => ?_) (fun hc2 => ?_)
    · try simp at hc2
      have hsn := scr_no (h := h) (a := a) (b := b) (c := i) (by omega) hc2
      refine awp_seq ?_
      refine rg ?_
      refine qv m_as ?_
      refine qv m_as ?_
      show AWp cx _ _ _
      refine awp_ret ?_
      exact x2 (hr := (rN_ (by rw [hsn]))) (hr' := (rB_ (by rw [hsn])))
    · try simp at hc2
      refine awp_skip ?_
      show AWp cx _ _ _
      refine rg ?_
      refine qv m_mv ?_
      refine qv m_mv ?_
      refine qv m_mv ?_
      refine qv m_quo ?_
      refine qr (m_bsl el23 ze3 sz3) ?_
      refine qa1 (m_app1 el23 el23 ze3 sz3 by3) ?_
      refine qv m_as ?_
      show AWp cx _ _ _
      refine rg ?_
      refine qv m_add ?_
      refine qv m_mv ?_
      refine ⟨i + 1, ?_, (by simp only; omega), (tl [(3, 3), (10, 59)] (hF := by simp [FLe, svLe, lk, mkM, isLive, tauL, scrQ_succ]) (hM := by simp [MLe, blkLe, svLe, svLes, lk, mkM, isLive, tauL, svLes_ints, svLes_self, isDvs, isDvs_map, isDvs_app, isDvs_take, isDvs_set, isDvs_repl, scrQ_succ]))⟩
      refine ⟨by omega, fun c hc => ?_⟩
      rcases Nat.lt_or_ge c i with h1 | h1
      · exact hφ0.2 c h1
      · obtain rfl : c = i := by omega
        exact hc2
  · try simp at hc0
    obtain rfl : i = 2 := by omega
    have hsy := scr_yes (h := h) (a := a) (b := b) (fun c hc => hφ0.2 c (by omega))
    rw [hN] at hsy
    refine awp_exit ?_
    show AWp cx _ _ _
    refine awp_seq ?_
    refine rg ?_
    refine qv m_mv ?_
    refine qv m_as ?_
    refine qv m_as ?_
    show AWp cx _ _ _
    refine awp_ret ?_
    exact x2 (hr := (rR_ (by rw [hsy]))) (hr' := (rB_ (by rw [hsy])))
theorem f30_2 (h : Hp) (v : VH h) (he0 : validate h = 0) (hN : h.ground.length = 2) : ACallsF Try.prog 30 [dHp h] (.many [.dv (i64 (countR h).1), .dv (i64 (countR h).2)]) := by
  refine callsF_of Try.func30 rfl rfl (by rw [Try.ntmps30]; simp) fun cx hP hn hg => ?_
  rw [Try.ntmps30] at hn
  rw [startF_lk, none_mkM]
  simp only [List.nil_append, List.append_nil, List.cons_append, zipSV, Nat.reduceAdd]
  refine awp_seq ?_
  refine rg ?_
  refine qp m_box ?_
  refine qv m_as ?_
  refine qv m_as ?_
  show AWp cx _ _ _
  refine awp_seq ?_
  refine awp_seq ?_
  refine rg ?_
  refine qv (m_ldpa sz25 ag25) ?_
  refine qqF (f24 h) ?_
  refine qv m_as ?_
  show AWp cx _ _ _
  refine awp_seq ?_
  refine rg ?_
  refine qv m_mv ?_
  refine qv m_neq ?_
  show AWp cx _ _ _
  refine cdF (hb := (by simp [he0])) (ht := ?_)
  refine awp_skip ?_
  show AWp cx _ _ _
  refine awp_seq ?_
  refine rg ?_
  refine qv (m_ldpa sz25 ag25) ?_
  refine qqG (f71_2 h v hN) [] [] [110000, 110001, 110002] ?_
  refine qqG (f70h_2 h v hN) [] [(100000, 110000), (100001, 110001), (100002, 110002)] [] ?_
  refine qv m_as ?_
  refine qv m_as ?_
  show AWp cx _ _ _
  refine awp_ret ?_
  exact x2 (hr := (rI_ (by rw [count_ok he0]))) (hr' := (rI_ (by rw [count_ok he0])))
end Go.Ab.Try
