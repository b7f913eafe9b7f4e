/- The functions of the moss laws, part 3. The walks are written by wip/gen/gw.py. -/
import Derived.Test.YtjipgkhfbfpacaaDoorMoss2
import Derived.Test.YtjipgkhfbfpacaaDoorMossFacts
import Derived.Test.YtjipgkhfbfpacaaDoorMossT
set_option linter.all false
namespace Go.Ab.Tryd
open Go Go.Ab Go.Proofs Go.Ab.Moss


theorem f58 (x : Nat) (hx : x < 68719476736) : ACallsF Tryd.prog 58 [i64 (x : Int)] (.one (rI (ns (bl x)))) := by
  have hx64 : x < 2 ^ 64 := Nat.lt_of_lt_of_le hx (by decide)
  refine callsF_of Tryd.func58 rfl rfl (by rw [Tryd.ntmps58]; simp) fun cx hP hn hg => ?_
  rw [Tryd.ntmps58] at hn
  rw [startF_lk, none_mkM]
  simp only [List.nil_append, List.append_nil, List.cons_append, zipSV, Nat.reduceAdd]
  refine awp_seq ?_
  refine rg ?_
  refine qv m_as ?_
  show AWp cx _ _ _
  refine awp_seq ?_
  refine rg ?_
  refine qv m_as ?_
  show AWp cx _ _ _
  refine awp_seq ?_
  refine awp_block ?_
  have hbl := bl_len (x := x)
  refine awp_loop (ι := Nat) (fun k => ⟨lk [(0, .dv (i64 (rem x k : Int))), (3, .sl 3 0 0 k)], mkM [(3, 0, some (rowI (ns ((bl x).take k))))]⟩) (fun k => k ≤ (bl x).length) (fun k => (bl x).length - k) 0 (by simp) (tl [] (hF := by simp [FLe, svLe, lk, mkM, isLive, tauL, rem, ns]) (hM := by simp [MLe, blkLe, svLe, svLes, lk, mkM, isLive, tauL, svLes_ints, svLes_self, isDvs, isDvs_map, isDvs_app, isDvs_take, isDvs_set, isDvs_repl, rem, ns])) ?_
  intro k hφ0
  have hrl := rem_le x k
  have hrz := rem_zero hx64 (k := k)
  have hnl : (ns ((bl x).take k)).length = k := by rw [ns_len, List.length_take]; omega
  refine awp_seq ?_
  refine awp_seq ?_
  refine rg ?_
  refine qv m_mv ?_
  refine qv m_neq ?_
  show AWp cx _ _ _
  refine cd (fun hc0 => ?_) (fun hc0 => ?_)
  · skip
    have h0 : rem x k ≠ 0 := by intro h; rw [h] at hc0; simp at hc0
    have htk := bl_take hx64 h0
    have hk : k < (bl x).length := by omega
    refine awp_skip ?_
    show AWp cx _ _ _
    refine awp_seq ?_
    refine awp_block ?_
    refine rg ?_
    refine qv m_mv ?_
    refine qv m_mv ?_
    refine qv (m_cnvU kd3 kd67) ?_
    refine qqF (f74 (rem x k) (by omega) h0) ?_
    refine qr (m_bsl el32 ze3 sz3) ?_
    refine qa1 (m_app1 el32 el32 ze3 sz3 by3) ?_
    refine qv m_as ?_
    show AWp cx _ _ _
    refine rg ?_
    refine qv m_mv ?_
    refine qv m_mv ?_
    refine qv (m_subN (rem x k - 1)) ?_
    refine qv (m_andS (a := rem x k) (b := rem x k - 1)) ?_
    refine qv m_as ?_
    exact ⟨k + 1, by omega, (by simp only; omega), (tl [(3, 15)] (hF := by simp [FLe, svLe, lk, mkM, isLive, tauL, htk, rem]) (hM := by simp [MLe, blkLe, svLe, svLes, lk, mkM, isLive, tauL, svLes_ints, svLes_self, isDvs, isDvs_map, isDvs_app, isDvs_take, isDvs_set, isDvs_repl, htk, rem]))⟩
  · skip
    refine awp_exit ?_
    show AWp cx _ _ _
    refine awp_seq ?_
    refine rg ?_
    refine qv m_mv ?_
    refine qv m_as ?_
    show AWp cx _ _ _
    refine awp_ret ?_
    have hz : rem x k = 0 := by simpa using hc0
    have e : (bl x).take k = bl x := List.take_of_length_le (hrz.1 hz)
    rw [e] at hnl ⊢
    exact x1 (hr := (rR_ (hl := hnl.symm)))

theorem f60 (n : Mn) (ok : n.Ok) (k : Nat) (hk : k < n.r * n.c) : ACallsF Tryd.prog 60 [dMn n, i64 (k : Int)] (.one (.dv (i64 (arN n k : Int)))) := by
  have hN := ok.N2
  have hcp := ok.c1
  have hcq := ok.c2
  refine callsF_of Tryd.func60 rfl rfl (by rw [Tryd.ntmps60]; simp) fun cx hP hn hg => ?_
  rw [Tryd.ntmps60] at hn
  rw [startF_lk, none_mkM]
  simp only [List.nil_append, List.append_nil, List.cons_append, zipSV, Nat.reduceAdd]
  refine awp_seq ?_
  refine rg ?_
  refine qp m_box ?_
  refine qv m_as ?_
  show AWp cx _ _ _
  refine awp_seq ?_
  refine rg ?_
  refine qv m_as ?_
  show AWp cx _ _ _
  refine awp_seq ?_
  refine rd mixed ?_
  refine zv m_mv ?_
  refine zv (m_fdp fd23_1) ?_
  refine zv (m_ldp sz3 ag3) ?_
  refine zv m_quoN ?_
  refine zv m_mv ?_
  refine zv (m_fdp fd23_1) ?_
  refine zv (m_ldp sz3 ag3) ?_
  refine zv m_remN ?_
  refine zv m_as ?_
  refine zv m_as ?_
  refine ⟨by rfl, ?_⟩
  show AWp cx _ _ _
  refine awp_seq ?_
  refine awp_seq ?_
  refine rg ?_
  refine qv m_mv ?_
  refine qv m_gtr ?_
  show AWp cx _ _ _
  refine cd (fun hc0 => ?_) (fun hc0 => ?_)
  · simp only [decide_eq_true_eq, decide_eq_false_iff_not] at hc0
    have g0 : 0 < k / n.c := by omega
    have u0 := up_le g0
    refine rg ?_
    refine qv m_mv ?_
    refine qv m_mv ?_
    refine qv (m_fdp fd23_1) ?_
    refine qv (m_ldp sz3 ag3) ?_
    refine qv (m_subN (k - n.c)) ?_
    refine qv (m_shlS (k - n.c)) ?_
    first | refine qv m_orS ?_ | refine qv (m_orS (a := 0)) ?_
    refine qv m_as ?_
    show AWp cx _ _ _
    refine awp_seq ?_
    refine awp_seq ?_
    refine rg ?_
    refine qv m_mv ?_
    refine qv m_gtr ?_
    show AWp cx _ _ _
    refine cd (fun hc1 => ?_) (fun hc1 => ?_)
    · simp only [decide_eq_true_eq, decide_eq_false_iff_not] at hc1
      have g1 : 0 < k % n.c := by omega
      have u1 := left_le g1
      refine rg ?_
      refine qv m_mv ?_
      refine qv m_mv ?_
      refine qv (m_subN (k - 1)) ?_
      refine qv (m_shlS (k - 1)) ?_
      first | refine qv m_orS ?_ | refine qv (m_orS (a := 0)) ?_
      refine qv m_as ?_
      show AWp cx _ _ _
      refine awp_seq ?_
      refine awp_seq ?_
      refine rg ?_
      refine qv m_mv ?_
      refine qv (m_addN (a := k % n.c) (b := 1) (ha := by have := Nat.mod_lt k hcp; omega)) ?_
      refine qv (m_fdp fd23_1) ?_
      refine qv (m_ldp sz3 ag3) ?_
      refine qv m_lss ?_
      show AWp cx _ _ _
      refine cd (fun hc2 => ?_) (fun hc2 => ?_)
      · simp only [decide_eq_true_eq, decide_eq_false_iff_not] at hc2
        have g2 : k % n.c + 1 < n.c := by omega
        have u2 := right_lt hk hcp g2
        refine rg ?_
        refine qv m_mv ?_
        refine qv m_mv ?_
        refine qv (m_addN (b := 1)) ?_
        refine qv (m_shlS (k + 1)) ?_
        first | refine qv m_orS ?_ | refine qv (m_orS (a := 0)) ?_
        refine qv m_as ?_
        show AWp cx _ _ _
        refine awp_seq ?_
        refine awp_seq ?_
        refine rg ?_
        refine qv m_mv ?_
        refine qv (m_addN (a := k / n.c) (b := 1) (ha := by have := row_lt hk hcp; have := ok.r2; omega)) ?_
        refine qv (m_fdp fd23_0) ?_
        refine qv (m_ldp sz3 ag3) ?_
        refine qv m_lss ?_
        show AWp cx _ _ _
        refine cd (fun hc3 => ?_) (fun hc3 => ?_)
        · simp only [decide_eq_true_eq, decide_eq_false_iff_not] at hc3
          have g3 : k / n.c + 1 < n.r := by omega
          have u3 := down_lt hcp g3
          refine rg ?_
          refine qv m_mv ?_
          refine qv m_mv ?_
          refine qv (m_fdp fd23_1) ?_
          refine qv (m_ldp sz3 ag3) ?_
          refine qv m_addN ?_
          refine qv (m_shlS (k + n.c)) ?_
          first | refine qv m_orS ?_ | refine qv (m_orS (a := 0)) ?_
          refine qv m_as ?_
          show AWp cx _ _ _
          refine awp_seq ?_
          refine rg ?_
          refine qv m_mv ?_
          refine qv m_as ?_
          show AWp cx _ _ _
          refine awp_ret ?_
          exact x1 (hr := (rI_ (by simp only [arN, ar3, ar2, ar1, g0, g1, g2, g3, if_true, if_false] <;> rfl)))
        · simp only [decide_eq_true_eq, decide_eq_false_iff_not] at hc3
          have g3 : ¬ k / n.c + 1 < n.r := by omega
          refine awp_skip ?_
          show AWp cx _ _ _
          refine awp_seq ?_
          refine rg ?_
          refine qv m_mv ?_
          refine qv m_as ?_
          show AWp cx _ _ _
          refine awp_ret ?_
          exact x1 (hr := (rI_ (by simp only [arN, ar3, ar2, ar1, g0, g1, g2, g3, if_true, if_false] <;> rfl)))
      · simp only [decide_eq_true_eq, decide_eq_false_iff_not] at hc2
        have g2 : ¬ k % n.c + 1 < n.c := by omega
        refine awp_skip ?_
        show AWp cx _ _ _
        refine awp_seq ?_
        refine awp_seq ?_
        refine rg ?_
        refine qv m_mv ?_
        refine qv (m_addN (a := k / n.c) (b := 1) (ha := by have := row_lt hk hcp; have := ok.r2; omega)) ?_
        refine qv (m_fdp fd23_0) ?_
        refine qv (m_ldp sz3 ag3) ?_
        refine qv m_lss ?_
        show AWp cx _ _ _
        refine cd (fun hc3 => ?_) (fun hc3 => ?_)
        · simp only [decide_eq_true_eq, decide_eq_false_iff_not] at hc3
          have g3 : k / n.c + 1 < n.r := by omega
          have u3 := down_lt hcp g3
          refine rg ?_
          refine qv m_mv ?_
          refine qv m_mv ?_
          refine qv (m_fdp fd23_1) ?_
          refine qv (m_ldp sz3 ag3) ?_
          refine qv m_addN ?_
          refine qv (m_shlS (k + n.c)) ?_
          first | refine qv m_orS ?_ | refine qv (m_orS (a := 0)) ?_
          refine qv m_as ?_
          show AWp cx _ _ _
          refine awp_seq ?_
          refine rg ?_
          refine qv m_mv ?_
          refine qv m_as ?_
          show AWp cx _ _ _
          refine awp_ret ?_
          exact x1 (hr := (rI_ (by simp only [arN, ar3, ar2, ar1, g0, g1, g2, g3, if_true, if_false] <;> rfl)))
        · simp only [decide_eq_true_eq, decide_eq_false_iff_not] at hc3
          have g3 : ¬ k / n.c + 1 < n.r := by omega
          refine awp_skip ?_
          show AWp cx _ _ _
          refine awp_seq ?_
          refine rg ?_
          refine qv m_mv ?_
          refine qv m_as ?_
          show AWp cx _ _ _
          refine awp_ret ?_
          exact x1 (hr := (rI_ (by simp only [arN, ar3, ar2, ar1, g0, g1, g2, g3, if_true, if_false] <;> rfl)))
    · simp only [decide_eq_true_eq, decide_eq_false_iff_not] at hc1
      have g1 : ¬ 0 < k % n.c := by omega
      refine awp_skip ?_
      show AWp cx _ _ _
      refine awp_seq ?_
      refine awp_seq ?_
      refine rg ?_
      refine qv m_mv ?_
      refine qv (m_addN (a := k % n.c) (b := 1) (ha := by have := Nat.mod_lt k hcp; omega)) ?_
      refine qv (m_fdp fd23_1) ?_
      refine qv (m_ldp sz3 ag3) ?_
      refine qv m_lss ?_
      show AWp cx _ _ _
      refine cd (fun hc2 => ?_) (fun hc2 => ?_)
      · simp only [decide_eq_true_eq, decide_eq_false_iff_not] at hc2
        have g2 : k % n.c + 1 < n.c := by omega
        have u2 := right_lt hk hcp g2
        refine rg ?_
        refine qv m_mv ?_
        refine qv m_mv ?_
        refine qv (m_addN (b := 1)) ?_
        refine qv (m_shlS (k + 1)) ?_
        first | refine qv m_orS ?_ | refine qv (m_orS (a := 0)) ?_
        refine qv m_as ?_
        show AWp cx _ _ _
        refine awp_seq ?_
        refine awp_seq ?_
        refine rg ?_
        refine qv m_mv ?_
        refine qv (m_addN (a := k / n.c) (b := 1) (ha := by have := row_lt hk hcp; have := ok.r2; omega)) ?_
        refine qv (m_fdp fd23_0) ?_
        refine qv (m_ldp sz3 ag3) ?_
        refine qv m_lss ?_
        show AWp cx _ _ _
        refine cd (fun hc3 => ?_) (fun hc3 => ?_)
        · simp only [decide_eq_true_eq, decide_eq_false_iff_not] at hc3
          have g3 : k / n.c + 1 < n.r := by omega
          have u3 := down_lt hcp g3
          refine rg ?_
          refine qv m_mv ?_
          refine qv m_mv ?_
          refine qv (m_fdp fd23_1) ?_
          refine qv (m_ldp sz3 ag3) ?_
          refine qv m_addN ?_
          refine qv (m_shlS (k + n.c)) ?_
          first | refine qv m_orS ?_ | refine qv (m_orS (a := 0)) ?_
          refine qv m_as ?_
          show AWp cx _ _ _
          refine awp_seq ?_
          refine rg ?_
          refine qv m_mv ?_
          refine qv m_as ?_
          show AWp cx _ _ _
          refine awp_ret ?_
          exact x1 (hr := (rI_ (by simp only [arN, ar3, ar2, ar1, g0, g1, g2, g3, if_true, if_false] <;> rfl)))
        · simp only [decide_eq_true_eq, decide_eq_false_iff_not] at hc3
          have g3 : ¬ k / n.c + 1 < n.r := by omega
          refine awp_skip ?_
          show AWp cx _ _ _
          refine awp_seq ?_
          refine rg ?_
          refine qv m_mv ?_
          refine qv m_as ?_
          show AWp cx _ _ _
          refine awp_ret ?_
          exact x1 (hr := (rI_ (by simp only [arN, ar3, ar2, ar1, g0, g1, g2, g3, if_true, if_false] <;> rfl)))
      · simp only [decide_eq_true_eq, decide_eq_false_iff_not] at hc2
        have g2 : ¬ k % n.c + 1 < n.c := by omega
        refine awp_skip ?_
        show AWp cx _ _ _
        refine awp_seq ?_
        refine awp_seq ?_
        refine rg ?_
        refine qv m_mv ?_
        refine qv (m_addN (a := k / n.c) (b := 1) (ha := by have := row_lt hk hcp; have := ok.r2; omega)) ?_
        refine qv (m_fdp fd23_0) ?_
        refine qv (m_ldp sz3 ag3) ?_
        refine qv m_lss ?_
        show AWp cx _ _ _
        refine cd (fun hc3 => ?_) (fun hc3 => ?_)
        · simp only [decide_eq_true_eq, decide_eq_false_iff_not] at hc3
          have g3 : k / n.c + 1 < n.r := by omega
          have u3 := down_lt hcp g3
          refine rg ?_
          refine qv m_mv ?_
          refine qv m_mv ?_
          refine qv (m_fdp fd23_1) ?_
          refine qv (m_ldp sz3 ag3) ?_
          refine qv m_addN ?_
          refine qv (m_shlS (k + n.c)) ?_
          first | refine qv m_orS ?_ | refine qv (m_orS (a := 0)) ?_
          refine qv m_as ?_
          show AWp cx _ _ _
          refine awp_seq ?_
          refine rg ?_
          refine qv m_mv ?_
          refine qv m_as ?_
          show AWp cx _ _ _
          refine awp_ret ?_
          exact x1 (hr := (rI_ (by simp only [arN, ar3, ar2, ar1, g0, g1, g2, g3, if_true, if_false] <;> rfl)))
        · simp only [decide_eq_true_eq, decide_eq_false_iff_not] at hc3
          have g3 : ¬ k / n.c + 1 < n.r := by omega
          refine awp_skip ?_
          show AWp cx _ _ _
          refine awp_seq ?_
          refine rg ?_
          refine qv m_mv ?_
          refine qv m_as ?_
          show AWp cx _ _ _
          refine awp_ret ?_
          exact x1 (hr := (rI_ (by simp only [arN, ar3, ar2, ar1, g0, g1, g2, g3, if_true, if_false] <;> rfl)))
  · simp only [decide_eq_true_eq, decide_eq_false_iff_not] at hc0
    have g0 : ¬ 0 < k / n.c := by omega
    refine awp_skip ?_
    show AWp cx _ _ _
    refine awp_seq ?_
    refine awp_seq ?_
    refine rg ?_
    refine qv m_mv ?_
    refine qv m_gtr ?_
    show AWp cx _ _ _
    refine cd (fun hc1 => ?_) (fun hc1 => ?_)
    · simp only [decide_eq_true_eq, decide_eq_false_iff_not] at hc1
      have g1 : 0 < k % n.c := by omega
      have u1 := left_le g1
      refine rg ?_
      refine qv m_mv ?_
      refine qv m_mv ?_
      refine qv (m_subN (k - 1)) ?_
      refine qv (m_shlS (k - 1)) ?_
      first | refine qv m_orS ?_ | refine qv (m_orS (a := 0)) ?_
      refine qv m_as ?_
      show AWp cx _ _ _
      refine awp_seq ?_
      refine awp_seq ?_
      refine rg ?_
      refine qv m_mv ?_
      refine qv (m_addN (a := k % n.c) (b := 1) (ha := by have := Nat.mod_lt k hcp; omega)) ?_
      refine qv (m_fdp fd23_1) ?_
      refine qv (m_ldp sz3 ag3) ?_
      refine qv m_lss ?_
      show AWp cx _ _ _
      refine cd (fun hc2 => ?_) (fun hc2 => ?_)
      · simp only [decide_eq_true_eq, decide_eq_false_iff_not] at hc2
        have g2 : k % n.c + 1 < n.c := by omega
        have u2 := right_lt hk hcp g2
        refine rg ?_
        refine qv m_mv ?_
        refine qv m_mv ?_
        refine qv (m_addN (b := 1)) ?_
        refine qv (m_shlS (k + 1)) ?_
        first | refine qv m_orS ?_ | refine qv (m_orS (a := 0)) ?_
        refine qv m_as ?_
        show AWp cx _ _ _
        refine awp_seq ?_
        refine awp_seq ?_
        refine rg ?_
        refine qv m_mv ?_
        refine qv (m_addN (a := k / n.c) (b := 1) (ha := by have := row_lt hk hcp; have := ok.r2; omega)) ?_
        refine qv (m_fdp fd23_0) ?_
        refine qv (m_ldp sz3 ag3) ?_
        refine qv m_lss ?_
        show AWp cx _ _ _
        refine cd (fun hc3 => ?_) (fun hc3 => ?_)
        · simp only [decide_eq_true_eq, decide_eq_false_iff_not] at hc3
          have g3 : k / n.c + 1 < n.r := by omega
          have u3 := down_lt hcp g3
          refine rg ?_
          refine qv m_mv ?_
          refine qv m_mv ?_
          refine qv (m_fdp fd23_1) ?_
          refine qv (m_ldp sz3 ag3) ?_
          refine qv m_addN ?_
          refine qv (m_shlS (k + n.c)) ?_
          first | refine qv m_orS ?_ | refine qv (m_orS (a := 0)) ?_
          refine qv m_as ?_
          show AWp cx _ _ _
          refine awp_seq ?_
          refine rg ?_
          refine qv m_mv ?_
          refine qv m_as ?_
          show AWp cx _ _ _
          refine awp_ret ?_
          exact x1 (hr := (rI_ (by simp only [arN, ar3, ar2, ar1, g0, g1, g2, g3, if_true, if_false] <;> rfl)))
        · simp only [decide_eq_true_eq, decide_eq_false_iff_not] at hc3
          have g3 : ¬ k / n.c + 1 < n.r := by omega
          refine awp_skip ?_
          show AWp cx _ _ _
          refine awp_seq ?_
          refine rg ?_
          refine qv m_mv ?_
          refine qv m_as ?_
          show AWp cx _ _ _
          refine awp_ret ?_
          exact x1 (hr := (rI_ (by simp only [arN, ar3, ar2, ar1, g0, g1, g2, g3, if_true, if_false] <;> rfl)))
      · simp only [decide_eq_true_eq, decide_eq_false_iff_not] at hc2
        have g2 : ¬ k % n.c + 1 < n.c := by omega
        refine awp_skip ?_
        show AWp cx _ _ _
        refine awp_seq ?_
        refine awp_seq ?_
        refine rg ?_
        refine qv m_mv ?_
        refine qv (m_addN (a := k / n.c) (b := 1) (ha := by have := row_lt hk hcp; have := ok.r2; omega)) ?_
        refine qv (m_fdp fd23_0) ?_
        refine qv (m_ldp sz3 ag3) ?_
        refine qv m_lss ?_
        show AWp cx _ _ _
        refine cd (fun hc3 => ?_) (fun hc3 => ?_)
        · simp only [decide_eq_true_eq, decide_eq_false_iff_not] at hc3
          have g3 : k / n.c + 1 < n.r := by omega
          have u3 := down_lt hcp g3
          refine rg ?_
          refine qv m_mv ?_
          refine qv m_mv ?_
          refine qv (m_fdp fd23_1) ?_
          refine qv (m_ldp sz3 ag3) ?_
          refine qv m_addN ?_
          refine qv (m_shlS (k + n.c)) ?_
          first | refine qv m_orS ?_ | refine qv (m_orS (a := 0)) ?_
          refine qv m_as ?_
          show AWp cx _ _ _
          refine awp_seq ?_
          refine rg ?_
          refine qv m_mv ?_
          refine qv m_as ?_
          show AWp cx _ _ _
          refine awp_ret ?_
          exact x1 (hr := (rI_ (by simp only [arN, ar3, ar2, ar1, g0, g1, g2, g3, if_true, if_false] <;> rfl)))
        · simp only [decide_eq_true_eq, decide_eq_false_iff_not] at hc3
          have g3 : ¬ k / n.c + 1 < n.r := by omega
          refine awp_skip ?_
          show AWp cx _ _ _
          refine awp_seq ?_
          refine rg ?_
          refine qv m_mv ?_
          refine qv m_as ?_
          show AWp cx _ _ _
          refine awp_ret ?_
          exact x1 (hr := (rI_ (by simp only [arN, ar3, ar2, ar1, g0, g1, g2, g3, if_true, if_false] <;> rfl)))
    · simp only [decide_eq_true_eq, decide_eq_false_iff_not] at hc1
      have g1 : ¬ 0 < k % n.c := by omega
      refine awp_skip ?_
      show AWp cx _ _ _
      refine awp_seq ?_
      refine awp_seq ?_
      refine rg ?_
      refine qv m_mv ?_
      refine qv (m_addN (a := k % n.c) (b := 1) (ha := by have := Nat.mod_lt k hcp; omega)) ?_
      refine qv (m_fdp fd23_1) ?_
      refine qv (m_ldp sz3 ag3) ?_
      refine qv m_lss ?_
      show AWp cx _ _ _
      refine cd (fun hc2 => ?_) (fun hc2 => ?_)
      · simp only [decide_eq_true_eq, decide_eq_false_iff_not] at hc2
        have g2 : k % n.c + 1 < n.c := by omega
        have u2 := right_lt hk hcp g2
        refine rg ?_
        refine qv m_mv ?_
        refine qv m_mv ?_
        refine qv (m_addN (b := 1)) ?_
        refine qv (m_shlS (k + 1)) ?_
        first | refine qv m_orS ?_ | refine qv (m_orS (a := 0)) ?_
        refine qv m_as ?_
        show AWp cx _ _ _
        refine awp_seq ?_
        refine awp_seq ?_
        refine rg ?_
        refine qv m_mv ?_
        refine qv (m_addN (a := k / n.c) (b := 1) (ha := by have := row_lt hk hcp; have := ok.r2; omega)) ?_
        refine qv (m_fdp fd23_0) ?_
        refine qv (m_ldp sz3 ag3) ?_
        refine qv m_lss ?_
        show AWp cx _ _ _
        refine cd (fun hc3 => ?_) (fun hc3 => ?_)
        · simp only [decide_eq_true_eq, decide_eq_false_iff_not] at hc3
          have g3 : k / n.c + 1 < n.r := by omega
          have u3 := down_lt hcp g3
          refine rg ?_
          refine qv m_mv ?_
          refine qv m_mv ?_
          refine qv (m_fdp fd23_1) ?_
          refine qv (m_ldp sz3 ag3) ?_
          refine qv m_addN ?_
          refine qv (m_shlS (k + n.c)) ?_
          first | refine qv m_orS ?_ | refine qv (m_orS (a := 0)) ?_
          refine qv m_as ?_
          show AWp cx _ _ _
          refine awp_seq ?_
          refine rg ?_
          refine qv m_mv ?_
          refine qv m_as ?_
          show AWp cx _ _ _
          refine awp_ret ?_
          exact x1 (hr := (rI_ (by simp only [arN, ar3, ar2, ar1, g0, g1, g2, g3, if_true, if_false] <;> rfl)))
        · simp only [decide_eq_true_eq, decide_eq_false_iff_not] at hc3
          have g3 : ¬ k / n.c + 1 < n.r := by omega
          refine awp_skip ?_
          show AWp cx _ _ _
          refine awp_seq ?_
          refine rg ?_
          refine qv m_mv ?_
          refine qv m_as ?_
          show AWp cx _ _ _
          refine awp_ret ?_
          exact x1 (hr := (rI_ (by simp only [arN, ar3, ar2, ar1, g0, g1, g2, g3, if_true, if_false] <;> rfl)))
      · simp only [decide_eq_true_eq, decide_eq_false_iff_not] at hc2
        have g2 : ¬ k % n.c + 1 < n.c := by omega
        refine awp_skip ?_
        show AWp cx _ _ _
        refine awp_seq ?_
        refine awp_seq ?_
        refine rg ?_
        refine qv m_mv ?_
        refine qv (m_addN (a := k / n.c) (b := 1) (ha := by have := row_lt hk hcp; have := ok.r2; omega)) ?_
        refine qv (m_fdp fd23_0) ?_
        refine qv (m_ldp sz3 ag3) ?_
        refine qv m_lss ?_
        show AWp cx _ _ _
        refine cd (fun hc3 => ?_) (fun hc3 => ?_)
        · simp only [decide_eq_true_eq, decide_eq_false_iff_not] at hc3
          have g3 : k / n.c + 1 < n.r := by omega
          have u3 := down_lt hcp g3
          refine rg ?_
          refine qv m_mv ?_
          refine qv m_mv ?_
          refine qv (m_fdp fd23_1) ?_
          refine qv (m_ldp sz3 ag3) ?_
          refine qv m_addN ?_
          refine qv (m_shlS (k + n.c)) ?_
          first | refine qv m_orS ?_ | refine qv (m_orS (a := 0)) ?_
          refine qv m_as ?_
          show AWp cx _ _ _
          refine awp_seq ?_
          refine rg ?_
          refine qv m_mv ?_
          refine qv m_as ?_
          show AWp cx _ _ _
          refine awp_ret ?_
          exact x1 (hr := (rI_ (by simp only [arN, ar3, ar2, ar1, g0, g1, g2, g3, if_true, if_false] <;> rfl)))
        · simp only [decide_eq_true_eq, decide_eq_false_iff_not] at hc3
          have g3 : ¬ k / n.c + 1 < n.r := by omega
          refine awp_skip ?_
          show AWp cx _ _ _
          refine awp_seq ?_
          refine rg ?_
          refine qv m_mv ?_
          refine qv m_as ?_
          show AWp cx _ _ _
          refine awp_ret ?_
          exact x1 (hr := (rI_ (by simp only [arN, ar3, ar2, ar1, g0, g1, g2, g3, if_true, if_false] <;> rfl)))

end Go.Ab.Tryd
