/- The functions of the moss laws, part 30. The walks are written by wip/gen/gw.py. -/
import Derived.Test.YtjipgkhfbfpacaaDoorMoss10
import Derived.Test.YtjipgkhfbfpacaaDoorMossL5
import Derived.Test.YtjipgkhfbfpacaaDoorMossLb
import Derived.Test.YtjipgkhfbfpacaaDoorAbJ
import Derived.Test.YtjipgkhfbfpacaaDoorAbI
import Derived.Test.YtjipgkhfbfpacaaDoorMossFacts
import Derived.Test.YtjipgkhfbfpacaaDoorMossD
set_option linter.all false
namespace Go.Ab.Tryd
open Go Go.Ab Go.Proofs Go.Ab.Moss
theorem ar86 : arrP Tryd.prog 86 = some (2, 3) := by kernel_rfl
theorem dec_dg : ∀ k < 10, Lib.decDigits k = dg k := by decide +kernel
theorem body_s0 {c v k : Nat} (h : ¬ k % c = c - 1) : body c v (k + 1) = body c v k ++ [if v.testBit k then 35 else 46] := by simp [body, sqb, h]
theorem body_s1 {c v k : Nat} (h : k % c = c - 1) : body c v (k + 1) = body c v k ++ [if v.testBit k then 35 else 46] ++ [10] := by simp [body, sqb, h]
theorem und91 : Tryd.prog.underlying 91 = some (.slice 5) := by kernel_rfl
theorem dot_at (v k : Nat) : (⟨#[46, 35]⟩ : ByteArray).data.toList[v / 2 ^ k % 2]? = some (if v.testBit k then 35 else 46) := by
  rw [Nat.testBit_eq_decide_div_mod_eq]
  rcases Nat.mod_two_eq_zero_or_one (v / 2 ^ k) with h | h <;> rw [h] <;> rfl
theorem fmt_cat {n : Mn} (ok : n.Ok) {v : Nat} : [109, 101, 97, 100, 111, 119, 32] ++ Lib.decDigits n.r ++ [32] ++ Lib.decDigits n.c ++ [32] ++ Lib.decDigits n.nd ++ [10] ++ body n.c v (n.r * n.c) = fmtL n v := by
  have h1 := ok.r2
  have h2 := ok.c2
  have h3 := ok.n2
  rw [dec_dg _ (by omega), dec_dg _ (by omega), dec_dg _ (by omega)]
  simp [fmtL, hdL]
theorem hd_cat {n : Mn} (ok : n.Ok) : [109, 101, 97, 100, 111, 119, 32] ++ Lib.decDigits n.r ++ [32] ++ Lib.decDigits n.c ++ [32] ++ Lib.decDigits n.nd ++ [10] = hdL n ++ [10] := by
  have h1 := ok.r2
  have h2 := ok.c2
  have h3 := ok.n2
  rw [dec_dg _ (by omega), dec_dg _ (by omega), dec_dg _ (by omega)]
  simp [hdL]
theorem dec_len {k : Nat} (h : k < 10) : (Lib.decDigits k).length = 1 := by rw [dec_dg k h]; rfl
set_option maxHeartbeats 4000000 in
theorem f87 (n : Mn) (ok : n.Ok) (v : Nat) (hv : v < 68719476736) : ACallsF Tryd.prog 87 [dMn n, i64 (v : Int)] (.one (.dv (.str (bs (fmtL n v))))) := by
  have hN := ok.N2
  have hr2 := ok.r2
  have hcc2 := ok.c2
  have hn2 := ok.n2
  refine callsR_of (ds := [.str (bs (fmtL n v))]) Tryd.func87 rfl rfl (by rw [Tryd.ntmps87]; simp) fun cx hP hn hg hrn hdq hfin => ?_
  rw [Tryd.ntmps87] at hn
  rw [startF_lk, none_mkM]
  simp only [List.nil_append, List.append_nil, List.cons_append, zipSV, Nat.reduceAdd]
  refine awp_seq ?_
  refine rg ?_
  refine qp m_box ?_
  refine qp m_box ?_
  refine qv m_as ?_
  show AWp cx _ _ _
  refine awp_seq ?_
  refine rg ?_
  refine qp (m_al ze91) ?_
  show AWp cx _ _ _
  refine awp_seq_seq_rf ?_
  refine rg ?_
  refine qv (m_ldpa sz23 ag23) ?_
  refine qqA (f92 n) ?_
  show RfOk cx _ _ _ _
  refine rgf hg hrn hdq hfin hP hn (sq_seq ok) (l := [(2, .pt 2 0 0), (3, .pt 3 0 0), (5, .pt 5 0 0), (9, .dv (.fn 103 [] [.cptr [i64 (n.r : Int), i64 (n.c : Int), i64 (n.nd : Int)]]))]) (fun k => [(2, 0, some ⟨[.dv (i64 (n.r)), .dv (i64 (n.c)), .dv (i64 (n.nd))], 0, 23, 0, false⟩), (3, 0, some ⟨[.dv (i64 ((v : Int)))], 0, 3, 0, false⟩), (5, 0, some ⟨[.sl 200 0 0 (body n.c v k).length], 0, 91, 0, false⟩), (200, 0, some ⟨((bsI (body n.c v k)).map fun q => .dv (.int .u8 q)), 1, 5, 0, true⟩)]) (tl [(2, 2), (3, 3), (5, 5)] (hF := by simp [FLe, svLe, lk, mkM, isLive, tauL, body]) (hM := by simp [MLe, blkLe, svLe, svLes, lk, mkM, isLive, tauL, body, bsI_nil])) (fun k x hx => ?_) fun cx2 hP2 hn2 hg2 => ?_
  · obtain ⟨hk, rfl⟩ := sq_get hx
    refine roundL (P := Tryd.prog) (N := 47) [(2, 2), (3, 3), (5, 5), (200, 200)] [(2, ⟨[.dv (i64 (n.r)), .dv (i64 (n.c)), .dv (i64 (n.nd))], 0, 23, 5, false⟩), (3, ⟨[.dv (i64 ((v : Int)))], 0, 3, 6, false⟩), (5, ⟨[.sl 200 0 0 (body n.c v k).length], 0, 91, 8, false⟩), (200, ⟨((bsI (body n.c v k)).map fun q => .dv (.int .u8 q)), 1, 5, 203, true⟩)] [(2, ⟨[.dv (i64 (n.r : Int)), .dv (i64 (n.c : Int)), .dv (i64 (n.nd : Int))], 0, 23, 5, false⟩), (3, ⟨[.dv (i64 (v : Int))], 0, 3, 6, false⟩), (5, ⟨[.sl 200 0 0 (body n.c v (k + 1)).length], 0, 91, 8, false⟩), (200, ⟨((bsI (body n.c v (k + 1))).map fun q => .dv (.int .u8 q)), 1, 5, 0, true⟩)] [2, 3, 5, 200] [(2, .pt 2 0 0), (3, .pt 3 0 0), (5, .pt 5 0 0), (9, .dv (.fn 103 [] [.cptr [i64 (n.r : Int), i64 (n.c : Int), i64 (n.nd : Int)]]))] (hle := (tl [(2, 2), (3, 3), (5, 5), (200, 200)])) (k := fun cx1 hP1 hn1 hg1 => ?_)
    show AWp cx1 _ _ ⟨lk [(11, .dv (.agg [i64 ((k / n.c : Nat) : Int), i64 ((k % n.c : Nat) : Int)])), (10, .dv (i64 ((k : Nat)))), (2, .pt 2 0 0), (3, .pt 3 0 0), (5, .pt 5 0 0), (9, .dv (.fn 103 [] [.cptr [i64 (n.r : Int), i64 (n.c : Int), i64 (n.nd : Int)]]))], mkM [(2, 0, some ⟨[.dv (i64 (n.r)), .dv (i64 (n.c)), .dv (i64 (n.nd))], 0, 23, 5, false⟩), (3, 0, some ⟨[.dv (i64 ((v : Int)))], 0, 3, 6, false⟩), (5, 0, some ⟨[.sl 200 0 0 (body n.c v k).length], 0, 91, 8, false⟩), (200, 0, some ⟨((bsI (body n.c v k)).map fun q => .dv (.int .u8 q)), 1, 5, 203, true⟩)]⟩
    have hbl := body_len n.c v ok.c1 k
    have hkd : k / n.c ≤ k := Nat.div_le_self _ _
    have hcpos := ok.c1
    have hlI := bsI_len (body n.c v k)
    have hsub : ((n.c : Int) - 1) = ((n.c - 1 : Nat) : Int) := by omega
    refine awp_seq ?_
    refine rg ?_
    refine qv m_as ?_
    show AWp cx1 _ _ _
    refine rg ?_
    refine qp (m_al ze86) ?_
    refine qs (m_st sz86) ?_
    refine asg fun cx1 hP1 hn1 hg1 => ?_
    refine awp_block ?_
    refine awp_seq ?_
    refine rd mixed ?_
    first | refine zv (m_ldI sz91 ag91) ?_ | refine zv (m_ldp sz91 ag91) ?_
    refine zv (m_ldp sz3 ag3) ?_
    refine zv m_mv ?_
    refine zv (m_shrS k) ?_
    refine zv (m_and1 (a := v / 2 ^ k) (Nat.lt_of_le_of_lt (Nat.div_le_self _ _) (by omega))) ?_
    refine zv (m_sIx is9 (dot_at v k)) ?_
    refine zr (m_bsl el91 ze5 sz5) ?_
    first | refine za0 (m_app0 el91 el91 ze5 sz5 by5) ?_ | refine za1 (m_app1 el91 el91 ze5 sz5 by5) ?_
    first | refine zs (m_stI sz91) ?_ | refine zs (m_st sz91) ?_
    refine ⟨by rfl, ?_⟩
    show AWp cx1 _ _ _
    refine awp_seq ?_
    refine rg ?_
    refine qv (m_ixA ar86 sz3) ?_
    refine qv (m_ldp sz3 ag3) ?_
    refine qv (m_fdp fd23_1) ?_
    refine qv (m_ldp sz3 ag3) ?_
    refine qv m_sub ?_
    refine qv m_eql ?_
    show AWp cx1 _ _ _
    refine cd (fun hc0 => ?_) (fun hc0 => ?_)
    · try simp at hc0
      refine rg ?_
      refine qv (m_ldp sz91 ag91) ?_
      refine qr (m_bsl el91 ze5 sz5) ?_
      first | refine qa0 (m_app0 el91 el91 ze5 sz5 by5) ?_ | refine qa1 (m_app1 el91 el91 ze5 sz5 by5) ?_
      refine qs (m_st sz91) ?_
      have hb := body_s1 (v := v) (show k % n.c = n.c - 1 by omega)
      exact rend (tl [(2, 2), (3, 3), (5, 5), (200, 28)] (hF := by simp [FLe, svLe, lk, mkM, isLive, tauL, hb]) (hM := by simp [MLe, blkLe, svLe, svLes, lk, mkM, isLive, tauL, svLes_self, isDvs, isDvs_map, isDvs_app, hb, bsI_app, bsI_cons, bsI_nil]))
    · try simp at hc0
      refine awp_skip ?_
      have hb := body_s0 (v := v) (show ¬ k % n.c = n.c - 1 by omega)
      exact rend (tl [(2, 2), (3, 3), (5, 5), (200, 19)] (hF := by simp [FLe, svLe, lk, mkM, isLive, tauL, hb]) (hM := by simp [MLe, blkLe, svLe, svLes, lk, mkM, isLive, tauL, svLes_self, isDvs, isDvs_map, isDvs_app, hb, bsI_app, bsI_cons, bsI_nil]))
  · try rw [List.length_map, List.length_range]
    have hd1 := dec_len (show n.r < 10 by omega)
    have hd2 := dec_len (show n.c < 10 by omega)
    have hd3 := dec_len (show n.nd < 10 by omega)
    have hbl := body_len n.c v ok.c1 (n.r * n.c)
    have hkd : n.r * n.c / n.c ≤ n.r * n.c := Nat.div_le_self _ _
    refine awp_seq ?_
    refine rd mixed ?_
    refine zv (m_fdp fd23_0) ?_
    refine zv (m_ldp sz3 ag3) ?_
    refine zqF (R := []) (f88s n.r (by omega)) ?_
    refine zv m_cat ?_
    refine zv m_cat ?_
    refine zv (m_fdp fd23_1) ?_
    refine zv (m_ldp sz3 ag3) ?_
    refine zqF (R := []) (f88s n.c (by omega)) ?_
    refine zv m_cat ?_
    refine zv m_cat ?_
    refine zv (m_fdp fd23_2) ?_
    refine zv (m_ldp sz3 ag3) ?_
    refine zqF (R := []) (f88s n.nd (by omega)) ?_
    refine zv m_cat ?_
    refine zv m_cat ?_
    refine zv (m_ldp sz91 ag91) ?_
    refine zv (m_b2L und91 kd5 is9) ?_
    refine zv m_cat ?_
    refine zv m_as ?_
    refine ⟨by rfl, ?_⟩
    show AWp cx2 _ _ _
    refine awp_ret ?_
    exact xs1 (hs := by simp only [resSV, lk, Option.map_some, reduceIte, Nat.reduceEqDiff]; rw [fmt_cat ok]; rfl)
theorem fmt_no {m : Mw} {w : Int} (h : ¬ wetE m w = 0) : onWet m w ([] : Tx) fmtL = [] := onWet_no h
theorem fmt_ok {n : Mn} (ok : n.Ok) {v : Nat} (hv : v ≤ full n) : onWet n.w (v : Int) ([] : Tx) fmtL = fmtL n v := onWet_ok ok hv
theorem f52 (m : Mw) (w : Int) : ACallsF Tryd.prog 52 [dMw m, i64 w] (.many [.dv (.str (bs (onWet m w [] fmtL))), .dv (i64 (wetE m w))]) := by
  refine callsF_of Tryd.func52 rfl rfl (by rw [Tryd.ntmps52]; simp) fun cx hP hn hg => ?_
  rw [Tryd.ntmps52] at hn
  rw [startF_lk, none_mkM]
  simp only [List.nil_append, List.append_nil, List.cons_append, zipSV, Nat.reduceAdd]
  refine awp_seq ?_
  refine rg ?_
  refine qp m_box ?_
  refine qv m_as ?_
  refine qv m_as ?_
  show AWp cx _ _ _
  refine awp_seq ?_
  refine awp_seq ?_
  refine rg ?_
  refine qv (m_ldpa sz23 ag23) ?_
  refine qv m_mv ?_
  refine qqF (f56 m w) ?_
  refine qv m_as ?_
  show AWp cx _ _ _
  refine awp_seq ?_
  refine rg ?_
  refine qv m_mv ?_
  refine qv m_neq ?_
  show AWp cx _ _ _
  refine cd (fun hc0 => ?_) (fun hc0 => ?_)
  · skip
    have hne : ¬ wetE m w = 0 := by simpa using hc0
    refine awp_seq ?_
    refine rg ?_
    refine qv m_mv ?_
    refine qv m_as ?_
    refine qv m_as ?_
    show AWp cx _ _ _
    refine awp_ret ?_
    exact x2 (hr := (rS_ (by rw [fmt_no hne]))) (hr' := (rI_))
  · skip
    have he : wetE m w = 0 := by simpa using hc0
    obtain ⟨n, v, ok, rfl, rfl, hv⟩ := wetE_ok he
    have hv36 := le36 ok hv
    have hwe := wetE_v ok hv
    refine awp_skip ?_
    show AWp cx _ _ _
    refine awp_seq ?_
    refine rg ?_
    refine qv (m_ldpa sz23 ag23) ?_
    refine qv m_mv ?_
    refine qqF (f87 n ok v hv36) ?_
    refine qv m_as ?_
    refine qv m_as ?_
    show AWp cx _ _ _
    refine awp_ret ?_
    exact x2 (hr := (rS_ (by rw [fmt_ok ok hv]))) (hr' := (rI_ (by rw [hwe])))
set_option maxHeartbeats 4000000 in
theorem f53 (m : Mw) (w : Int) : ACallsF Tryd.prog 53 [dMw m, i64 w] (.many [.dv (.str (bs (onWet m w [] fmtL))), .dv (i64 (wetE m w))]) := by
  refine callsF_of Tryd.func53 rfl rfl (by rw [Tryd.ntmps53]; simp) fun cx hP hn hg => ?_
  rw [Tryd.ntmps53] at hn
  rw [startF_lk, none_mkM]
  simp only [List.nil_append, List.append_nil, List.cons_append, zipSV, Nat.reduceAdd]
  refine awp_seq ?_
  refine rg ?_
  refine qp m_box ?_
  refine qv m_as ?_
  refine qv m_as ?_
  show AWp cx _ _ _
  refine awp_seq ?_
  refine rg ?_
  refine qv (m_ldpa sz23 ag23) ?_
  refine qv m_mv ?_
  refine qqF (f61 m w) ?_
  refine qv m_as ?_
  show AWp cx _ _ _
  refine awp_seq ?_
  refine awp_seq ?_
  refine rg ?_
  refine qv m_mv ?_
  refine qv m_neq ?_
  show AWp cx _ _ _
  refine cd (fun hc0 => ?_) (fun hc0 => ?_)
  · skip
    have hne : ¬ wetE m w = 0 := by simpa using hc0
    refine awp_seq ?_
    refine rg ?_
    refine qv m_mv ?_
    refine qv m_as ?_
    refine qv m_as ?_
    show AWp cx _ _ _
    refine awp_ret ?_
    exact x2 (hr := (rS_ (by rw [fmt_no hne]))) (hr' := (rI_))
  · skip
    have he : wetE m w = 0 := by simpa using hc0
    obtain ⟨n, v, ok, rfl, rfl, hv⟩ := wetE_ok he
    have hv36 := le36 ok hv
    have hwe := wetE_v ok hv
    refine awp_skip ?_
    show AWp cx _ _ _
    refine awp_seq ?_
    have hN := ok.N2
    have hr2 := ok.r2
    have hcc2 := ok.c2
    have hn2 := ok.n2
    have hcpos := ok.c1
    have hd1 := dec_len (show n.r < 10 by omega)
    have hd2 := dec_len (show n.c < 10 by omega)
    have hd3 := dec_len (show n.nd < 10 by omega)
    have hhd := hd_cat ok
    refine rd mixed ?_
    refine zv (m_fdp fd23_0) ?_
    refine zv (m_ldp sz3 ag3) ?_
    refine zqF (R := []) (f88s n.r (by omega)) ?_
    refine zv m_cat ?_
    refine zv m_cat ?_
    refine zv (m_fdp fd23_1) ?_
    refine zv (m_ldp sz3 ag3) ?_
    refine zqF (R := []) (f88s n.c (by omega)) ?_
    refine zv m_cat ?_
    refine zv m_cat ?_
    refine zv (m_fdp fd23_2) ?_
    refine zv (m_ldp sz3 ag3) ?_
    refine zqF (R := []) (f88s n.nd (by omega)) ?_
    refine zv m_cat ?_
    refine zv m_cat ?_
    refine zv m_as ?_
    refine ⟨by rfl, ?_⟩
    show AWp cx _ _ _
    refine awp_seq ?_
    refine awp_seq ?_
    refine rg ?_
    refine qv m_as ?_
    show AWp cx _ _ _
    refine awp_block ?_
    refine awp_loop (ι := Nat) (fun k => ⟨lk [(1, .dv (i64 ((v : Int)))), (2, .pt 2 0 0), (7, .dv (.str (bs (hdL n ++ [10] ++ body n.c v k)))), (8, .dv (i64 (k : Nat)))], mkM [(2, 0, some ⟨[.dv (i64 ((n.r : Int))), .dv (i64 ((n.c : Int))), .dv (i64 ((n.nd : Int)))], 0, 23, 0, false⟩)]⟩) (fun k => k ≤ n.r * n.c) (fun k => n.r * n.c - k) 0 (by simp) (tl [(2, 2)] (hF := by simp [FLe, svLe, lk, mkM, isLive, tauL, body, ← hd_cat ok]) (hM := by simp [MLe, blkLe, svLe, svLes, lk, mkM, isLive, tauL, svLes_ints, svLes_self, isDvs, isDvs_map, isDvs_app, isDvs_take, isDvs_set, isDvs_repl, body, ← hd_cat ok])) ?_
    intro k hφ0
    have hbl := body_len n.c v hcpos k
    have hkd : k / n.c ≤ k := Nat.div_le_self _ _
    have hhl := hdL_len n
    refine awp_seq ?_
    refine awp_seq ?_
    refine rg ?_
    refine qv m_mv ?_
    refine qv (m_ldpa sz23 ag23) ?_
    refine qqF (f62 n ok) ?_
    refine qv m_lss ?_
    show AWp cx _ _ _
    refine cd (fun hc1 => ?_) (fun hc1 => ?_)
    · try simp at hc1
      have hkl : k < n.r * n.c := by omega
      refine awp_skip ?_
      show AWp cx _ _ _
      refine awp_seq ?_
      refine awp_block ?_
      refine awp_seq ?_
      refine awp_seq ?_
      refine rg ?_
      refine qv m_mv ?_
      refine qv m_mv ?_
      refine qqF (f36 v k hv36 (by omega)) ?_
      show AWp cx _ _ _
      refine cd (fun hc2 => ?_) (fun hc2 => ?_)
      · skip
        refine rg ?_
        refine qv m_mv ?_
        refine qv m_cat ?_
        refine qv m_as ?_
        show AWp cx _ _ _
        refine awp_seq ?_
        refine rd mixed ?_
        refine zv m_mv ?_
        refine zv (m_fdp fd23_1) ?_
        refine zv (m_ldp sz3 ag3) ?_
        refine zv m_remN ?_
        refine zv (m_fdp fd23_1) ?_
        refine zv (m_ldp sz3 ag3) ?_
        refine zv m_sub ?_
        refine zv m_eql ?_
        refine ⟨by rfl, ?_⟩
        show AWp cx _ _ _
        refine cd (fun hc3 => ?_) (fun hc3 => ?_)
        · skip
          have h3 : k % n.c = n.c - 1 := by simp at hc3; omega
          have hb := body_s1 (v := v) h3
          rw [hc2] at hb
          simp only [if_true, Bool.false_eq_true, if_false] at hb
          refine rg ?_
          refine qv m_mv ?_
          refine qv m_cat ?_
          refine qv m_as ?_
          show AWp cx _ _ _
          refine rg ?_
          refine qv m_mv ?_
          refine qv m_add ?_
          refine qv m_as ?_
          exact ⟨k + 1, hkl, (by simp only; omega), (tl [(2, 2)] (hF := by simp [FLe, svLe, lk, mkM, isLive, tauL, hb]) (hM := by simp [MLe, blkLe, svLe, svLes, lk, mkM, isLive, tauL, svLes_ints, svLes_self, isDvs, isDvs_map, isDvs_app, isDvs_take, isDvs_set, isDvs_repl, hb]))⟩
        · skip
          have h3 : ¬ k % n.c = n.c - 1 := by simp at hc3; omega
          have hb := body_s0 (v := v) h3
          rw [hc2] at hb
          simp only [if_true, Bool.false_eq_true, if_false] at hb
          refine awp_skip ?_
          show AWp cx _ _ _
          refine rg ?_
          refine qv m_mv ?_
          refine qv m_add ?_
          refine qv m_as ?_
          exact ⟨k + 1, hkl, (by simp only; omega), (tl [(2, 2)] (hF := by simp [FLe, svLe, lk, mkM, isLive, tauL, hb]) (hM := by simp [MLe, blkLe, svLe, svLes, lk, mkM, isLive, tauL, svLes_ints, svLes_self, isDvs, isDvs_map, isDvs_app, isDvs_take, isDvs_set, isDvs_repl, hb]))⟩
      · skip
        refine rg ?_
        refine qv m_mv ?_
        refine qv m_cat ?_
        refine qv m_as ?_
        show AWp cx _ _ _
        refine awp_seq ?_
        refine rd mixed ?_
        refine zv m_mv ?_
        refine zv (m_fdp fd23_1) ?_
        refine zv (m_ldp sz3 ag3) ?_
        refine zv m_remN ?_
        refine zv (m_fdp fd23_1) ?_
        refine zv (m_ldp sz3 ag3) ?_
        refine zv m_sub ?_
        refine zv m_eql ?_
        refine ⟨by rfl, ?_⟩
        show AWp cx _ _ _
        refine cd (fun hc3 => ?_) (fun hc3 => ?_)
        · skip
          have h3 : k % n.c = n.c - 1 := by simp at hc3; omega
          have hb := body_s1 (v := v) h3
          rw [hc2] at hb
          simp only [if_true, Bool.false_eq_true, if_false] at hb
          refine rg ?_
          refine qv m_mv ?_
          refine qv m_cat ?_
          refine qv m_as ?_
          show AWp cx _ _ _
          refine rg ?_
          refine qv m_mv ?_
          refine qv m_add ?_
          refine qv m_as ?_
          exact ⟨k + 1, hkl, (by simp only; omega), (tl [(2, 2)] (hF := by simp [FLe, svLe, lk, mkM, isLive, tauL, hb]) (hM := by simp [MLe, blkLe, svLe, svLes, lk, mkM, isLive, tauL, svLes_ints, svLes_self, isDvs, isDvs_map, isDvs_app, isDvs_take, isDvs_set, isDvs_repl, hb]))⟩
        · skip
          have h3 : ¬ k % n.c = n.c - 1 := by simp at hc3; omega
          have hb := body_s0 (v := v) h3
          rw [hc2] at hb
          simp only [if_true, Bool.false_eq_true, if_false] at hb
          refine awp_skip ?_
          show AWp cx _ _ _
          refine rg ?_
          refine qv m_mv ?_
          refine qv m_add ?_
          refine qv m_as ?_
          exact ⟨k + 1, hkl, (by simp only; omega), (tl [(2, 2)] (hF := by simp [FLe, svLe, lk, mkM, isLive, tauL, hb]) (hM := by simp [MLe, blkLe, svLe, svLes, lk, mkM, isLive, tauL, svLes_ints, svLes_self, isDvs, isDvs_map, isDvs_app, isDvs_take, isDvs_set, isDvs_repl, hb]))⟩
    · try simp at hc1
      refine awp_exit ?_
      show AWp cx _ _ _
      refine awp_seq ?_
      refine rg ?_
      refine qv m_mv ?_
      refine qv m_as ?_
      refine qv m_as ?_
      show AWp cx _ _ _
      refine awp_ret ?_
      obtain rfl : k = n.r * n.c := by omega
      exact x2 (hr := (rS_ (by rw [fmt_ok ok hv]; rfl))) (hr' := (rI_ (by rw [hwe])))
end Go.Ab.Tryd
