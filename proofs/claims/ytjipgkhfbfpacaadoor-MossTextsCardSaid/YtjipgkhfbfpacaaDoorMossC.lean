/- Moss4, Moss5, Moss6. -/
import Derived.Test.YtjipgkhfbfpacaaDoorMossB
import Derived.Test.YtjipgkhfbfpacaaDoorMossFacts
import Derived.Test.YtjipgkhfbfpacaaDoorMossD
import Derived.Test.YtjipgkhfbfpacaaDoorAbG
set_option linter.all false
namespace Go.Ab.Tryd
open Go Go.Ab Go.Proofs Go.Ab.Moss
theorem sq_get {N c k : Nat} {x : List DV} (h : ((List.range N).map (sqArg c))[k]? = some x) : k < N ∧ x = sqArg c k := by
  rw [List.getElem?_map, Option.map_eq_some_iff] at h
  obtain ⟨j, hj, rfl⟩ := h
  obtain ⟨h1, h2⟩ := List.getElem?_eq_some_iff.1 hj
  simp at h1 h2
  subst h2
  exact ⟨h1, rfl⟩
theorem from_wet {n : Mn} {w : Int} (h : fromB w 0 (full n) = true) : ∃ v : Nat, v ≤ full n ∧ w = (v : Int) := by
  simp only [fromB, Bool.and_eq_true, decide_eq_true_eq] at h
  exact ⟨w.toNat, by omega, by omega⟩
theorem f24 (m : Mw) : ACallsF Tryd.prog 24 [dMw m] (.one (.dv (i64 (valid m)))) := by
  refine callsF_of Tryd.func24 rfl rfl (by rw [Tryd.ntmps24]; simp) fun cx hP hn hg => ?_
  rw [Tryd.ntmps24] at hn
  rw [startF_lk, none_mkM]
  simp only [List.nil_append, List.append_nil, List.cons_append, zipSV, Nat.reduceAdd]
  refine awp_seq ?_
  refine rg ?_
  refine qp m_box ?_
  refine qv m_as ?_
  show AWp cx _ _ _
  refine awp_seq ?_
  refine awp_seq ?_
  refine rg ?_
  refine qv (m_fdp fd23_0) ?_
  refine qv (m_ldp sz3 ag3) ?_
  refine qqF (f68 m.rows 1 6) ?_
  refine qv m_not ?_
  refine qx m_mv (fun hg7 => ?_) (fun hg7 => ?_)
  · try simp at hg7
    refine qk ?_
    refine qk ?_
    refine qk ?_
    refine qk ?_
    refine qv m_pk ?_
    refine qv m_mv ?_
    refine qk ?_
    refine qk ?_
    refine qk ?_
    refine qk ?_
    refine qv m_pk ?_
    show AWp cx _ _ _
    refine cdT (hb := by first | rfl | simp | simp_all) (ht := ?_)
    refine awp_seq ?_
    refine rg ?_
    refine qv m_as ?_
    show AWp cx _ _ _
    refine awp_ret ?_
    exact x1 (hr := (rI_ (by simp_all [valid, validB])))
  · try simp at hg7
    refine qv (m_fdp fd23_1) ?_
    refine qv (m_ldp sz3 ag3) ?_
    refine qqF (f68 m.cols 1 6) ?_
    refine qv m_not ?_
    refine qv m_pk ?_
    refine qx m_mv (fun hg13 => ?_) (fun hg13 => ?_)
    · try simp at hg13
      refine qk ?_
      refine qk ?_
      refine qk ?_
      refine qk ?_
      refine qv m_pk ?_
      show AWp cx _ _ _
      refine cdT (hb := by first | rfl | simp | simp_all) (ht := ?_)
      refine awp_seq ?_
      refine rg ?_
      refine qv m_as ?_
      show AWp cx _ _ _
      refine awp_ret ?_
      exact x1 (hr := (rI_ (by simp_all [valid, validB])))
    · try simp at hg13
      refine qv (m_fdp fd23_2) ?_
      refine qv (m_ldp sz3 ag3) ?_
      refine qqF (f68 m.need 1 3) ?_
      refine qv m_not ?_
      refine qv m_pk ?_
      show AWp cx _ _ _
      refine cd (fun hc0 => ?_) (fun hc0 => ?_)
      · try simp at hc0
        refine awp_seq ?_
        refine rg ?_
        refine qv m_as ?_
        show AWp cx _ _ _
        refine awp_ret ?_
        exact x1 (hr := (rI_ (by simp_all [valid, validB])))
      · try simp at hc0
        refine awp_skip ?_
        show AWp cx _ _ _
        refine awp_seq ?_
        refine rg ?_
        refine qv m_as ?_
        show AWp cx _ _ _
        refine awp_ret ?_
        exact x1 (hr := (rI_ (by simp_all [valid, validB])))
theorem f25 (m : Mw) : ACallsF Tryd.prog 25 [dMw m] (.one (.dv (i64 (valid m)))) := by
  refine callsF_of Tryd.func25 rfl rfl (by rw [Tryd.ntmps25]; simp) fun cx hP hn hg => ?_
  rw [Tryd.ntmps25] at hn
  rw [startF_lk, none_mkM]
  simp only [List.nil_append, List.append_nil, List.cons_append, zipSV, Nat.reduceAdd]
  refine awp_seq ?_
  refine rg ?_
  refine qp m_box ?_
  refine qv m_as ?_
  show AWp cx _ _ _
  refine awp_seq ?_
  refine awp_seq ?_
  refine rg ?_
  refine qv (m_fdp fd23_0) ?_
  refine qv (m_ldp sz3 ag3) ?_
  refine qqF (f66 m.rows 1 6) ?_
  refine qv m_not ?_
  refine qx m_mv (fun hg7 => ?_) (fun hg7 => ?_)
  · try simp at hg7
    refine qk ?_
    refine qk ?_
    refine qk ?_
    refine qk ?_
    refine qv m_pk ?_
    refine qv m_mv ?_
    refine qk ?_
    refine qk ?_
    refine qk ?_
    refine qk ?_
    refine qv m_pk ?_
    show AWp cx _ _ _
    refine cdT (hb := by first | rfl | simp | simp_all) (ht := ?_)
    refine awp_seq ?_
    refine rg ?_
    refine qv m_as ?_
    show AWp cx _ _ _
    refine awp_ret ?_
    exact x1 (hr := (rI_ (by simp_all [valid, validB])))
  · try simp at hg7
    refine qv (m_fdp fd23_1) ?_
    refine qv (m_ldp sz3 ag3) ?_
    refine qqF (f66 m.cols 1 6) ?_
    refine qv m_not ?_
    refine qv m_pk ?_
    refine qx m_mv (fun hg13 => ?_) (fun hg13 => ?_)
    · try simp at hg13
      refine qk ?_
      refine qk ?_
      refine qk ?_
      refine qk ?_
      refine qv m_pk ?_
      show AWp cx _ _ _
      refine cdT (hb := by first | rfl | simp | simp_all) (ht := ?_)
      refine awp_seq ?_
      refine rg ?_
      refine qv m_as ?_
      show AWp cx _ _ _
      refine awp_ret ?_
      exact x1 (hr := (rI_ (by simp_all [valid, validB])))
    · try simp at hg13
      refine qv (m_fdp fd23_2) ?_
      refine qv (m_ldp sz3 ag3) ?_
      refine qqF (f66 m.need 1 3) ?_
      refine qv m_not ?_
      refine qv m_pk ?_
      show AWp cx _ _ _
      refine cd (fun hc0 => ?_) (fun hc0 => ?_)
      · try simp at hc0
        refine awp_seq ?_
        refine rg ?_
        refine qv m_as ?_
        show AWp cx _ _ _
        refine awp_ret ?_
        exact x1 (hr := (rI_ (by simp_all [valid, validB])))
      · try simp at hc0
        refine awp_skip ?_
        show AWp cx _ _ _
        refine awp_seq ?_
        refine rg ?_
        refine qv m_as ?_
        show AWp cx _ _ _
        refine awp_ret ?_
        exact x1 (hr := (rI_ (by simp_all [valid, validB])))
theorem f62 (n : Mn) (ok : n.Ok) : ACallsF Tryd.prog 62 [dMn n] (.one (.dv (i64 ((n.r * n.c : Nat) : Int)))) := by
  have hN := ok.N2
  refine callsF_of Tryd.func62 rfl rfl (by rw [Tryd.ntmps62]; simp) fun cx hP hn hg => ?_
  rw [Tryd.ntmps62] at hn
  rw [startF_lk, none_mkM]
  simp only [List.nil_append, List.append_nil, List.cons_append, zipSV, Nat.reduceAdd]
  refine awp_seq ?_
  refine rg ?_
  refine qp m_box ?_
  refine qv m_as ?_
  show AWp cx _ _ _
  refine awp_seq ?_
  refine rg ?_
  refine qv (m_fdp fd23_0) ?_
  refine qv (m_ldp sz3 ag3) ?_
  refine qv (m_fdp fd23_1) ?_
  refine qv (m_ldp sz3 ag3) ?_
  refine qv m_mulN ?_
  refine qv m_as ?_
  show AWp cx _ _ _
  refine awp_ret ?_
  exact x1 (hr := (rI_))
theorem f72 (n : Mn) (ok : n.Ok) : ACallsF Tryd.prog 72 [dMn n] (.one (.dv (i64 (full n : Int)))) := by
  have hN := ok.N2
  have hf := full_add (n := n)
  have hlt := full_lt ok
  refine callsF_of Tryd.func72 rfl rfl (by rw [Tryd.ntmps72]; simp) fun cx hP hn hg => ?_
  rw [Tryd.ntmps72] at hn
  rw [startF_lk, none_mkM]
  simp only [List.nil_append, List.append_nil, List.cons_append, zipSV, Nat.reduceAdd]
  refine awp_seq ?_
  refine rg ?_
  refine qp m_box ?_
  refine qv m_as ?_
  show AWp cx _ _ _
  refine awp_seq ?_
  refine rg ?_
  refine qv (m_ldpa sz23 ag23) ?_
  refine qqF (f62 n ok) ?_
  refine qv (m_cnvU kd3 kd41) ?_
  refine qv (m_shlS (n.r * n.c)) ?_
  refine qv (m_subN (full n)) ?_
  refine qv m_as ?_
  show AWp cx _ _ _
  refine awp_ret ?_
  exact x1 (hr := (rI_))
def wetE (m : Mw) (w : Int) : Int := if validB m then (if fromB w 0 (2 ^ (m.rows * m.cols).toNat - 1) then 0 else 1) else 1
theorem wetE_n {n : Mn} (ok : n.Ok) {w : Int} : wetE n.w w = if fromB w 0 (full n) then 0 else 1 := by
  have e : (2 ^ ((n.r : Int) * (n.c : Int)).toNat - 1 : Int) = ((full n : Nat) : Int) := by
    rw [← Int.natCast_mul, Int.toNat_natCast]
    have := full_add (n := n)
    have h2 : (2 : Int) ^ (n.r * n.c) = ((2 ^ (n.r * n.c) : Nat) : Int) := by norm_cast
    rw [h2]; omega
  simp only [wetE, n_valid ok, if_true]
  rw [show (n.w.rows * n.w.cols) = (n.r : Int) * (n.c : Int) from rfl, e]
theorem wetE_ok {m : Mw} {w : Int} (h : wetE m w = 0) : ∃ (n : Mn) (v : Nat), n.Ok ∧ m = n.w ∧ w = (v : Int) ∧ v ≤ full n := by
  by_cases hv : validB m = true
  · obtain ⟨n, ok, rfl⟩ := valid_n hv
    rw [wetE_n ok] at h
    split at h
    · rename_i h1
      obtain ⟨v, h2, h3⟩ := from_wet h1
      exact ⟨n, v, ok, rfl, h3, h2⟩
    · cases h
  · simp [wetE, hv] at h
theorem f56 (m : Mw) (w : Int) : ACallsF Tryd.prog 56 [dMw m, i64 w] (.one (.dv (i64 (wetE m w)))) := by
  refine callsF_of Tryd.func56 rfl rfl (by rw [Tryd.ntmps56]; simp) fun cx hP hn hg => ?_
  rw [Tryd.ntmps56] at hn
  rw [startF_lk, none_mkM]
  simp only [List.nil_append, List.append_nil, List.cons_append, zipSV, Nat.reduceAdd]
  refine awp_seq ?_
  refine rg ?_
  refine qp m_box ?_
  refine qv m_as ?_
  show AWp cx _ _ _
  refine awp_seq ?_
  refine awp_seq ?_
  refine rg ?_
  refine qv (m_ldpa sz23 ag23) ?_
  refine qqF (f24 m) ?_
  refine qv m_as ?_
  show AWp cx _ _ _
  refine awp_seq ?_
  refine rg ?_
  refine qv m_mv ?_
  refine qv m_neq ?_
  show AWp cx _ _ _
  refine cd (fun hc0 => ?_) (fun hc0 => ?_)
  · skip
    have hv : validB m = false := by simpa [valid] using hc0
    refine awp_seq ?_
    refine rg ?_
    refine qv m_mv ?_
    refine qv m_as ?_
    show AWp cx _ _ _
    refine awp_ret ?_
    exact x1 (hr := (rI_ (by simp [wetE, valid, hv])))
  · skip
    have hv : validB m = true := by simpa [valid] using hc0
    obtain ⟨n, ok, rfl⟩ := valid_n hv
    have hw := wetE_n ok (w := w)
    refine awp_skip ?_
    show AWp cx _ _ _
    refine awp_seq ?_
    refine awp_seq ?_
    refine rg ?_
    refine qv m_mv ?_
    refine qv (m_ldpa sz23 ag23) ?_
    refine qqF (f78 n ok) ?_
    refine qqF (f68 w 0 (full n)) ?_
    refine qv m_not ?_
    show AWp cx _ _ _
    refine cd (fun hc1 => ?_) (fun hc1 => ?_)
    · try simp at hc1
      refine awp_seq ?_
      refine rg ?_
      refine qv m_as ?_
      show AWp cx _ _ _
      refine awp_ret ?_
      exact x1 (hr := (rI_ (by simp_all)))
    · try simp at hc1
      refine awp_skip ?_
      show AWp cx _ _ _
      refine awp_seq ?_
      refine rg ?_
      refine qv m_as ?_
      show AWp cx _ _ _
      refine awp_ret ?_
      exact x1 (hr := (rI_ (by simp_all)))
theorem f61 (m : Mw) (w : Int) : ACallsF Tryd.prog 61 [dMw m, i64 w] (.one (.dv (i64 (wetE m w)))) := by
  refine callsF_of Tryd.func61 rfl rfl (by rw [Tryd.ntmps61]; simp) fun cx hP hn hg => ?_
  rw [Tryd.ntmps61] at hn
  rw [startF_lk, none_mkM]
  simp only [List.nil_append, List.append_nil, List.cons_append, zipSV, Nat.reduceAdd]
  refine awp_seq ?_
  refine rg ?_
  refine qp m_box ?_
  refine qv m_as ?_
  show AWp cx _ _ _
  refine awp_seq ?_
  refine rg ?_
  refine qv (m_ldpa sz23 ag23) ?_
  refine qqF (f25 m) ?_
  refine qv m_as ?_
  show AWp cx _ _ _
  refine awp_seq ?_
  refine awp_seq ?_
  refine rg ?_
  refine qv m_mv ?_
  refine qv m_neq ?_
  show AWp cx _ _ _
  refine cd (fun hc0 => ?_) (fun hc0 => ?_)
  · skip
    have hv : validB m = false := by simpa [valid] using hc0
    refine awp_seq ?_
    refine rg ?_
    refine qv m_mv ?_
    refine qv m_as ?_
    show AWp cx _ _ _
    refine awp_ret ?_
    exact x1 (hr := (rI_ (by simp [wetE, valid, hv])))
  · skip
    have hv : validB m = true := by simpa [valid] using hc0
    obtain ⟨n, ok, rfl⟩ := valid_n hv
    have hw := wetE_n ok (w := w)
    refine awp_skip ?_
    show AWp cx _ _ _
    refine awp_seq ?_
    refine awp_seq ?_
    refine rg ?_
    refine qv m_mv ?_
    refine qv (m_ldpa sz23 ag23) ?_
    refine qqF (f72 n ok) ?_
    refine qqF (f66 w 0 (full n)) ?_
    refine qv m_not ?_
    show AWp cx _ _ _
    refine cd (fun hc1 => ?_) (fun hc1 => ?_)
    · try simp at hc1
      refine awp_seq ?_
      refine rg ?_
      refine qv m_as ?_
      show AWp cx _ _ _
      refine awp_ret ?_
      exact x1 (hr := (rI_ (by simp_all)))
    · try simp at hc1
      refine awp_skip ?_
      show AWp cx _ _ _
      refine awp_seq ?_
      refine rg ?_
      refine qv m_as ?_
      show AWp cx _ _ _
      refine awp_ret ?_
      exact x1 (hr := (rI_ (by simp_all)))
theorem f92 (n : Mn) : ACalls Tryd.prog 92 [dMn n] (.one (.dv (.fn 103 [] [.cptr [i64 (n.r : Int), i64 (n.c : Int), i64 (n.nd : Int)]]))) := by
  refine callsA_of Tryd.func92 rfl rfl (by rw [Tryd.ntmps92]; simp) fun cx hP hn hg => ?_
  rw [Tryd.ntmps92] at hn
  rw [startF_lk, none_mkM]
  simp only [List.nil_append, List.append_nil, List.cons_append, zipSV, Nat.reduceAdd]
  refine awp_seq ?_
  refine rg ?_
  refine qp m_box ?_
  refine qv m_as ?_
  show AWp cx _ _ _
  refine awp_seq ?_
  refine rg ?_
  refine qfn ?_
  refine qv m_as ?_
  show AWp cx _ _ _
  refine awp_ret ?_
  exact x1 (hr := (rD_))
end Go.Ab.Tryd
set_option linter.all false
namespace Go.Ab.Tryd
open Go Go.Ab Go.Proofs Go.Ab.Moss
theorem sq_seq {n : Mn} (ok : n.Ok) : ASeq Tryd.prog 103 [.cptr [i64 (n.r : Int), i64 (n.c : Int), i64 (n.nd : Int)]] ((List.range (n.r * n.c)).map (sqArg n.c)) := Go.Proofs.Tryd.squares_seq n.r n.c n.nd ⟨ok.r1, ok.r2⟩ ⟨ok.c1, ok.c2⟩
theorem f64 (n : Mn) (ok : n.Ok) (w : Nat) (hw : w < 68719476736) : ACallsF Tryd.prog 64 [dMn n, i64 (w : Int)] (.one (.dv (i64 (rdN n w : Int)))) := by
  have hN := ok.N2
  refine callsR_of (ds := [i64 (rdN n w : Int)]) Tryd.func64 rfl rfl (by rw [Tryd.ntmps64]; simp) fun cx hP hn hg hrn hdq hfin => ?_
  rw [Tryd.ntmps64] at hn
  rw [startF_lk, none_mkM]
  simp only [List.nil_append, List.append_nil, List.cons_append, zipSV, Nat.reduceAdd]
  refine awp_seq ?_
  refine rg ?_
  refine qp m_box ?_
  refine qp m_box ?_
  refine qv m_as ?_
  show AWp cx _ _ _
  refine awp_seq ?_
  refine rg ?_
  refine qp (m_al ze3) ?_
  refine qs (m_st sz3) ?_
  show AWp cx _ _ _
  refine awp_seq_seq_rf ?_
  refine rg ?_
  refine qv (m_ldpa sz23 ag23) ?_
  refine qqA (f92 n) ?_
  show RfOk cx _ _ _ _
  refine rgf hg hrn hdq hfin hP hn (sq_seq ok) (l := [(2, .pt 2 0 0), (3, .pt 3 0 0), (5, .pt 5 0 0), (8, .dv (.fn 103 [] [.cptr [i64 (n.r : Int), i64 (n.c : Int), i64 (n.nd : Int)]]))]) (fun k => [(2, 0, some ⟨[.dv (i64 (n.r)), .dv (i64 (n.c)), .dv (i64 (n.nd))], 0, 23, 0, false⟩), (3, 0, some ⟨[.dv (i64 ((w : Int)))], 0, 3, 0, false⟩), (5, 0, some ⟨[.dv (i64 ((bset (rdB n w) k : Nat) : Int))], 0, 3, 0, false⟩)]) (tl [(2, 2), (3, 3), (5, 5)] (hF := by simp [FLe, svLe, lk, mkM, isLive, tauL, bset]) (hM := by simp [MLe, blkLe, svLe, svLes, lk, mkM, isLive, tauL, svLes_ints, svLes_self, isDvs, isDvs_map, isDvs_app, isDvs_take, isDvs_set, isDvs_repl, bset])) (fun k x hx => ?_) fun cx2 hP2 hn2 hg2 => ?_
  · obtain ⟨hk, rfl⟩ := sq_get hx
    refine roundL (P := Tryd.prog) (N := 31) [(2, 2), (3, 3), (5, 5)] [(2, ⟨[.dv (i64 (n.r)), .dv (i64 (n.c)), .dv (i64 (n.nd))], 0, 23, 5, false⟩), (3, ⟨[.dv (i64 ((w : Int)))], 0, 3, 6, false⟩), (5, ⟨[.dv (i64 ((bset (rdB n w) k : Nat) : Int))], 0, 3, 8, false⟩)] [(2, ⟨[.dv (i64 (n.r)), .dv (i64 (n.c)), .dv (i64 (n.nd))], 0, 23, 5, false⟩), (3, ⟨[.dv (i64 ((w : Int)))], 0, 3, 6, false⟩), (5, ⟨[.dv (i64 ((bset (rdB n w) (k + 1) : Nat) : Int))], 0, 3, 8, false⟩)] [2, 3, 5] [(2, .pt 2 0 0), (3, .pt 3 0 0), (5, .pt 5 0 0), (8, .dv (.fn 103 [] [.cptr [i64 (n.r : Int), i64 (n.c : Int), i64 (n.nd : Int)]]))] (hle := (tl [(2, 2), (3, 3), (5, 5)] (hF := by simp [FLe, svLe, lk, mkM, isLive, tauL, bset]) (hM := by simp [MLe, blkLe, svLe, svLes, lk, mkM, isLive, tauL, svLes_ints, svLes_self, isDvs, isDvs_map, isDvs_app, isDvs_take, isDvs_set, isDvs_repl, bset]))) (k := fun cx1 hP1 hn1 hg1 => ?_)
    show AWp cx1 _ _ ⟨lk [(10, .dv (.agg [i64 ((k / n.c : Nat) : Int), i64 ((k % n.c : Nat) : Int)])), (9, .dv (i64 ((k : Nat)))), (2, .pt 2 0 0), (3, .pt 3 0 0), (5, .pt 5 0 0), (8, .dv (.fn 103 [] [.cptr [i64 (n.r : Int), i64 (n.c : Int), i64 (n.nd : Int)]]))], mkM [(2, 0, some ⟨[.dv (i64 (n.r)), .dv (i64 (n.c)), .dv (i64 (n.nd))], 0, 23, 5, false⟩), (3, 0, some ⟨[.dv (i64 ((w : Int)))], 0, 3, 6, false⟩), (5, 0, some ⟨[.dv (i64 ((bset (rdB n w) k : Nat) : Int))], 0, 3, 8, false⟩)]⟩
    have hb36 := bset_lt36 (p := rdB n w) (k := k) (by omega)
    have har := arN_lt ok hk
    refine rg ?_
    refine qv m_as ?_
    refine asg fun cx1 hP1 hn1 hg1 => ?_
    refine awp_block ?_
    refine awp_seq ?_
    refine rd mixed ?_
    refine zv (m_ldp sz3 ag3) ?_
    refine zv m_mv ?_
    refine zqF (R := []) (f77 w k hw (by omega)) ?_
    refine zv m_not ?_
    refine zx m_mv (fun hg15 => ?_) (fun hg15 => ?_)
    · try simp at hg15
      refine zv (m_ldpa sz23 ag23) ?_
      refine zv m_mv ?_
      refine zqF (R := []) (f60 n ok k hk) ?_
      refine zv (m_ldp sz3 ag3) ?_
      refine zv m_andS ?_
      refine zqF (R := []) (f59 (arN n k &&& w) (by exact and36 har)) ?_
      refine zv (m_fdp fd23_2) ?_
      refine zv (m_ldp sz3 ag3) ?_
      refine zv m_geq ?_
      refine zv m_pk ?_
      refine ⟨by rfl, ?_⟩
      show AWp cx1 _ _ _
      refine cd (fun hc0 => ?_) (fun hc0 => ?_)
      · try simp at hc0
        refine rd mixed ?_
        first | refine zv (m_ldI sz3 ag3) ?_ | refine zv (m_ldp sz3 ag3) ?_
        refine zv m_mv ?_
        refine zv (m_shlS k) ?_
        refine zv m_orS ?_
        first | refine zs (m_stI sz3) ?_ | refine zs (m_st sz3) ?_
        refine ⟨by rfl, ?_⟩
        have hb : bset (rdB n w) (k + 1) = bset (rdB n w) k ||| 2 ^ k := by simp [bset, rdB, hg15, hc0]
        exact rend (tl [(2, 2), (3, 3), (5, 5)] (hF := by simp [FLe, svLe, lk, mkM, isLive, tauL, hb]) (hM := by simp [MLe, blkLe, svLe, svLes, lk, mkM, isLive, tauL, svLes_ints, svLes_self, isDvs, isDvs_map, isDvs_app, isDvs_take, isDvs_set, isDvs_repl, hb]))
      · try simp at hc0
        refine awp_skip ?_
        have hr : rdB n w k = false := by simp [rdB, hg15]; omega
        have hb : bset (rdB n w) (k + 1) = bset (rdB n w) k := by simp [bset, hr]
        exact rend (tl [(2, 2), (3, 3), (5, 5)] (hF := by simp [FLe, svLe, lk, mkM, isLive, tauL, hb]) (hM := by simp [MLe, blkLe, svLe, svLes, lk, mkM, isLive, tauL, svLes_ints, svLes_self, isDvs, isDvs_map, isDvs_app, isDvs_take, isDvs_set, isDvs_repl, hb]))
    · try simp at hg15
      refine zk ?_
      refine zk ?_
      refine zk ?_
      refine zk ?_
      refine zk ?_
      refine zk ?_
      refine zk ?_
      refine zk ?_
      refine zk ?_
      refine zv m_pk ?_
      refine ⟨by rfl, ?_⟩
      show AWp cx1 _ _ _
      refine cdF (hb := by first | rfl | simp | simp_all) (ht := ?_)
      refine awp_skip ?_
      have hb : bset (rdB n w) (k + 1) = bset (rdB n w) k := by simp [bset, rdB, hg15]
      exact rend (tl [(2, 2), (3, 3), (5, 5)] (hF := by simp [FLe, svLe, lk, mkM, isLive, tauL, hb]) (hM := by simp [MLe, blkLe, svLe, svLes, lk, mkM, isLive, tauL, svLes_ints, svLes_self, isDvs, isDvs_map, isDvs_app, isDvs_take, isDvs_set, isDvs_repl, hb]))
  · try rw [List.length_map, List.length_range]
    refine awp_seq ?_
    refine rg ?_
    refine qv (m_ldp sz3 ag3) ?_
    refine qv m_as ?_
    show AWp cx2 _ _ _
    refine awp_ret ?_
    exact xs1
theorem rdN_bit {n : Mn} {w i : Nat} : (rdN n w).testBit i = (decide (i < n.r * n.c) && rdB n w i) := testBit_bset _ _ _
theorem rd_dry {n : Mn} {w i : Nat} (h : (rdN n w).testBit i = true) : w.testBit i = false := by
  rw [rdN_bit] at h
  simp only [rdB, Bool.and_eq_true, Bool.not_eq_true'] at h
  exact h.2.1
def dryC (n : Mn) (w : Nat) : Nat := (List.range (n.r * n.c)).countP fun i => !w.testBit i
theorem dryC_lt {n : Mn} {w : Nat} (h : rdN n w ≠ 0) : dryC n (w ||| rdN n w) < dryC n w := by
  obtain ⟨i, hi⟩ := Nat.exists_testBit_of_ne_zero h
  have hd := rd_dry hi
  rw [rdN_bit, Bool.and_eq_true, decide_eq_true_eq] at hi
  refine countP_lt _ i (List.mem_range.2 hi.1) (fun k _ hk => ?_) (by simp [hd]) (by simp [rdN_bit, hi.1, hi.2])
  simp only [Nat.testBit_or, Bool.not_or, Bool.and_eq_true] at hk
  exact hk.1
def spr (n : Mn) (w : Nat) : Nat × Nat := if h : rdN n w = 0 then (w, 0) else
  have := dryC_lt h
  ((spr n (w ||| rdN n w)).1, (spr n (w ||| rdN n w)).2 + 1)
termination_by dryC n w
theorem spr_zero {n : Mn} {w : Nat} (h : rdN n w = 0) : spr n w = (w, 0) := by rw [spr]; simp [h]
theorem spr_step {n : Mn} {w : Nat} (h : rdN n w ≠ 0) : spr n w = ((spr n (w ||| rdN n w)).1, (spr n (w ||| rdN n w)).2 + 1) := by rw [spr]; simp [h]
theorem dryC_le {n : Mn} {w : Nat} : dryC n w ≤ n.r * n.c := Nat.le_trans List.countP_le_length (by simp)
theorem spr_lt {n : Mn} (ok : n.Ok) : ∀ (f w : Nat), dryC n w ≤ f → w < 68719476736 → (spr n w).1 < 68719476736 ∧ (spr n w).2 ≤ f
  | 0, w, h, hw => by
    have : rdN n w = 0 := by
      rcases Nat.eq_zero_or_pos (rdN n w) with h0 | h0
      · exact h0
      · have := dryC_lt (n := n) (w := w) (by omega); omega
    rw [spr_zero this]; exact ⟨hw, Nat.le_refl _⟩
  | f + 1, w, h, hw => by
    by_cases h0 : rdN n w = 0
    · rw [spr_zero h0]; exact ⟨hw, Nat.zero_le _⟩
    · have h1 := dryC_lt h0
      have h2 := spr_lt ok f (w ||| rdN n w) (by omega) (or36 hw (rdN_lt ok))
      rw [spr_step h0]
      exact ⟨h2.1, by simp only; omega⟩
theorem f57 (n : Mn) (ok : n.Ok) (w0 : Nat) (hw0 : w0 < 68719476736) : ACallsF Tryd.prog 57 [dMn n, i64 (w0 : Int)] (.many [.dv (i64 ((spr n w0).1 : Int)), .dv (i64 ((spr n w0).2 : Int))]) := by
  have hN := ok.N2
  have hb0 := spr_lt ok _ w0 (Nat.le_refl _) hw0
  have hd0 := dryC_le (n := n) (w := w0)
  refine callsF_of Tryd.func57 rfl rfl (by rw [Tryd.ntmps57]; simp) fun cx hP hn hg => ?_
  rw [Tryd.ntmps57] at hn
  rw [startF_lk, none_mkM]
  simp only [List.nil_append, List.append_nil, List.cons_append, zipSV, Nat.reduceAdd]
  refine awp_seq ?_
  refine rg ?_
  refine qp m_box ?_
  refine qv m_as ?_
  refine qv m_as ?_
  show AWp cx _ _ _
  refine awp_seq ?_
  refine rg ?_
  refine qv m_as ?_
  show AWp cx _ _ _
  refine awp_block ?_
  refine awp_loop (ι := Nat × Nat) (fun q => ⟨lk [(1, .dv (i64 (q.1 : Nat))), (2, .pt 2 0 0), (6, .dv (i64 (q.2 : Nat)))], mkM [(2, 0, some ⟨[.dv (i64 (n.r)), .dv (i64 (n.c)), .dv (i64 (n.nd))], 0, 23, 0, false⟩)]⟩) (fun q => q.1 < 68719476736 ∧ spr n w0 = ((spr n q.1).1, (spr n q.1).2 + q.2)) (fun q => dryC n q.1) (w0, 0) ⟨hw0, rfl⟩ (tl [(2, 2)]) ?_
  intro q hφ0
  obtain ⟨hq1, hq2⟩ := hφ0
  refine awp_seq ?_
  refine awp_block ?_
  refine awp_seq ?_
  refine rg ?_
  refine qv (m_ldpa sz23 ag23) ?_
  refine qv m_mv ?_
  refine qqF (f64 n ok q.1 hq1) ?_
  refine qv m_as ?_
  show AWp cx _ _ _
  refine awp_seq ?_
  refine awp_seq ?_
  refine rg ?_
  refine qv m_mv ?_
  refine qv m_eql ?_
  show AWp cx _ _ _
  refine cd (fun hc0 => ?_) (fun hc0 => ?_)
  · skip
    have h0 : rdN n q.1 = 0 := by simpa using hc0
    rw [spr_zero h0] at hq2
    refine awp_seq ?_
    refine rg ?_
    refine qv m_mv ?_
    refine qv m_mv ?_
    refine qv m_as ?_
    refine qv m_as ?_
    show AWp cx _ _ _
    refine awp_ret ?_
    exact x2 (hr := (rI_ (by rw [hq2]))) (hr' := (rI_ (by rw [hq2]; simp)))
  · skip
    have h0 : rdN n q.1 ≠ 0 := by simpa using hc0
    refine awp_skip ?_
    show AWp cx _ _ _
    refine rg ?_
    refine qv m_mv ?_
    refine qv m_mv ?_
    refine qv (m_orS (hb := rdN_lt ok)) ?_
    refine qv m_as ?_
    show AWp cx _ _ _
    refine rg ?_
    refine qv m_mv ?_
    refine qv (m_addN (b := 1) (ha := by have := congrArg Prod.snd hq2; simp only at this; omega)) ?_
    refine qv m_as ?_
    exact ⟨(q.1 ||| rdN n q.1, q.2 + 1), ⟨or36 hq1 (rdN_lt ok), by rw [hq2, spr_step h0]; simp only [Prod.mk.injEq, true_and]; omega⟩, dryC_lt h0, (tl [(2, 2)])⟩
end Go.Ab.Tryd
set_option linter.all false
namespace Go.Ab.Tryd
open Go Go.Ab Go.Proofs Go.Ab.Moss
theorem take_snoc {α : Type} {l : List α} {i : Nat} {x : α} (h : l[i]? = some x) : l.take (i + 1) = l.take i ++ [x] := by
  rw [List.take_succ, h]; rfl
end Go.Ab.Tryd
