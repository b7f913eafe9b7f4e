/- Moss4, Moss5, Moss6. -/
import Derived.Test.YtjipgkhfbfpacaaDoorMossB
import Derived.Test.YtjipgkhfbfpacaaDoorMossFacts
import Derived.Test.YtjipgkhfbfpacaaDoorMossD
import Derived.Test.YtjipgkhfbfpacaaDoorAbG
set_option linter.all false
namespace Go.Ab.Tryd
open Go Go.Ab Go.Proofs Go.Ab.Moss

theorem sq_get {N c k : Nat} {x : List DV} (h : ((List.range N).map (sqArg c))[k]? = some x) : k < N ∧ x = sqArg c k := by
  rw [List.getElem?_map, Option.map_eq_some_iff] at h
  obtain ⟨j, hj, rfl⟩ := h
  obtain ⟨h1, h2⟩ := List.getElem?_eq_some_iff.1 hj
  simp at h1 h2
  subst h2
  exact ⟨h1, rfl⟩
theorem sq_len {N c : Nat} : ((List.range N).map (sqArg c)).length = N := by simp
theorem from_wet {n : Mn} {w : Int} (h : fromB w 0 (full n) = true) : ∃ v : Nat, v ≤ full n ∧ w = (v : Int) := by
  simp only [fromB, Bool.and_eq_true, decide_eq_true_eq] at h
  exact ⟨w.toNat, by omega, by omega⟩
theorem valid_ne {m : Mw} (h : validB m = false) : ¬ (validB m = true) := by simp [h]


theorem f24 (m : Mw) : ACallsF Tryd.prog 24 [dMw m] (.one (.dv (i64 (valid m)))) := by
  refine callsF_of Tryd.func24 rfl rfl (by rw [Tryd.ntmps24]; simp) fun cx hP hn hg => ?_
  rw [Tryd.ntmps24] at hn
  rw [startF_lk, none_mkM]
  simp only [List.nil_append, List.append_nil, List.cons_append, zipSV, Nat.reduceAdd]
  refine awp_seq ?_
  refine rg ?_
  refine qp m_box ?_
  refine qv m_as ?_
  show AWp cx _ _ _
  refine awp_seq ?_
  refine awp_seq ?_
  refine rg ?_
  refine qv (m_fdp fd23_0) ?_
  refine qv (m_ldp sz3 ag3) ?_
  refine qqF (f68 m.rows 1 6) ?_
  refine qv m_not ?_
  refine qx m_mv (fun hg7 => ?_) (fun hg7 => ?_)
  · try simp at hg7
    refine qk ?_
    refine qk ?_
    refine qk ?_
    refine qk ?_
    refine qv m_pk ?_
    refine qv m_mv ?_
    refine qk ?_
    refine qk ?_
    refine qk ?_
    refine qk ?_
    refine qv m_pk ?_
    show AWp cx _ _ _
    refine cdT (hb := by first | rfl | simp | simp_all) (ht := ?_)
    refine awp_seq ?_
    refine rg ?_
    refine qv m_as ?_
    show AWp cx _ _ _
    refine awp_ret ?_
    exact x1 (hr := (rI_ (by simp_all [valid, validB])))
  · try simp at hg7
    refine qv (m_fdp fd23_1) ?_
    refine qv (m_ldp sz3 ag3) ?_
    refine qqF (f68 m.cols 1 6) ?_
    refine qv m_not ?_
    refine qv m_pk ?_
    refine qx m_mv (fun hg13 => ?_) (fun hg13 => ?_)
    · try simp at hg13
      refine qk ?_
      refine qk ?_
      refine qk ?_
      refine qk ?_
      refine qv m_pk ?_
      show AWp cx _ _ _
      refine cdT (hb := by first | rfl | simp | simp_all) (ht := ?_)
      refine awp_seq ?_
      refine rg ?_
      refine qv m_as ?_
      show AWp cx _ _ _
      refine awp_ret ?_
      exact x1 (hr := (rI_ (by simp_all [valid, validB])))
    · try simp at hg13
      refine qv (m_fdp fd23_2) ?_
      refine qv (m_ldp sz3 ag3) ?_
      refine qqF (f68 m.need 1 3) ?_
      refine qv m_not ?_
      refine qv m_pk ?_
      show AWp cx _ _ _
      refine cd (fun hc0 => ?_) (fun hc0 => ?_)
      · try simp at hc0
        refine awp_seq ?_
        refine rg ?_
        refine qv m_as ?_
        show AWp cx _ _ _
        refine awp_ret ?_
        exact x1 (hr := (rI_ (by simp_all [valid, validB])))
      · try simp at hc0
        refine awp_skip ?_
        show AWp cx _ _ _
        refine awp_seq ?_
        refine rg ?_
        refine qv m_as ?_
        show AWp cx _ _ _
        refine awp_ret ?_
        exact x1 (hr := (rI_ (by simp_all [valid, validB])))

theorem f25 (m : Mw) : ACallsF Tryd.prog 25 [dMw m] (.one (.dv (i64 (valid m)))) := by
  refine callsF_of Tryd.func25 rfl rfl (by rw [Tryd.ntmps25]; simp) fun cx hP hn hg => ?_
  rw [Tryd.ntmps25] at hn
  rw [startF_lk, none_mkM]
  simp only [List.nil_append, List.append_nil, List.cons_append, zipSV, Nat.reduceAdd]
  refine awp_seq ?_
  refine rg ?_
  refine qp m_box ?_
  refine qv m_as ?_
  show AWp cx _ _ _
  refine awp_seq ?_
  refine awp_seq ?_
  refine rg ?_
  refine qv (m_fdp fd23_0) ?_
  refine qv (m_ldp sz3 ag3) ?_
  refine qqF (f66 m.rows 1 6) ?_
  refine qv m_not ?_
  refine qx m_mv (fun hg7 => ?_) (fun hg7 => ?_)
  · try simp at hg7
    refine qk ?_
    refine qk ?_
    refine qk ?_
    refine qk ?_
    refine qv m_pk ?_
    refine qv m_mv ?_
    refine qk ?_
    refine qk ?_
    refine qk ?_
    refine qk ?_
    refine qv m_pk ?_
    show AWp cx _ _ _
    refine cdT (hb := by first | rfl | simp | simp_all) (ht := ?_)
    refine awp_seq ?_
    refine rg ?_
    refine qv m_as ?_
    show AWp cx _ _ _
    refine awp_ret ?_
    exact x1 (hr := (rI_ (by simp_all [valid, validB])))
  · try simp at hg7
    refine qv (m_fdp fd23_1) ?_
    refine qv (m_ldp sz3 ag3) ?_
    refine qqF (f66 m.cols 1 6) ?_
    refine qv m_not ?_
    refine qv m_pk ?_
    refine qx m_mv (fun hg13 => ?_) (fun hg13 => ?_)
    · try simp at hg13
      refine qk ?_
      refine qk ?_
      refine qk ?_
      refine qk ?_
      refine qv m_pk ?_
      show AWp cx _ _ _
      refine cdT (hb := by first | rfl | simp | simp_all) (ht := ?_)
      refine awp_seq ?_
      refine rg ?_
      refine qv m_as ?_
      show AWp cx _ _ _
      refine awp_ret ?_
      exact x1 (hr := (rI_ (by simp_all [valid, validB])))
    · try simp at hg13
      refine qv (m_fdp fd23_2) ?_
      refine qv (m_ldp sz3 ag3) ?_
      refine qqF (f66 m.need 1 3) ?_
      refine qv m_not ?_
      refine qv m_pk ?_
      show AWp cx _ _ _
      refine cd (fun hc0 => ?_) (fun hc0 => ?_)
      · try simp at hc0
        refine awp_seq ?_
        refine rg ?_
        refine qv m_as ?_
        show AWp cx _ _ _
        refine awp_ret ?_
        exact x1 (hr := (rI_ (by simp_all [valid, validB])))
      · try simp at hc0
        refine awp_skip ?_
        show AWp cx _ _ _
        refine awp_seq ?_
        refine rg ?_
        refine qv m_as ?_
        show AWp cx _ _ _
        refine awp_ret ?_
        exact x1 (hr := (rI_ (by simp_all [valid, validB])))

theorem f65 (n : Mn) (ok : n.Ok) (s : Int) : ACallsF Tryd.prog 65 [dMn n, i64 s] (.one (.dv (.bool (fromB s 0 ((n.r * n.c : Nat) - 1))))) := by
  have hN := ok.N2
  have hN1 := ok.N1
  refine callsF_of Tryd.func65 rfl rfl (by rw [Tryd.ntmps65]; simp) fun cx hP hn hg => ?_
  rw [Tryd.ntmps65] at hn
  rw [startF_lk, none_mkM]
  simp only [List.nil_append, List.append_nil, List.cons_append, zipSV, Nat.reduceAdd]
  refine awp_seq ?_
  refine rg ?_
  refine qp m_box ?_
  refine qv m_as ?_
  show AWp cx _ _ _
  refine awp_seq ?_
  refine rg ?_
  refine qv m_mv ?_
  refine qv (m_fdp fd23_0) ?_
  refine qv (m_ldp sz3 ag3) ?_
  refine qv (m_fdp fd23_1) ?_
  refine qv (m_ldp sz3 ag3) ?_
  refine qv m_mulN ?_
  refine qv m_sub ?_
  refine qqF (f68 s 0 ((n.r * n.c : Nat) - 1)) ?_
  refine qv m_as ?_
  show AWp cx _ _ _
  refine awp_ret ?_
  exact x1 (hr := (rB_))

theorem f62 (n : Mn) (ok : n.Ok) : ACallsF Tryd.prog 62 [dMn n] (.one (.dv (i64 ((n.r * n.c : Nat) : Int)))) := by
  have hN := ok.N2
  refine callsF_of Tryd.func62 rfl rfl (by rw [Tryd.ntmps62]; simp) fun cx hP hn hg => ?_
  rw [Tryd.ntmps62] at hn
  rw [startF_lk, none_mkM]
  simp only [List.nil_append, List.append_nil, List.cons_append, zipSV, Nat.reduceAdd]
  refine awp_seq ?_
  refine rg ?_
  refine qp m_box ?_
  refine qv m_as ?_
  show AWp cx _ _ _
  refine awp_seq ?_
  refine rg ?_
  refine qv (m_fdp fd23_0) ?_
  refine qv (m_ldp sz3 ag3) ?_
  refine qv (m_fdp fd23_1) ?_
  refine qv (m_ldp sz3 ag3) ?_
  refine qv m_mulN ?_
  refine qv m_as ?_
  show AWp cx _ _ _
  refine awp_ret ?_
  exact x1 (hr := (rI_))

theorem f72 (n : Mn) (ok : n.Ok) : ACallsF Tryd.prog 72 [dMn n] (.one (.dv (i64 (full n : Int)))) := by
  have hN := ok.N2
  have hf := full_add (n := n)
  have hlt := full_lt ok
  refine callsF_of Tryd.func72 rfl rfl (by rw [Tryd.ntmps72]; simp) fun cx hP hn hg => ?_
  rw [Tryd.ntmps72] at hn
  rw [startF_lk, none_mkM]
  simp only [List.nil_append, List.append_nil, List.cons_append, zipSV, Nat.reduceAdd]
  refine awp_seq ?_
  refine rg ?_
  refine qp m_box ?_
  refine qv m_as ?_
  show AWp cx _ _ _
  refine awp_seq ?_
  refine rg ?_
  refine qv (m_ldpa sz23 ag23) ?_
  refine qqF (f62 n ok) ?_
  refine qv (m_cnvU kd3 kd41) ?_
  refine qv (m_shlS (n.r * n.c)) ?_
  refine qv (m_subN (full n)) ?_
  refine qv m_as ?_
  show AWp cx _ _ _
  refine awp_ret ?_
  exact x1 (hr := (rI_))

/-- The error of a meadow and a set. -/
def wetE (m : Mw) (w : Int) : Int := if validB m then (if fromB w 0 (2 ^ (m.rows * m.cols).toNat - 1) then 0 else 1) else 1
theorem wetE_n {n : Mn} (ok : n.Ok) {w : Int} : wetE n.w w = if fromB w 0 (full n) then 0 else 1 := by
  have e : (2 ^ ((n.r : Int) * (n.c : Int)).toNat - 1 : Int) = ((full n : Nat) : Int) := by
    rw [← Int.natCast_mul, Int.toNat_natCast]
    have := full_add (n := n)
    have h2 : (2 : Int) ^ (n.r * n.c) = ((2 ^ (n.r * n.c) : Nat) : Int) := by norm_cast
    rw [h2]; omega
  simp only [wetE, n_valid ok, if_true]
  rw [show (n.w.rows * n.w.cols) = (n.r : Int) * (n.c : Int) from rfl, e]
theorem wetE_ok {m : Mw} {w : Int} (h : wetE m w = 0) : ∃ (n : Mn) (v : Nat), n.Ok ∧ m = n.w ∧ w = (v : Int) ∧ v ≤ full n := by
  by_cases hv : validB m = true
  · obtain ⟨n, ok, rfl⟩ := valid_n hv
    rw [wetE_n ok] at h
    split at h
    · rename_i h1
      obtain ⟨v, h2, h3⟩ := from_wet h1
      exact ⟨n, v, ok, rfl, h3, h2⟩
    · cases h
  · simp [wetE, hv] at h

theorem f56 (m : Mw) (w : Int) : ACallsF Tryd.prog 56 [dMw m, i64 w] (.one (.dv (i64 (wetE m w)))) := by
  refine callsF_of Tryd.func56 rfl rfl (by rw [Tryd.ntmps56]; simp) fun cx hP hn hg => ?_
  rw [Tryd.ntmps56] at hn
  rw [startF_lk, none_mkM]
  simp only [List.nil_append, List.append_nil, List.cons_append, zipSV, Nat.reduceAdd]
  refine awp_seq ?_
  refine rg ?_
  refine qp m_box ?_
  refine qv m_as ?_
  show AWp cx _ _ _
  refine awp_seq ?_
  refine awp_seq ?_
  refine rg ?_
  refine qv (m_ldpa sz23 ag23) ?_
  refine qqF (f24 m) ?_
  refine qv m_as ?_
  show AWp cx _ _ _
  refine awp_seq ?_
  refine rg ?_
  refine qv m_mv ?_
  refine qv m_neq ?_
  show AWp cx _ _ _
  refine cd (fun hc0 => ?_) (fun hc0 => ?_)
  · skip
    have hv : validB m = false := by simpa [valid] using hc0
    refine awp_seq ?_
    refine rg ?_
    refine qv m_mv ?_
    refine qv m_as ?_
    show AWp cx _ _ _
    refine awp_ret ?_
    exact x1 (hr := (rI_ (by simp [wetE, valid, hv])))
  · skip
    have hv : validB m = true := by simpa [valid] using hc0
    obtain ⟨n, ok, rfl⟩ := valid_n hv
    have hw := wetE_n ok (w := w)
    refine awp_skip ?_
    show AWp cx _ _ _
    refine awp_seq ?_
    refine awp_seq ?_
    refine rg ?_
    refine qv m_mv ?_
    refine qv (m_ldpa sz23 ag23) ?_
    refine qqF (f78 n ok) ?_
    refine qqF (f68 w 0 (full n)) ?_
    refine qv m_not ?_
    show AWp cx _ _ _
    refine cd (fun hc1 => ?_) (fun hc1 => ?_)
    · try simp at hc1
      refine awp_seq ?_
      refine rg ?_
      refine qv m_as ?_
      show AWp cx _ _ _
      refine awp_ret ?_
      exact x1 (hr := (rI_ (by simp_all)))
    · try simp at hc1
      refine awp_skip ?_
      show AWp cx _ _ _
      refine awp_seq ?_
      refine rg ?_
      refine qv m_as ?_
      show AWp cx _ _ _
      refine awp_ret ?_
      exact x1 (hr := (rI_ (by simp_all)))

theorem f61 (m : Mw) (w : Int) : ACallsF Tryd.prog 61 [dMw m, i64 w] (.one (.dv (i64 (wetE m w)))) := by
  refine callsF_of Tryd.func61 rfl rfl (by rw [Tryd.ntmps61]; simp) fun cx hP hn hg => ?_
  rw [Tryd.ntmps61] at hn
  rw [startF_lk, none_mkM]
  simp only [List.nil_append, List.append_nil, List.cons_append, zipSV, Nat.reduceAdd]
  refine awp_seq ?_
  refine rg ?_
  refine qp m_box ?_
  refine qv m_as ?_
  show AWp cx _ _ _
  refine awp_seq ?_
  refine rg ?_
  refine qv (m_ldpa sz23 ag23) ?_
  refine qqF (f25 m) ?_
  refine qv m_as ?_
  show AWp cx _ _ _
  refine awp_seq ?_
  refine awp_seq ?_
  refine rg ?_
  refine qv m_mv ?_
  refine qv m_neq ?_
  show AWp cx _ _ _
  refine cd (fun hc0 => ?_) (fun hc0 => ?_)
  · skip
    have hv : validB m = false := by simpa [valid] using hc0
    refine awp_seq ?_
    refine rg ?_
    refine qv m_mv ?_
    refine qv m_as ?_
    show AWp cx _ _ _
    refine awp_ret ?_
    exact x1 (hr := (rI_ (by simp [wetE, valid, hv])))
  · skip
    have hv : validB m = true := by simpa [valid] using hc0
    obtain ⟨n, ok, rfl⟩ := valid_n hv
    have hw := wetE_n ok (w := w)
    refine awp_skip ?_
    show AWp cx _ _ _
    refine awp_seq ?_
    refine awp_seq ?_
    refine rg ?_
    refine qv m_mv ?_
    refine qv (m_ldpa sz23 ag23) ?_
    refine qqF (f72 n ok) ?_
    refine qqF (f66 w 0 (full n)) ?_
    refine qv m_not ?_
    show AWp cx _ _ _
    refine cd (fun hc1 => ?_) (fun hc1 => ?_)
    · try simp at hc1
      refine awp_seq ?_
      refine rg ?_
      refine qv m_as ?_
      show AWp cx _ _ _
      refine awp_ret ?_
      exact x1 (hr := (rI_ (by simp_all)))
    · try simp at hc1
      refine awp_skip ?_
      show AWp cx _ _ _
      refine awp_seq ?_
      refine rg ?_
      refine qv m_as ?_
      show AWp cx _ _ _
      refine awp_ret ?_
      exact x1 (hr := (rI_ (by simp_all)))

theorem f92 (n : Mn) : ACalls Tryd.prog 92 [dMn n] (.one (.dv (.fn 103 [] [.cptr [i64 (n.r : Int), i64 (n.c : Int), i64 (n.nd : Int)]]))) := by
  refine callsA_of Tryd.func92 rfl rfl (by rw [Tryd.ntmps92]; simp) fun cx hP hn hg => ?_
  rw [Tryd.ntmps92] at hn
  rw [startF_lk, none_mkM]
  simp only [List.nil_append, List.append_nil, List.cons_append, zipSV, Nat.reduceAdd]
  refine awp_seq ?_
  refine rg ?_
  refine qp m_box ?_
  refine qv m_as ?_
  show AWp cx _ _ _
  refine awp_seq ?_
  refine rg ?_
  refine qfn ?_
  refine qv m_as ?_
  show AWp cx _ _ _
  refine awp_ret ?_
  exact x1 (hr := (rD_))

end Go.Ab.Tryd

set_option linter.all false
namespace Go.Ab.Tryd
open Go Go.Ab Go.Proofs Go.Ab.Moss

theorem sq_seq {n : Mn} (ok : n.Ok) : ASeq Tryd.prog 103 [.cptr [i64 (n.r : Int), i64 (n.c : Int), i64 (n.nd : Int)]] ((List.range (n.r * n.c)).map (sqArg n.c)) := Go.Proofs.Tryd.squares_seq n.r n.c n.nd ⟨ok.r1, ok.r2⟩ ⟨ok.c1, ok.c2⟩


theorem f64 (n : Mn) (ok : n.Ok) (w : Nat) (hw : w < 68719476736) : ACallsF Tryd.prog 64 [dMn n, i64 (w : Int)] (.one (.dv (i64 (rdN n w : Int)))) := by
  have hN := ok.N2
  refine callsR_of (ds := [i64 (rdN n w : Int)]) Tryd.func64 rfl rfl (by rw [Tryd.ntmps64]; simp) fun cx hP hn hg hrn hdq hfin => ?_
  rw [Tryd.ntmps64] at hn
  rw [startF_lk, none_mkM]
  simp only [List.nil_append, List.append_nil, List.cons_append, zipSV, Nat.reduceAdd]
  refine awp_seq ?_
  refine rg ?_
  refine qp m_box ?_
  refine qp m_box ?_
  refine qv m_as ?_
  show AWp cx _ _ _
  refine awp_seq ?_
  refine rg ?_
  refine qp (m_al ze3) ?_
  refine qs (m_st sz3) ?_
  show AWp cx _ _ _
  refine awp_seq_seq_rf ?_
  refine rg ?_
  refine qv (m_ldpa sz23 ag23) ?_
  refine qqA (f92 n) ?_
  show RfOk cx _ _ _ _
  refine rgf hg hrn hdq hfin hP hn (sq_seq ok) (l := [(2, .pt 2 0 0), (3, .pt 3 0 0), (5, .pt 5 0 0), (8, .dv (.fn 103 [] [.cptr [i64 (n.r : Int), i64 (n.c : Int), i64 (n.nd : Int)]]))]) (fun k => [(2, 0, some ⟨[.dv (i64 (n.r)), .dv (i64 (n.c)), .dv (i64 (n.nd))], 0, 23, 0, false⟩), (3, 0, some ⟨[.dv (i64 ((w : Int)))], 0, 3, 0, false⟩), (5, 0, some ⟨[.dv (i64 ((bset (rdB n w) k : Nat) : Int))], 0, 3, 0, false⟩)]) (tl [(2, 2), (3, 3), (5, 5)] (hF := by simp [FLe, svLe, lk, mkM, isLive, tauL, bset]) (hM := by simp [MLe, blkLe, svLe, svLes, lk, mkM, isLive, tauL, svLes_ints, svLes_self, isDvs, isDvs_map, isDvs_app, isDvs_take, isDvs_set, isDvs_repl, bset])) (fun k x hx => ?_) fun cx2 hP2 hn2 hg2 => ?_
  · obtain ⟨hk, rfl⟩ := sq_get hx
    refine roundL (P := Tryd.prog) (N := 31) [(2, 2), (3, 3), (5, 5)] [(2, ⟨[.dv (i64 (n.r)), .dv (i64 (n.c)), .dv (i64 (n.nd))], 0, 23, 5, false⟩), (3, ⟨[.dv (i64 ((w : Int)))], 0, 3, 6, false⟩), (5, ⟨[.dv (i64 ((bset (rdB n w) k : Nat) : Int))], 0, 3, 8, false⟩)] [(2, ⟨[.dv (i64 (n.r)), .dv (i64 (n.c)), .dv (i64 (n.nd))], 0, 23, 5, false⟩), (3, ⟨[.dv (i64 ((w : Int)))], 0, 3, 6, false⟩), (5, ⟨[.dv (i64 ((bset (rdB n w) (k + 1) : Nat) : Int))], 0, 3, 8, false⟩)] [2, 3, 5] [(2, .pt 2 0 0), (3, .pt 3 0 0), (5, .pt 5 0 0), (8, .dv (.fn 103 [] [.cptr [i64 (n.r : Int), i64 (n.c : Int), i64 (n.nd : Int)]]))] (hle := (tl [(2, 2), (3, 3), (5, 5)] (hF := by simp [FLe, svLe, lk, mkM, isLive, tauL, bset]) (hM := by simp [MLe, blkLe, svLe, svLes, lk, mkM, isLive, tauL, svLes_ints, svLes_self, isDvs, isDvs_map, isDvs_app, isDvs_take, isDvs_set, isDvs_repl, bset]))) (k := fun cx1 hP1 hn1 hg1 => ?_)
    show AWp cx1 _ _ ⟨lk [(10, .dv (.agg [i64 ((k / n.c : Nat) : Int), i64 ((k % n.c : Nat) : Int)])), (9, .dv (i64 ((k : Nat)))), (2, .pt 2 0 0), (3, .pt 3 0 0), (5, .pt 5 0 0), (8, .dv (.fn 103 [] [.cptr [i64 (n.r : Int), i64 (n.c : Int), i64 (n.nd : Int)]]))], mkM [(2, 0, some ⟨[.dv (i64 (n.r)), .dv (i64 (n.c)), .dv (i64 (n.nd))], 0, 23, 5, false⟩), (3, 0, some ⟨[.dv (i64 ((w : Int)))], 0, 3, 6, false⟩), (5, 0, some ⟨[.dv (i64 ((bset (rdB n w) k : Nat) : Int))], 0, 3, 8, false⟩)]⟩
    have hb36 := bset_lt36 (p := rdB n w) (k := k) (by omega)
    have har := arN_lt ok hk
    refine rg ?_
    refine qv m_as ?_
    refine asg fun cx1 hP1 hn1 hg1 => ?_
    refine awp_block ?_
    refine awp_seq ?_
    refine rd mixed ?_
    refine zv (m_ldp sz3 ag3) ?_
    refine zv m_mv ?_
    refine zqF (R := []) (f77 w k hw (by omega)) ?_
    refine zv m_not ?_
    refine zx m_mv (fun hg15 => ?_) (fun hg15 => ?_)
    · try simp at hg15
      refine zv (m_ldpa sz23 ag23) ?_
      refine zv m_mv ?_
      refine zqF (R := []) (f60 n ok k hk) ?_
      refine zv (m_ldp sz3 ag3) ?_
      refine zv m_andS ?_
      refine zqF (R := []) (f59 (arN n k &&& w) (by exact and36 har)) ?_
      refine zv (m_fdp fd23_2) ?_
      refine zv (m_ldp sz3 ag3) ?_
      refine zv m_geq ?_
      refine zv m_pk ?_
      refine ⟨by rfl, ?_⟩
      show AWp cx1 _ _ _
      refine cd (fun hc0 => ?_) (fun hc0 => ?_)
      · try simp at hc0
        refine rd mixed ?_
        first | refine zv (m_ldI sz3 ag3) ?_ | refine zv (m_ldp sz3 ag3) ?_
        refine zv m_mv ?_
        refine zv (m_shlS k) ?_
        refine zv m_orS ?_
        first | refine zs (m_stI sz3) ?_ | refine zs (m_st sz3) ?_
        refine ⟨by rfl, ?_⟩
        have hb : bset (rdB n w) (k + 1) = bset (rdB n w) k ||| 2 ^ k := by simp [bset, rdB, hg15, hc0]
        exact rend (tl [(2, 2), (3, 3), (5, 5)] (hF := by simp [FLe, svLe, lk, mkM, isLive, tauL, hb]) (hM := by simp [MLe, blkLe, svLe, svLes, lk, mkM, isLive, tauL, svLes_ints, svLes_self, isDvs, isDvs_map, isDvs_app, isDvs_take, isDvs_set, isDvs_repl, hb]))
      · try simp at hc0
        refine awp_skip ?_
        have hr : rdB n w k = false := by simp [rdB, hg15]; omega
        have hb : bset (rdB n w) (k + 1) = bset (rdB n w) k := by simp [bset, hr]
        exact rend (tl [(2, 2), (3, 3), (5, 5)] (hF := by simp [FLe, svLe, lk, mkM, isLive, tauL, hb]) (hM := by simp [MLe, blkLe, svLe, svLes, lk, mkM, isLive, tauL, svLes_ints, svLes_self, isDvs, isDvs_map, isDvs_app, isDvs_take, isDvs_set, isDvs_repl, hb]))
    · try simp at hg15
      refine zk ?_
      refine zk ?_
      refine zk ?_
      refine zk ?_
      refine zk ?_
      refine zk ?_
      refine zk ?_
      refine zk ?_
      refine zk ?_
      refine zv m_pk ?_
      refine ⟨by rfl, ?_⟩
      show AWp cx1 _ _ _
      refine cdF (hb := by first | rfl | simp | simp_all) (ht := ?_)
      refine awp_skip ?_
      have hb : bset (rdB n w) (k + 1) = bset (rdB n w) k := by simp [bset, rdB, hg15]
      exact rend (tl [(2, 2), (3, 3), (5, 5)] (hF := by simp [FLe, svLe, lk, mkM, isLive, tauL, hb]) (hM := by simp [MLe, blkLe, svLe, svLes, lk, mkM, isLive, tauL, svLes_ints, svLes_self, isDvs, isDvs_map, isDvs_app, isDvs_take, isDvs_set, isDvs_repl, hb]))
  · try rw [List.length_map, List.length_range]
    refine awp_seq ?_
    refine rg ?_
    refine qv (m_ldp sz3 ag3) ?_
    refine qv m_as ?_
    show AWp cx2 _ _ _
    refine awp_ret ?_
    exact xs1

theorem rdN_bit {n : Mn} {w i : Nat} : (rdN n w).testBit i = (decide (i < n.r * n.c) && rdB n w i) := testBit_bset _ _ _
theorem rd_dry {n : Mn} {w i : Nat} (h : (rdN n w).testBit i = true) : w.testBit i = false := by
  rw [rdN_bit] at h
  simp only [rdB, Bool.and_eq_true, Bool.not_eq_true'] at h
  exact h.2.1
/-- How many squares are dry. -/
def dryC (n : Mn) (w : Nat) : Nat := (List.range (n.r * n.c)).countP fun i => !w.testBit i
theorem dryC_lt {n : Mn} {w : Nat} (h : rdN n w ≠ 0) : dryC n (w ||| rdN n w) < dryC n w := by
  obtain ⟨i, hi⟩ := Nat.exists_testBit_of_ne_zero h
  have hd := rd_dry hi
  rw [rdN_bit, Bool.and_eq_true, decide_eq_true_eq] at hi
  refine countP_lt _ i (List.mem_range.2 hi.1) (fun k _ hk => ?_) (by simp [hd]) (by simp [rdN_bit, hi.1, hi.2])
  simp only [Nat.testBit_or, Bool.not_or, Bool.and_eq_true] at hk
  exact hk.1
/-- What has spread at the end, and the steps. -/
def spr (n : Mn) (w : Nat) : Nat × Nat := if h : rdN n w = 0 then (w, 0) else
  have := dryC_lt h
  ((spr n (w ||| rdN n w)).1, (spr n (w ||| rdN n w)).2 + 1)
termination_by dryC n w
theorem spr_zero {n : Mn} {w : Nat} (h : rdN n w = 0) : spr n w = (w, 0) := by rw [spr]; simp [h]
theorem spr_step {n : Mn} {w : Nat} (h : rdN n w ≠ 0) : spr n w = ((spr n (w ||| rdN n w)).1, (spr n (w ||| rdN n w)).2 + 1) := by rw [spr]; simp [h]
theorem dryC_le {n : Mn} {w : Nat} : dryC n w ≤ n.r * n.c := Nat.le_trans List.countP_le_length (by simp)
theorem spr_lt {n : Mn} (ok : n.Ok) : ∀ (f w : Nat), dryC n w ≤ f → w < 68719476736 → (spr n w).1 < 68719476736 ∧ (spr n w).2 ≤ f
  | 0, w, h, hw => by
    have : rdN n w = 0 := by
      rcases Nat.eq_zero_or_pos (rdN n w) with h0 | h0
      · exact h0
      · have := dryC_lt (n := n) (w := w) (by omega); omega
    rw [spr_zero this]; exact ⟨hw, Nat.le_refl _⟩
  | f + 1, w, h, hw => by
    by_cases h0 : rdN n w = 0
    · rw [spr_zero h0]; exact ⟨hw, Nat.zero_le _⟩
    · have h1 := dryC_lt h0
      have h2 := spr_lt ok f (w ||| rdN n w) (by omega) (or36 hw (rdN_lt ok))
      rw [spr_step h0]
      exact ⟨h2.1, by simp only; omega⟩

theorem f57 (n : Mn) (ok : n.Ok) (w0 : Nat) (hw0 : w0 < 68719476736) : ACallsF Tryd.prog 57 [dMn n, i64 (w0 : Int)] (.many [.dv (i64 ((spr n w0).1 : Int)), .dv (i64 ((spr n w0).2 : Int))]) := by
  have hN := ok.N2
  have hb0 := spr_lt ok _ w0 (Nat.le_refl _) hw0
  have hd0 := dryC_le (n := n) (w := w0)
  refine callsF_of Tryd.func57 rfl rfl (by rw [Tryd.ntmps57]; simp) fun cx hP hn hg => ?_
  rw [Tryd.ntmps57] at hn
  rw [startF_lk, none_mkM]
  simp only [List.nil_append, List.append_nil, List.cons_append, zipSV, Nat.reduceAdd]
  refine awp_seq ?_
  refine rg ?_
  refine qp m_box ?_
  refine qv m_as ?_
  refine qv m_as ?_
  show AWp cx _ _ _
  refine awp_seq ?_
  refine rg ?_
  refine qv m_as ?_
  show AWp cx _ _ _
  refine awp_block ?_
  refine awp_loop (ι := Nat × Nat) (fun q => ⟨lk [(1, .dv (i64 (q.1 : Nat))), (2, .pt 2 0 0), (6, .dv (i64 (q.2 : Nat)))], mkM [(2, 0, some ⟨[.dv (i64 (n.r)), .dv (i64 (n.c)), .dv (i64 (n.nd))], 0, 23, 0, false⟩)]⟩) (fun q => q.1 < 68719476736 ∧ spr n w0 = ((spr n q.1).1, (spr n q.1).2 + q.2)) (fun q => dryC n q.1) (w0, 0) ⟨hw0, rfl⟩ (tl [(2, 2)]) ?_
  intro q hφ0
  obtain ⟨hq1, hq2⟩ := hφ0
  refine awp_seq ?_
  refine awp_block ?_
  refine awp_seq ?_
  refine rg ?_
  refine qv (m_ldpa sz23 ag23) ?_
  refine qv m_mv ?_
  refine qqF (f64 n ok q.1 hq1) ?_
  refine qv m_as ?_
  show AWp cx _ _ _
  refine awp_seq ?_
  refine awp_seq ?_
  refine rg ?_
  refine qv m_mv ?_
  refine qv m_eql ?_
  show AWp cx _ _ _
  refine cd (fun hc0 => ?_) (fun hc0 => ?_)
  · skip
    have h0 : rdN n q.1 = 0 := by simpa using hc0
    rw [spr_zero h0] at hq2
    refine awp_seq ?_
    refine rg ?_
    refine qv m_mv ?_
    refine qv m_mv ?_
    refine qv m_as ?_
    refine qv m_as ?_
    show AWp cx _ _ _
    refine awp_ret ?_
    exact x2 (hr := (rI_ (by rw [hq2]))) (hr' := (rI_ (by rw [hq2]; simp)))
  · skip
    have h0 : rdN n q.1 ≠ 0 := by simpa using hc0
    refine awp_skip ?_
    show AWp cx _ _ _
    refine rg ?_
    refine qv m_mv ?_
    refine qv m_mv ?_
    refine qv (m_orS (hb := rdN_lt ok)) ?_
    refine qv m_as ?_
    show AWp cx _ _ _
    refine rg ?_
    refine qv m_mv ?_
    refine qv (m_addN (b := 1) (ha := by have := congrArg Prod.snd hq2; simp only at this; omega)) ?_
    refine qv m_as ?_
    exact ⟨(q.1 ||| rdN n q.1, q.2 + 1), ⟨or36 hq1 (rdN_lt ok), by rw [hq2, spr_step h0]; simp only [Prod.mk.injEq, true_and]; omega⟩, dryC_lt h0, (tl [(2, 2)])⟩

theorem f71 (n : Mn) (ok : n.Ok) (w : Nat) (hw : w < 68719476736) : ACallsF Tryd.prog 71 [dMn n, i64 (w : Int)] (.one (.dv (.bool (decide ((spr n w).1 = full n))))) := by
  refine callsF_of Tryd.func71 rfl rfl (by rw [Tryd.ntmps71]; simp) fun cx hP hn hg => ?_
  rw [Tryd.ntmps71] at hn
  rw [startF_lk, none_mkM]
  simp only [List.nil_append, List.append_nil, List.cons_append, zipSV, Nat.reduceAdd]
  refine awp_seq ?_
  refine rg ?_
  refine qp m_box ?_
  refine qv m_as ?_
  show AWp cx _ _ _
  refine awp_seq ?_
  refine rg ?_
  refine qv (m_ldpa sz23 ag23) ?_
  refine qv m_mv ?_
  refine qqF (f57 n ok w hw) ?_
  refine qv m_mv ?_
  refine qv m_ext ?_
  refine qv m_ext ?_
  refine qv m_as ?_
  refine qv m_as ?_
  show AWp cx _ _ _
  refine awp_seq ?_
  refine rg ?_
  refine qv m_mv ?_
  refine qv (m_ldpa sz23 ag23) ?_
  refine qqF (f78 n ok) ?_
  refine qv m_eql ?_
  refine qv m_as ?_
  show AWp cx _ _ _
  refine awp_ret ?_
  exact x1 (hr := (rB_ (by rw [Bool.eq_iff_iff]; simp; omega)))

end Go.Ab.Tryd

set_option linter.all false
namespace Go.Ab.Tryd
open Go Go.Ab Go.Proofs Go.Ab.Moss
/-- The first index at which p holds. -/
def idxF {α : Type} (p : α → Bool) (l : List α) : Int := if l.any p then (l.findIdx p : Int) else -1
theorem idxF_at {α : Type} {p : α → Bool} {l : List α} {i : Nat} (h : i < l.length) (hp : p l[i] = true) (hb : ∀ j (hj : j < i), p (l[j]'(by omega)) = false) : idxF p l = i := by
  unfold idxF
  rw [if_pos (List.any_eq_true.2 ⟨l[i], List.getElem_mem h, hp⟩), (List.findIdx_eq h).2 ⟨hp, hb⟩]
theorem idxF_no {α : Type} {p : α → Bool} {l : List α} (h : ∀ j (hj : j < l.length), p l[j] = false) : idxF p l = -1 := by
  unfold idxF
  rw [if_neg]
  intro ha
  obtain ⟨x, hx, hpx⟩ := List.any_eq_true.1 ha
  obtain ⟨j, hj, rfl⟩ := List.getElem_of_mem hx
  rw [h j hj] at hpx
  cases hpx
theorem idxF_nonneg {α : Type} (p : α → Bool) (l : List α) : decide (0 ≤ idxF p l) = l.any p := by
  unfold idxF
  cases h : l.any p <;> simp

abbrev PrOk (f : FuncId) (pre caps : List DV) (p : Int → Bool) (l : List Int) : Prop := ∀ x ∈ l, ACallsF Tryd.prog f (pre ++ [i64 x] ++ caps) (.one (.dv (.bool (p x))))

theorem take_snoc {α : Type} {l : List α} {i : Nat} {x : α} (h : l[i]? = some x) : l.take (i + 1) = l.take i ++ [x] := by
  rw [List.take_succ, h]; rfl

def delF (p : Int → Bool) (L : List Int) : List Int := L.filter fun x => !p x
theorem delF_snoc {p : Int → Bool} {L : List Int} {j : Nat} (hj : j < L.length) : delF p (L.take (j + 1)) = if p L[j] then delF p (L.take j) else delF p (L.take j) ++ [L[j]] := by
  rw [take_snoc (List.getElem?_eq_getElem hj)]
  unfold delF
  rw [List.filter_append]
  by_cases h : p L[j] = true
  · rw [if_pos h]; simp [h]
  · rw [if_neg h]; simp [h]
theorem delF_len {p : Int → Bool} {L : List Int} : (delF p L).length ≤ L.length := List.length_filter_le _ _
/-- A row of which a beginning is taken. -/
theorem data_intsP {ok : Nat → Prop} {okd : DV → Prop} {M : Nat → Nat × Option Blk} {t g n : Nat} {blk : Blk} {k : IntKind} {L zs : List Int} (hM : M t = (g, some blk)) (hst : ok blk.st) (hl : L.length = n) (he : blk.esz = 1) (hc : blk.cells = (L ++ zs).map fun q => .dv (.int k q)) (hd : ∀ q, okd (.int k q)) : Data ok okd M (.sl t g 0 n) (.list (L.map (DV.int k))) := by
  have hf : flat (L.map (DV.int k)) = L.map (DV.int k) := flat_one fun _ => rfl
  refine .sl t g 0 n blk _ (fun j => .dv ((L.map (DV.int k)).getD j default)) hM hst (by simpa using hl) (fun d hd' => ?_) (fun j c hj => ?_) fun j c hj => ?_
  · obtain ⟨q, _, rfl⟩ := List.mem_map.1 hd'; rw [he]; rfl
  · rw [hf] at hj
    have h1 := (List.getElem?_eq_some_iff.1 hj).1
    simp only [List.length_map] at h1
    rw [hc]
    simp [h1, List.getElem?_append_left]
  · rw [hf] at hj
    have h0 : (L.map (DV.int k)).getD j default = c := by rw [List.getD_eq_getElem?_getD, hj]; rfl
    rw [h0]
    obtain ⟨q, _, rfl⟩ := List.mem_map.1 (List.mem_of_getElem? hj)
    exact .dv _ (hd q)
def wDel (p : Int → Bool) (L : List Int) (j : Nat) (mid : List Int) : List Int := delF p (L.take j) ++ mid ++ L.drop j
theorem idxF_cases {p : Int → Bool} {L : List Int} : (idxF p L = -1 ∧ ∀ x ∈ L, p x = false) ∨ ∃ i : Nat, ∃ h : i < L.length, idxF p L = i ∧ p L[i] = true ∧ ∀ j (hj : j < i), p (L[j]'(by omega)) = false := by
  unfold idxF
  by_cases h : L.any p = true
  · rw [if_pos h]
    obtain ⟨x, hx, hpx⟩ := List.any_eq_true.1 h
    have hlt : L.findIdx p < L.length := List.findIdx_lt_length_of_exists ⟨x, hx, hpx⟩
    exact .inr ⟨L.findIdx p, hlt, rfl, List.findIdx_getElem, fun j hj => by have := List.not_of_lt_findIdx hj; simpa using this⟩
  · rw [if_neg h]
    refine .inl ⟨rfl, fun x hx => ?_⟩
    cases hp : p x with
    | false => rfl
    | true => exact absurd (List.any_eq_true.2 ⟨x, hx, hp⟩) h
theorem delF_none {p : Int → Bool} {L : List Int} (h : ∀ x ∈ L, p x = false) : delF p L = L := by
  unfold delF
  rw [List.filter_eq_self]
  intro x hx
  simp [h x hx]
theorem wDel_len {p : Int → Bool} {L : List Int} {j : Nat} {mid : List Int} (hj : j ≤ L.length) (h : (delF p (L.take j)).length + mid.length = j) : (wDel p L j mid).length = L.length := by
  simp [wDel]; omega
theorem wDel_get {p : Int → Bool} {L : List Int} {j : Nat} {mid : List Int} (hj : j < L.length) (h : (delF p (L.take j)).length + mid.length = j) : (wDel p L j mid)[j]? = some L[j] := by
  unfold wDel
  rw [List.getElem?_append_right (by simp; omega)]
  have : j - (delF p (L.take j) ++ mid).length = 0 := by simp; omega
  rw [this]
  simp [hj]
theorem wDel_skip {p : Int → Bool} {L : List Int} {j : Nat} {mid : List Int} (hj : j < L.length) (hp : p L[j] = true) : wDel p L j mid = wDel p L (j + 1) (mid ++ [L[j]]) := by
  unfold wDel
  rw [delF_snoc hj, if_pos hp, List.drop_eq_getElem_cons hj]
  simp
theorem wDel_set {p : Int → Bool} {L : List Int} {j : Nat} {x : Int} {mid : List Int} (hj : j < L.length) (hp : p L[j] = false) : (wDel p L j (x :: mid)).set (delF p (L.take j)).length L[j] = wDel p L (j + 1) (mid ++ [L[j]]) := by
  unfold wDel
  rw [delF_snoc hj, if_neg (by simp [hp]), List.drop_eq_getElem_cons hj]
  simp [List.set_append]
theorem wDel_init {p : Int → Bool} {L : List Int} {i : Nat} (hi : i < L.length) (h : ∀ j (hj : j < i), p (L[j]'(by omega)) = false) (hp : p L[i] = true) : wDel p L (i + 1) [L[i]] = L ∧ (delF p (L.take (i + 1))).length = i := by
  have e : delF p (L.take i) = L.take i := delF_none fun x hx => by
    obtain ⟨j, hj, rfl⟩ := List.getElem_of_mem hx
    simp only [List.length_take] at hj
    rw [List.getElem_take]
    exact h j (by omega)
  constructor
  · unfold wDel
    rw [delF_snoc hi, if_pos hp, e]
    simp [hi]
  · rw [delF_snoc hi, if_pos hp, e]
    simp; omega


theorem f96 (l : List Int) (f : FuncId) (pre caps : List DV) (p : Int → Bool) (hp : PrOk f pre caps p l) (hl : l.length < 1000000) :
    ACallsF Tryd.prog 96 [ints l, .fn f pre caps] (.one (.dv (i64 (idxF p l)))) := by
  refine callsF_of Tryd.func96 rfl rfl (by rw [Tryd.ntmps96]; simp) fun cx hP hn hg => ?_
  rw [Tryd.ntmps96] at hn
  rw [startF_lk, none_mkM]
  simp only [List.nil_append, List.append_nil, List.cons_append, zipSV, Nat.reduceAdd]
  refine awp_seq ?_
  refine rg ?_
  refine qv m_as ?_
  show AWp cx _ _ _
  refine awp_seq ?_
  refine awp_seq ?_
  refine rg ?_
  refine qv m_mv ?_
  refine qv (m_len il32) ?_
  refine qv m_mv ?_
  show AWp cx _ _ _
  refine awp_block ?_
  refine awp_loop (ι := Nat) (fun i => ⟨lk [(0, .dv (ints (l))), (1, .dv (.fn f pre caps)), (7, .dv (i64 ((l.length : Int)))), (8, .dv (i64 (i : Nat)))], mkM []⟩) (fun i => i ≤ l.length ∧ ∀ j (hj : j < i) (h : j < l.length), p l[j] = false) (fun i => l.length - i) 0 ⟨Nat.zero_le _, fun j hj => absurd hj (Nat.not_lt_zero j)⟩ (tl []) ?_
  intro i hφ0
  refine awp_seq ?_
  refine rg ?_
  refine qv m_lss ?_
  show AWp cx _ _ _
  refine awp_seq ?_
  refine cd (fun hc0 => ?_) (fun hc0 => ?_)
  · try simp at hc0
    refine awp_skip ?_
    show AWp cx _ _ _
    refine awp_seq ?_
    refine awp_block ?_
    refine awp_seq ?_
    refine rg ?_
    refine qv m_mv ?_
    refine qv m_as ?_
    show AWp cx _ _ _
    refine awp_seq ?_
    refine rg ?_
    have hi : i < l.length := by omega
    have hx : l[i]? = some l[i] := List.getElem?_eq_getElem hi
    refine qv m_mv ?_
    refine qv m_mv ?_
    refine qv m_mv ?_
    first | refine qv (m_ixN el32 sz3) ?_ | refine qv (m_ix el32 sz3) ?_
    refine qv (m_ld sz3 ag3) ?_
    refine qqVF (hp l[i] (List.getElem_mem hi)) ?_
    show AWp cx _ _ _
    refine cd (fun hc1 => ?_) (fun hc1 => ?_)
    · try simp at hc1
      refine awp_seq ?_
      refine rg ?_
      refine qv m_mv ?_
      refine qv m_as ?_
      show AWp cx _ _ _
      refine awp_ret ?_
      rw [idxF_at hi (by simpa using hc1) (fun j hj => hφ0.2 j hj _)]
      exact x1 (hr := (rI_))
    · try simp at hc1
      refine awp_skip ?_
      show AWp cx _ _ _
      refine rg ?_
      refine qv m_add ?_
      refine qv m_mv ?_
      exact ⟨i + 1, ⟨hi, fun j hj h => by
          rcases Nat.lt_or_ge j i with h1 | h1
          · exact hφ0.2 j h1 h
          · obtain rfl : j = i := by omega
            simpa using hc1⟩, (by simp only; omega), (tl [])⟩
  · try simp at hc0
    refine awp_exit ?_
    show AWp cx _ _ _
    refine awp_seq ?_
    refine rg ?_
    refine qv m_as ?_
    show AWp cx _ _ _
    refine awp_ret ?_
    rw [idxF_no (fun j hj => hφ0.2 j (by omega) hj)]
    exact x1 (hr := (rI_))

theorem f75 (l : List Int) (f : FuncId) (pre caps : List DV) (p : Int → Bool) (hp : PrOk f pre caps p l) (hl : l.length < 1000000) :
    ACallsF Tryd.prog 75 [ints l, .fn f pre caps] (.one (.dv (.bool (l.any p)))) := by
  refine callsF_of Tryd.func75 rfl rfl (by rw [Tryd.ntmps75]; simp) fun cx hP hn hg => ?_
  rw [Tryd.ntmps75] at hn
  rw [startF_lk, none_mkM]
  simp only [List.nil_append, List.append_nil, List.cons_append, zipSV, Nat.reduceAdd]
  refine awp_seq ?_
  refine rg ?_
  refine qv m_as ?_
  show AWp cx _ _ _
  refine awp_seq ?_
  refine rg ?_
  refine qv m_mv ?_
  refine qv m_mv ?_
  refine qqF (f96 l f pre caps p hp hl) ?_
  refine qv m_geq ?_
  refine qv m_as ?_
  show AWp cx _ _ _
  refine awp_ret ?_
  exact x1 (hr := (rB_ (by simp [idxF_nonneg])))

theorem f85 (L zs : List Int) (f : FuncId) (pre caps : List DV) (p : Int → Bool) (hp : PrOk f pre caps p L) (hl : L.length < 1000000) :
    ACallsG Tryd.prog 85 [.sl 100000 0 0 L.length, .dv (.fn f pre caps)] (mkB [(100000, lentI 0 (L ++ zs))]) ⟨[.sl 100000 0 0 (delF p L).length], mkB [(100000, lentI 0 (delF p L ++ List.replicate (L.length - (delF p L).length) 0 ++ zs))]⟩ := by
  refine callsG_of Tryd.func85 rfl rfl (by rw [Tryd.ntmps85]; simp) fun cx hP hn hg => ?_
  rw [Tryd.ntmps85] at hn
  refine startG ?_
  refine awp_seq ?_
  refine rg ?_
  refine qv m_as ?_
  show AWp cx _ _ _
  refine awp_seq ?_
  refine rg ?_
  have hic := idxF_cases (p := p) (L := L)
  refine qv m_mv ?_
  refine qv m_mv ?_
  refine qqF (f96 L f pre caps p hp hl) ?_ (ha := (args_cons (data_intsP (L := L) (zs := zs) (by simp only [mkM, reduceIte, Nat.reduceEqDiff] <;> rfl) trivial rfl rfl rfl (fun _ => trivial)) (args_cons data_dv args_nil)))
  refine qv m_as ?_
  show AWp cx _ _ _
  refine awp_seq ?_
  refine awp_seq ?_
  refine rg ?_
  refine qv m_mv ?_
  refine qv m_eql ?_
  show AWp cx _ _ _
  refine cd (fun hc0 => ?_) (fun hc0 => ?_)
  · try simp at hc0
    refine awp_seq ?_
    refine rg ?_
    refine qv m_mv ?_
    refine qv m_as ?_
    show AWp cx _ _ _
    refine awp_ret ?_
    have hd : delF p L = L := by
      rcases hic with ⟨_, h1⟩ | ⟨i0, hi0, h1, _⟩
      · exact delF_none h1
      · omega
    rw [hd, Nat.sub_self]
    simp only [List.replicate_zero, List.append_nil]
    exact xg [(100000, 100000)] (h2 := by simp [MLe, blkLe, svLes, mkM, tauL, svLes_ints, svLes_self, isDvs_app, isDvs_map])
  · try simp at hc0
    rcases hic with ⟨h1, _⟩ | ⟨i0, hi0, h1, h2, h3⟩
    · exact absurd h1 hc0
    obtain ⟨w1, w2⟩ := wDel_init hi0 h3 h2
    rw [h1]
    refine awp_skip ?_
    show AWp cx _ _ _
    refine awp_seq ?_
    refine awp_seq ?_
    refine rg ?_
    refine qv m_mv ?_
    refine qv m_add ?_
    refine qv m_as ?_
    show AWp cx _ _ _
    refine awp_block ?_
    refine awp_loop (ι := Nat × List Int) (fun q => ⟨lk [(0, .sl 100000 0 0 L.length), (1, .dv (.fn f pre caps)), (5, .dv (i64 ((delF p (L.take q.1)).length : Nat))), (6, .dv (i64 (q.1 : Nat)))], mkM [(100000, 0, some (lentI 0 (wDel p L q.1 q.2 ++ zs)))]⟩) (fun q => q.1 ≤ L.length ∧ 0 < q.2.length ∧ (delF p (L.take q.1)).length + q.2.length = q.1) (fun q => L.length - q.1) (i0 + 1, [L[i0]]) ⟨hi0, by simp, by simp [w2]⟩ (tl [(100000, 100000)] (hF := by simp [FLe, svLe, lk, mkM, isLive, tauL, w1, w2]) (hM := by simp [MLe, blkLe, svLe, svLes, lk, mkM, isLive, tauL, svLes_ints, svLes_self, isDvs, isDvs_map, isDvs_app, isDvs_take, isDvs_set, isDvs_repl, w1, w2])) ?_
    intro ⟨j, mid⟩ hφ0
    dsimp only at hφ0 ⊢
    refine awp_seq ?_
    refine awp_seq ?_
    refine rg ?_
    refine qv m_mv ?_
    refine qv m_mv ?_
    refine qv (m_lenR il32) ?_
    refine qv m_lss ?_
    show AWp cx _ _ _
    refine cd (fun hc1 => ?_) (fun hc1 => ?_)
    · try simp at hc1
      refine awp_skip ?_
      show AWp cx _ _ _
      refine awp_seq ?_
      refine awp_block ?_
      refine awp_seq ?_
      refine rg ?_
      have hj : j < L.length := by omega
      have hwl := wDel_len (mid := mid) (by omega) hφ0.2.2
      have hget : (wDel p L j mid ++ zs)[j]? = some L[j] := by rw [List.getElem?_append_left (by omega)]; exact wDel_get (mid := mid) hj hφ0.2.2
      have hwz : (wDel p L j mid ++ zs).length = L.length + zs.length := by simp; omega
      refine qv m_mv ?_
      refine qv m_mv ?_
      refine qv (m_ixR el32 sz3) ?_
      first | refine qv (m_ldI sz3 ag3) ?_ | refine qv (m_ldp sz3 ag3) ?_
      refine qv m_as ?_
      show AWp cx _ _ _
      refine awp_seq ?_
      refine rg ?_
      refine qv m_mv ?_
      refine qv m_mv ?_
      refine qqVF (hp L[j] (List.getElem_mem hj)) ?_
      refine qv m_not ?_
      show AWp cx _ _ _
      refine cd (fun hc2 => ?_) (fun hc2 => ?_)
      · try simp at hc2
        obtain ⟨x, mid, rfl⟩ := List.exists_cons_of_ne_nil (List.length_pos_iff.1 hφ0.2.1)
        have hset : (wDel p L j (x :: mid) ++ zs).set (delF p (L.take j)).length L[j] = wDel p L (j + 1) (mid ++ [L[j]]) ++ zs := by
          rw [List.set_append, if_pos (by have := hφ0.2.2; simp only [List.length_cons] at this; omega), wDel_set (x := x) (mid := mid) hj hc2]
        have hsn : delF p (L.take (j + 1)) = delF p (L.take j) ++ [L[j]] := by rw [delF_snoc hj, if_neg (by simp [hc2])]
        have hml := hφ0.2.2
        simp only [List.length_cons] at hml
        refine awp_seq ?_
        refine rg ?_
        refine qv m_mv ?_
        refine qv m_mv ?_
        refine qv m_mv ?_
        refine qv (m_ixR el32 sz3) ?_
        first | refine qs (m_stI sz3) ?_ | refine qs (m_st sz3) ?_
        show AWp cx _ _ _
        refine rg ?_
        refine qv m_mv ?_
        refine qv m_add ?_
        refine qv m_as ?_
        show AWp cx _ _ _
        refine rg ?_
        refine qv m_mv ?_
        refine qv m_add ?_
        refine qv m_as ?_
        refine ⟨(j + 1, mid ++ [L[j]]), ⟨hj, by simp, by simp [hsn]; omega⟩, by simp only; omega, (tl [(100000, 100000)] (hF := by simp [FLe, svLe, lk, mkM, isLive, tauL, hsn]) (hM := by simp [MLe, blkLe, svLe, svLes, lk, mkM, isLive, tauL, svLes_ints, svLes_self, isDvs_app, isDvs_map, hset]))⟩
      · try simp at hc2
        have hsk := wDel_skip (mid := mid) hj hc2
        have hsn : delF p (L.take (j + 1)) = delF p (L.take j) := by rw [delF_snoc hj, if_pos hc2]
        refine awp_skip ?_
        show AWp cx _ _ _
        refine rg ?_
        refine qv m_mv ?_
        refine qv m_add ?_
        refine qv m_as ?_
        refine ⟨(j + 1, mid ++ [L[j]]), ⟨hj, by simp, by simp [hsn]; omega⟩, by simp only; omega, (tl [(100000, 100000)] (hF := by simp [FLe, svLe, lk, mkM, isLive, tauL, hsn]) (hM := by simp [MLe, blkLe, svLe, svLes, lk, mkM, isLive, tauL, svLes_ints, svLes_self, isDvs_app, isDvs_map, hsk]))⟩
    · try simp at hc1
      refine awp_exit ?_
      show AWp cx _ _ _
      refine awp_seq ?_
      refine rg ?_
      obtain rfl : j = L.length := by omega
      have hwl := wDel_len (mid := mid) (by omega) hφ0.2.2
      have hmp := hφ0.2.1
      have hml := hφ0.2.2
      rw [List.take_length] at hml
      have htl : L.take L.length = L := List.take_length
      have hfin : (wDel p L L.length mid ++ zs).take (delF p L).length ++ List.replicate (L.length - (delF p L).length) 0 ++ (wDel p L L.length mid ++ zs).drop ((delF p L).length + (L.length - (delF p L).length)) = delF p L ++ List.replicate (L.length - (delF p L).length) 0 ++ zs := by
        have h5 : (delF p L).length + (L.length - (delF p L).length) = L.length := by omega
        have h6 : (wDel p L L.length mid ++ zs).drop L.length = zs := by rw [List.drop_append_of_le_length (by omega), List.drop_of_length_le (by omega), List.nil_append]
        rw [h5, h6]
        congr 1
        congr 1
        rw [List.take_append_of_le_length (by omega)]
        simp [wDel]
      have hwz : (wDel p L L.length mid ++ zs).length = L.length + zs.length := by simp; omega
      simp only [htl]
      refine qv m_mv ?_
      refine qv m_mv ?_
      first | refine qv (m_cutRn el32 sz3) ?_ | refine qv (m_cutR el32 sz3) ?_ | refine qv (m_cutR0 el32 sz3) ?_
      first | refine qcl el32 ze3 ?_ | refine qcl0 el32 ?_
      show AWp cx _ _ _
      refine awp_seq ?_
      refine rg ?_
      refine qv m_mv ?_
      refine qv m_mv ?_
      first | refine qv (m_cutRn el32 sz3) ?_ | refine qv (m_cutR el32 sz3) ?_ | refine qv (m_cutR0 el32 sz3) ?_
      refine qv m_as ?_
      show AWp cx _ _ _
      refine awp_ret ?_
      exact xg [(100000, 100000)]

end Go.Ab.Tryd

