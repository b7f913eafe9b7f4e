/- The functions of the moss laws, part 4. The walks are written by wip/gen/gw.py. -/
import Derived.Test.YtjipgkhfbfpacaaDoorMoss3
import Derived.Test.YtjipgkhfbfpacaaDoorMossFacts
import Derived.Test.YtjipgkhfbfpacaaDoorMossT
set_option linter.all false
namespace Go.Ab.Tryd
open Go Go.Ab Go.Proofs Go.Ab.Moss

theorem sq_get {N c k : Nat} {x : List DV} (h : ((List.range N).map (sqArg c))[k]? = some x) : k < N ∧ x = sqArg c k := by
  rw [List.getElem?_map, Option.map_eq_some_iff] at h
  obtain ⟨j, hj, rfl⟩ := h
  obtain ⟨h1, h2⟩ := List.getElem?_eq_some_iff.1 hj
  simp at h1 h2
  subst h2
  exact ⟨h1, rfl⟩
theorem sq_len {N c : Nat} : ((List.range N).map (sqArg c)).length = N := by simp
theorem from_wet {n : Mn} {w : Int} (h : fromB w 0 (full n) = true) : ∃ v : Nat, v ≤ full n ∧ w = (v : Int) := by
  simp only [fromB, Bool.and_eq_true, decide_eq_true_eq] at h
  exact ⟨w.toNat, by omega, by omega⟩
theorem valid_ne {m : Mw} (h : validB m = false) : ¬ (validB m = true) := by simp [h]


theorem f24 (m : Mw) : ACallsF Tryd.prog 24 [dMw m] (.one (.dv (i64 (valid m)))) := by
  refine callsF_of Tryd.func24 rfl rfl (by rw [Tryd.ntmps24]; simp) fun cx hP hn hg => ?_
  rw [Tryd.ntmps24] at hn
  rw [startF_lk, none_mkM]
  simp only [List.nil_append, List.append_nil, List.cons_append, zipSV, Nat.reduceAdd]
  refine awp_seq ?_
  refine rg ?_
  refine qp m_box ?_
  refine qv m_as ?_
  show AWp cx _ _ _
  refine awp_seq ?_
  refine awp_seq ?_
  refine rg ?_
  refine qv (m_fdp fd23_0) ?_
  refine qv (m_ldp sz3 ag3) ?_
  refine qqF (f68 m.rows 1 6) ?_
  refine qv m_not ?_
  refine qx m_mv (fun hg7 => ?_) (fun hg7 => ?_)
  · try simp at hg7
    refine qk ?_
    refine qk ?_
    refine qk ?_
    refine qk ?_
    refine qv m_pk ?_
    refine qv m_mv ?_
    refine qk ?_
    refine qk ?_
    refine qk ?_
    refine qk ?_
    refine qv m_pk ?_
    show AWp cx _ _ _
    refine cdT (hb := by first | rfl | simp | simp_all) (ht := ?_)
    refine awp_seq ?_
    refine rg ?_
    refine qv m_as ?_
    show AWp cx _ _ _
    refine awp_ret ?_
    exact x1 (hr := (rI_ (by simp_all [valid, validB])))
  · try simp at hg7
    refine qv (m_fdp fd23_1) ?_
    refine qv (m_ldp sz3 ag3) ?_
    refine qqF (f68 m.cols 1 6) ?_
    refine qv m_not ?_
    refine qv m_pk ?_
    refine qx m_mv (fun hg13 => ?_) (fun hg13 => ?_)
    · try simp at hg13
      refine qk ?_
      refine qk ?_
      refine qk ?_
      refine qk ?_
      refine qv m_pk ?_
      show AWp cx _ _ _
      refine cdT (hb := by first | rfl | simp | simp_all) (ht := ?_)
      refine awp_seq ?_
      refine rg ?_
      refine qv m_as ?_
      show AWp cx _ _ _
      refine awp_ret ?_
      exact x1 (hr := (rI_ (by simp_all [valid, validB])))
    · try simp at hg13
      refine qv (m_fdp fd23_2) ?_
      refine qv (m_ldp sz3 ag3) ?_
      refine qqF (f68 m.need 1 3) ?_
      refine qv m_not ?_
      refine qv m_pk ?_
      show AWp cx _ _ _
      refine cd (fun hc0 => ?_) (fun hc0 => ?_)
      · try simp at hc0
        refine awp_seq ?_
        refine rg ?_
        refine qv m_as ?_
        show AWp cx _ _ _
        refine awp_ret ?_
        exact x1 (hr := (rI_ (by simp_all [valid, validB])))
      · try simp at hc0
        refine awp_skip ?_
        show AWp cx _ _ _
        refine awp_seq ?_
        refine rg ?_
        refine qv m_as ?_
        show AWp cx _ _ _
        refine awp_ret ?_
        exact x1 (hr := (rI_ (by simp_all [valid, validB])))

theorem f25 (m : Mw) : ACallsF Tryd.prog 25 [dMw m] (.one (.dv (i64 (valid m)))) := by
  refine callsF_of Tryd.func25 rfl rfl (by rw [Tryd.ntmps25]; simp) fun cx hP hn hg => ?_
  rw [Tryd.ntmps25] at hn
  rw [startF_lk, none_mkM]
  simp only [List.nil_append, List.append_nil, List.cons_append, zipSV, Nat.reduceAdd]
  refine awp_seq ?_
  refine rg ?_
  refine qp m_box ?_
  refine qv m_as ?_
  show AWp cx _ _ _
  refine awp_seq ?_
  refine awp_seq ?_
  refine rg ?_
  refine qv (m_fdp fd23_0) ?_
  refine qv (m_ldp sz3 ag3) ?_
  refine qqF (f66 m.rows 1 6) ?_
  refine qv m_not ?_
  refine qx m_mv (fun hg7 => ?_) (fun hg7 => ?_)
  · try simp at hg7
    refine qk ?_
    refine qk ?_
    refine qk ?_
    refine qk ?_
    refine qv m_pk ?_
    refine qv m_mv ?_
    refine qk ?_
    refine qk ?_
    refine qk ?_
    refine qk ?_
    refine qv m_pk ?_
    show AWp cx _ _ _
    refine cdT (hb := by first | rfl | simp | simp_all) (ht := ?_)
    refine awp_seq ?_
    refine rg ?_
    refine qv m_as ?_
    show AWp cx _ _ _
    refine awp_ret ?_
    exact x1 (hr := (rI_ (by simp_all [valid, validB])))
  · try simp at hg7
    refine qv (m_fdp fd23_1) ?_
    refine qv (m_ldp sz3 ag3) ?_
    refine qqF (f66 m.cols 1 6) ?_
    refine qv m_not ?_
    refine qv m_pk ?_
    refine qx m_mv (fun hg13 => ?_) (fun hg13 => ?_)
    · try simp at hg13
      refine qk ?_
      refine qk ?_
      refine qk ?_
      refine qk ?_
      refine qv m_pk ?_
      show AWp cx _ _ _
      refine cdT (hb := by first | rfl | simp | simp_all) (ht := ?_)
      refine awp_seq ?_
      refine rg ?_
      refine qv m_as ?_
      show AWp cx _ _ _
      refine awp_ret ?_
      exact x1 (hr := (rI_ (by simp_all [valid, validB])))
    · try simp at hg13
      refine qv (m_fdp fd23_2) ?_
      refine qv (m_ldp sz3 ag3) ?_
      refine qqF (f66 m.need 1 3) ?_
      refine qv m_not ?_
      refine qv m_pk ?_
      show AWp cx _ _ _
      refine cd (fun hc0 => ?_) (fun hc0 => ?_)
      · try simp at hc0
        refine awp_seq ?_
        refine rg ?_
        refine qv m_as ?_
        show AWp cx _ _ _
        refine awp_ret ?_
        exact x1 (hr := (rI_ (by simp_all [valid, validB])))
      · try simp at hc0
        refine awp_skip ?_
        show AWp cx _ _ _
        refine awp_seq ?_
        refine rg ?_
        refine qv m_as ?_
        show AWp cx _ _ _
        refine awp_ret ?_
        exact x1 (hr := (rI_ (by simp_all [valid, validB])))

theorem f65 (n : Mn) (ok : n.Ok) (s : Int) : ACallsF Tryd.prog 65 [dMn n, i64 s] (.one (.dv (.bool (fromB s 0 ((n.r * n.c : Nat) - 1))))) := by
  have hN := ok.N2
  have hN1 := ok.N1
  refine callsF_of Tryd.func65 rfl rfl (by rw [Tryd.ntmps65]; simp) fun cx hP hn hg => ?_
  rw [Tryd.ntmps65] at hn
  rw [startF_lk, none_mkM]
  simp only [List.nil_append, List.append_nil, List.cons_append, zipSV, Nat.reduceAdd]
  refine awp_seq ?_
  refine rg ?_
  refine qp m_box ?_
  refine qv m_as ?_
  show AWp cx _ _ _
  refine awp_seq ?_
  refine rg ?_
  refine qv m_mv ?_
  refine qv (m_fdp fd23_0) ?_
  refine qv (m_ldp sz3 ag3) ?_
  refine qv (m_fdp fd23_1) ?_
  refine qv (m_ldp sz3 ag3) ?_
  refine qv m_mulN ?_
  refine qv m_sub ?_
  refine qqF (f68 s 0 ((n.r * n.c : Nat) - 1)) ?_
  refine qv m_as ?_
  show AWp cx _ _ _
  refine awp_ret ?_
  exact x1 (hr := (rB_))

theorem f62 (n : Mn) (ok : n.Ok) : ACallsF Tryd.prog 62 [dMn n] (.one (.dv (i64 ((n.r * n.c : Nat) : Int)))) := by
  have hN := ok.N2
  refine callsF_of Tryd.func62 rfl rfl (by rw [Tryd.ntmps62]; simp) fun cx hP hn hg => ?_
  rw [Tryd.ntmps62] at hn
  rw [startF_lk, none_mkM]
  simp only [List.nil_append, List.append_nil, List.cons_append, zipSV, Nat.reduceAdd]
  refine awp_seq ?_
  refine rg ?_
  refine qp m_box ?_
  refine qv m_as ?_
  show AWp cx _ _ _
  refine awp_seq ?_
  refine rg ?_
  refine qv (m_fdp fd23_0) ?_
  refine qv (m_ldp sz3 ag3) ?_
  refine qv (m_fdp fd23_1) ?_
  refine qv (m_ldp sz3 ag3) ?_
  refine qv m_mulN ?_
  refine qv m_as ?_
  show AWp cx _ _ _
  refine awp_ret ?_
  exact x1 (hr := (rI_))

theorem f72 (n : Mn) (ok : n.Ok) : ACallsF Tryd.prog 72 [dMn n] (.one (.dv (i64 (full n : Int)))) := by
  have hN := ok.N2
  have hf := full_add (n := n)
  have hlt := full_lt ok
  refine callsF_of Tryd.func72 rfl rfl (by rw [Tryd.ntmps72]; simp) fun cx hP hn hg => ?_
  rw [Tryd.ntmps72] at hn
  rw [startF_lk, none_mkM]
  simp only [List.nil_append, List.append_nil, List.cons_append, zipSV, Nat.reduceAdd]
  refine awp_seq ?_
  refine rg ?_
  refine qp m_box ?_
  refine qv m_as ?_
  show AWp cx _ _ _
  refine awp_seq ?_
  refine rg ?_
  refine qv (m_ldpa sz23 ag23) ?_
  refine qqF (f62 n ok) ?_
  refine qv (m_cnvU kd3 kd41) ?_
  refine qv (m_shlS (n.r * n.c)) ?_
  refine qv (m_subN (full n)) ?_
  refine qv m_as ?_
  show AWp cx _ _ _
  refine awp_ret ?_
  exact x1 (hr := (rI_))

/-- The error of a meadow and a set. -/
def wetE (m : Mw) (w : Int) : Int := if validB m then (if fromB w 0 (2 ^ (m.rows * m.cols).toNat - 1) then 0 else 1) else 1
theorem wetE_n {n : Mn} (ok : n.Ok) {w : Int} : wetE n.w w = if fromB w 0 (full n) then 0 else 1 := by
  have e : (2 ^ ((n.r : Int) * (n.c : Int)).toNat - 1 : Int) = ((full n : Nat) : Int) := by
    rw [← Int.natCast_mul, Int.toNat_natCast]
    have := full_add (n := n)
    have h2 : (2 : Int) ^ (n.r * n.c) = ((2 ^ (n.r * n.c) : Nat) : Int) := by norm_cast
    rw [h2]; omega
  simp only [wetE, n_valid ok, if_true]
  rw [show (n.w.rows * n.w.cols) = (n.r : Int) * (n.c : Int) from rfl, e]
theorem wetE_ok {m : Mw} {w : Int} (h : wetE m w = 0) : ∃ (n : Mn) (v : Nat), n.Ok ∧ m = n.w ∧ w = (v : Int) ∧ v ≤ full n := by
  by_cases hv : validB m = true
  · obtain ⟨n, ok, rfl⟩ := valid_n hv
    rw [wetE_n ok] at h
    split at h
    · rename_i h1
      obtain ⟨v, h2, h3⟩ := from_wet h1
      exact ⟨n, v, ok, rfl, h3, h2⟩
    · cases h
  · simp [wetE, hv] at h

theorem f56 (m : Mw) (w : Int) : ACallsF Tryd.prog 56 [dMw m, i64 w] (.one (.dv (i64 (wetE m w)))) := by
  refine callsF_of Tryd.func56 rfl rfl (by rw [Tryd.ntmps56]; simp) fun cx hP hn hg => ?_
  rw [Tryd.ntmps56] at hn
  rw [startF_lk, none_mkM]
  simp only [List.nil_append, List.append_nil, List.cons_append, zipSV, Nat.reduceAdd]
  refine awp_seq ?_
  refine rg ?_
  refine qp m_box ?_
  refine qv m_as ?_
  show AWp cx _ _ _
  refine awp_seq ?_
  refine awp_seq ?_
  refine rg ?_
  refine qv (m_ldpa sz23 ag23) ?_
  refine qqF (f24 m) ?_
  refine qv m_as ?_
  show AWp cx _ _ _
  refine awp_seq ?_
  refine rg ?_
  refine qv m_mv ?_
  refine qv m_neq ?_
  show AWp cx _ _ _
  refine cd (fun hc0 => ?_) (fun hc0 => ?_)
  · skip
    have hv : validB m = false := by simpa [valid] using hc0
    refine awp_seq ?_
    refine rg ?_
    refine qv m_mv ?_
    refine qv m_as ?_
    show AWp cx _ _ _
    refine awp_ret ?_
    exact x1 (hr := (rI_ (by simp [wetE, valid, hv])))
  · skip
    have hv : validB m = true := by simpa [valid] using hc0
    obtain ⟨n, ok, rfl⟩ := valid_n hv
    have hw := wetE_n ok (w := w)
    refine awp_skip ?_
    show AWp cx _ _ _
    refine awp_seq ?_
    refine awp_seq ?_
    refine rg ?_
    refine qv m_mv ?_
    refine qv (m_ldpa sz23 ag23) ?_
    refine qqF (f78 n ok) ?_
    refine qqF (f68 w 0 (full n)) ?_
    refine qv m_not ?_
    show AWp cx _ _ _
    refine cd (fun hc1 => ?_) (fun hc1 => ?_)
    · try simp at hc1
      refine awp_seq ?_
      refine rg ?_
      refine qv m_as ?_
      show AWp cx _ _ _
      refine awp_ret ?_
      exact x1 (hr := (rI_ (by simp_all)))
    · try simp at hc1
      refine awp_skip ?_
      show AWp cx _ _ _
      refine awp_seq ?_
      refine rg ?_
      refine qv m_as ?_
      show AWp cx _ _ _
      refine awp_ret ?_
      exact x1 (hr := (rI_ (by simp_all)))

theorem f61 (m : Mw) (w : Int) : ACallsF Tryd.prog 61 [dMw m, i64 w] (.one (.dv (i64 (wetE m w)))) := by
  refine callsF_of Tryd.func61 rfl rfl (by rw [Tryd.ntmps61]; simp) fun cx hP hn hg => ?_
  rw [Tryd.ntmps61] at hn
  rw [startF_lk, none_mkM]
  simp only [List.nil_append, List.append_nil, List.cons_append, zipSV, Nat.reduceAdd]
  refine awp_seq ?_
  refine rg ?_
  refine qp m_box ?_
  refine qv m_as ?_
  show AWp cx _ _ _
  refine awp_seq ?_
  refine rg ?_
  refine qv (m_ldpa sz23 ag23) ?_
  refine qqF (f25 m) ?_
  refine qv m_as ?_
  show AWp cx _ _ _
  refine awp_seq ?_
  refine awp_seq ?_
  refine rg ?_
  refine qv m_mv ?_
  refine qv m_neq ?_
  show AWp cx _ _ _
  refine cd (fun hc0 => ?_) (fun hc0 => ?_)
  · skip
    have hv : validB m = false := by simpa [valid] using hc0
    refine awp_seq ?_
    refine rg ?_
    refine qv m_mv ?_
    refine qv m_as ?_
    show AWp cx _ _ _
    refine awp_ret ?_
    exact x1 (hr := (rI_ (by simp [wetE, valid, hv])))
  · skip
    have hv : validB m = true := by simpa [valid] using hc0
    obtain ⟨n, ok, rfl⟩ := valid_n hv
    have hw := wetE_n ok (w := w)
    refine awp_skip ?_
    show AWp cx _ _ _
    refine awp_seq ?_
    refine awp_seq ?_
    refine rg ?_
    refine qv m_mv ?_
    refine qv (m_ldpa sz23 ag23) ?_
    refine qqF (f72 n ok) ?_
    refine qqF (f66 w 0 (full n)) ?_
    refine qv m_not ?_
    show AWp cx _ _ _
    refine cd (fun hc1 => ?_) (fun hc1 => ?_)
    · try simp at hc1
      refine awp_seq ?_
      refine rg ?_
      refine qv m_as ?_
      show AWp cx _ _ _
      refine awp_ret ?_
      exact x1 (hr := (rI_ (by simp_all)))
    · try simp at hc1
      refine awp_skip ?_
      show AWp cx _ _ _
      refine awp_seq ?_
      refine rg ?_
      refine qv m_as ?_
      show AWp cx _ _ _
      refine awp_ret ?_
      exact x1 (hr := (rI_ (by simp_all)))

theorem f92 (n : Mn) : ACalls Tryd.prog 92 [dMn n] (.one (.dv (.fn 103 [] [.cptr [i64 (n.r : Int), i64 (n.c : Int), i64 (n.nd : Int)]]))) := by
  refine callsA_of Tryd.func92 rfl rfl (by rw [Tryd.ntmps92]; simp) fun cx hP hn hg => ?_
  rw [Tryd.ntmps92] at hn
  rw [startF_lk, none_mkM]
  simp only [List.nil_append, List.append_nil, List.cons_append, zipSV, Nat.reduceAdd]
  refine awp_seq ?_
  refine rg ?_
  refine qp m_box ?_
  refine qv m_as ?_
  show AWp cx _ _ _
  refine awp_seq ?_
  refine rg ?_
  refine qfn ?_
  refine qv m_as ?_
  show AWp cx _ _ _
  refine awp_ret ?_
  exact x1 (hr := (rD_))

end Go.Ab.Tryd
