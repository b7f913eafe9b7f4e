/- The functions of the moss laws, part 29. The walks are written by wip/gen/gw.py. -/
import Derived.Test.YtjipgkhfbfpacaaDoorMossL4
import Derived.Test.YtjipgkhfbfpacaaDoorMossFacts
import Derived.Test.YtjipgkhfbfpacaaDoorMossD
set_option linter.all false
namespace Go.Ab.Tryd
open Go Go.Ab Go.Proofs Go.Ab.Moss

theorem turnM_wf (m : Mw) (w : Int) : (Lit.int .i64 (turnM m w).rows).wf = true ∧ (Lit.int .i64 (turnM m w).cols).wf = true ∧ (Lit.int .i64 (turnM m w).need).wf = true := by
  by_cases he : wetE m w = 0
  · obtain ⟨n, v, ok, rfl, rfl, hv⟩ := wetE_ok he
    rw [turnM_ok ok hv]
    obtain ⟨a, b, c, d, e, f⟩ := ok
    exact ⟨wf_i64 (by simp only; omega), wf_i64 (by simp only; omega), wf_i64 (by simp only; omega)⟩
  · rw [turnM_no he]
    exact ⟨by decide, by decide, by decide⟩
theorem f44k {n : Mn} (ok : n.Ok) {v : Nat} (hv : v ≤ full n) : ACallsF Tryd.prog 44 [dMn n, i64 (v : Int)] (.many [.dv (dMn (tn n)), .dv (i64 (movF v (turnK n) (n.r * n.c) : Int)), .dv (i64 0)]) := by
  have h := f44 n.w v
  rw [turnM_ok ok hv, onWet_ok ok hv, wetE_v ok hv] at h
  exact h
theorem f46k {n : Mn} (ok : n.Ok) {v : Nat} (hv : v ≤ full n) : ACallsF Tryd.prog 46 [dMn n, i64 (v : Int)] (.many [.dv (i64 (movF v (mirK n) (n.r * n.c) : Int)), .dv (i64 0)]) := by
  have h := f46 n.w v
  rw [onWet_ok ok hv, wetE_v ok hv] at h
  exact h


set_option maxHeartbeats 8000000 in
theorem f13 (m : Mw) (w : Int) : ACallsF Tryd.prog 13 [dMw m, i64 w] (.one (.dv (.bool true))) := by
  obtain ⟨wf1, wf2, wf3⟩ := turnM_wf m w
  refine callsF_of Tryd.func13 rfl rfl (by rw [Tryd.ntmps13]; simp) fun cx hP hn hg => ?_
  rw [Tryd.ntmps13] at hn
  rw [startF_lk, none_mkM]
  simp only [List.nil_append, List.append_nil, List.cons_append, zipSV, Nat.reduceAdd]
  refine awp_seq ?_
  refine rg ?_
  refine qp m_box ?_
  refine qv m_as ?_
  show AWp cx _ _ _
  refine awp_seq ?_
  refine rg ?_
  refine qv (m_ldpa sz23 ag23) ?_
  refine qv m_mv ?_
  refine qqF (f44 m w) ?_
  refine qv m_mv ?_
  refine qv m_ext ?_
  refine qv m_ext ?_
  refine qv m_ext ?_
  refine qp (m_al ze23) ?_
  refine qs (m_st sz23) ?_
  refine qv m_as ?_
  refine qv m_as ?_
  show AWp cx _ _ _
  refine awp_seq ?_
  refine rg ?_
  refine qv (m_ldpa sz23 ag23) ?_
  refine qv m_mv ?_
  refine qqF (f45 m w) ?_
  refine qv m_mv ?_
  refine qv m_ext ?_
  refine qv m_ext ?_
  refine qv m_ext ?_
  refine qp (m_al ze23) ?_
  refine qs (m_st sz23) ?_
  refine qv m_as ?_
  refine qv m_as ?_
  show AWp cx _ _ _
  refine awp_seq ?_
  refine rg ?_
  refine qv (m_ldpa sz23 ag23) ?_
  refine qv m_mv ?_
  refine qqF (f46 m w) ?_
  refine qv m_mv ?_
  refine qv m_ext ?_
  refine qv m_ext ?_
  refine qv m_as ?_
  refine qv m_as ?_
  show AWp cx _ _ _
  refine awp_seq ?_
  refine rg ?_
  refine qv (m_ldpa sz23 ag23) ?_
  refine qv m_mv ?_
  refine qqF (f47 m w) ?_
  refine qv m_mv ?_
  refine qv m_ext ?_
  refine qv m_ext ?_
  refine qv m_as ?_
  refine qv m_as ?_
  show AWp cx _ _ _
  refine awp_seq ?_
  refine awp_seq ?_
  refine rg ?_
  refine qv (m_ldpa sz23 ag23) ?_
  refine qv (m_ldpa sz23 ag23) ?_
  refine qneM wf1 wf2 wf3 ?_ (by simp only [St.ev, lk, reduceIte, Nat.reduceEqDiff] <;> rfl) (by simp only [St.ev, lk, reduceIte, Nat.reduceEqDiff] <;> rfl)
  refine qx m_mv (fun hg55 => ?_) (fun hg55 => ?_)
  · exact absurd hg55 (by simp)
  refine qv m_mv ?_
  refine qv m_mv ?_
  refine qv m_neq ?_
  refine qv m_pk ?_
  refine qx m_mv (fun hg60 => ?_) (fun hg60 => ?_)
  · exact absurd hg60 (by simp)
  refine qv m_mv ?_
  refine qv m_mv ?_
  refine qv m_neq ?_
  refine qv m_pk ?_
  refine qx m_mv (fun hg65 => ?_) (fun hg65 => ?_)
  · exact absurd hg65 (by simp)
  refine qv m_mv ?_
  refine qv m_mv ?_
  refine qv m_neq ?_
  refine qv m_pk ?_
  refine qx m_mv (fun hg70 => ?_) (fun hg70 => ?_)
  · exact absurd hg70 (by simp)
  refine qv m_mv ?_
  refine qv m_mv ?_
  refine qv m_neq ?_
  refine qv m_pk ?_
  show AWp cx _ _ _
  refine cdF (hb := by simp) (ht := ?_)
  refine awp_skip ?_
  show AWp cx _ _ _
  refine awp_seq ?_
  refine awp_seq ?_
  refine rg ?_
  refine qv m_mv ?_
  refine qv m_neq ?_
  show AWp cx _ _ _
  refine cd (fun hc1 => ?_) (fun hc1 => ?_)
  · skip
    refine awp_seq ?_
    refine rg ?_
    refine qqF (f18) ?_
    refine qv m_as ?_
    show AWp cx _ _ _
    refine awp_ret ?_
    exact x1 (hr := (rB_))
  · skip
    clear wf1 wf2 wf3
    have he : wetE m w = 0 := by simpa using hc1
    obtain ⟨n, v, ok, rfl, rfl, hv⟩ := wetE_ok he
    have hv36 := le36 ok hv
    have hwe := wetE_v ok hv
    rw [turnM_ok ok hv, onWet_ok ok hv, onWet_ok ok hv]
    have RT := ren_turn ok
    have RM := ren_mir ok
    have huf := or_full hv (rd_full (n := n) (w := v))
    have hs1 := RT.step (v := v)
    have hs2 := RM.step (v := v)
    refine awp_skip ?_
    show AWp cx _ _ _
    refine awp_seq ?_
    refine rg ?_
    refine qv (m_ldpa sz23 ag23) ?_
    refine qv m_mv ?_
    refine qqF (f21k ok hv) ?_
    refine qv m_mv ?_
    refine qv m_ext ?_
    refine qv m_ext ?_
    refine qv m_as ?_
    refine qv m_as ?_
    show AWp cx _ _ _
    refine awp_seq ?_
    refine rg ?_
    refine qv (m_ldpa sz23 ag23) ?_
    refine qv m_mv ?_
    refine qqF (f21k (n := tn n) RT.ok' (RT.full (v := v))) ?_
    refine qv m_mv ?_
    refine qv m_ext ?_
    refine qv m_ext ?_
    refine qv m_as ?_
    refine qv m_as ?_
    show AWp cx _ _ _
    refine awp_seq ?_
    refine rg ?_
    refine qv (m_ldpa sz23 ag23) ?_
    refine qv m_mv ?_
    refine qqF (f44k ok huf) ?_
    refine qv m_mv ?_
    refine qv m_ext ?_
    refine qv m_ext ?_
    refine qv m_ext ?_
    refine qp (m_al ze23) ?_
    refine qs (m_st sz23) ?_
    refine qv m_as ?_
    refine qv m_as ?_
    show AWp cx _ _ _
    refine awp_seq ?_
    refine rg ?_
    refine qv (m_ldpa sz23 ag23) ?_
    refine qv m_mv ?_
    refine qqF (f21k ok (RM.full (v := v))) ?_
    refine qv m_mv ?_
    refine qv m_ext ?_
    refine qv m_ext ?_
    refine qv m_as ?_
    refine qv m_as ?_
    show AWp cx _ _ _
    refine awp_seq ?_
    refine rg ?_
    refine qv (m_ldpa sz23 ag23) ?_
    refine qv m_mv ?_
    refine qqF (f46k ok huf) ?_
    refine qv m_mv ?_
    refine qv m_ext ?_
    refine qv m_ext ?_
    refine qv m_as ?_
    refine qv m_as ?_
    show AWp cx _ _ _
    refine awp_seq ?_
    refine rg ?_
    refine qv m_mv ?_
    refine qv m_eql ?_
    refine qx m_mv (fun hg111 => ?_) (fun hg111 => ?_)
    rotate_left
    · exact absurd hg111 (by simp)
    refine qv m_mv ?_
    refine qv m_eql ?_
    refine qv m_pk ?_
    refine qx m_mv (fun hg115 => ?_) (fun hg115 => ?_)
    rotate_left
    · exact absurd hg115 (by simp)
    refine qv m_mv ?_
    refine qv m_eql ?_
    refine qv m_pk ?_
    refine qx m_mv (fun hg119 => ?_) (fun hg119 => ?_)
    rotate_left
    · exact absurd hg119 (by simp)
    refine qv m_mv ?_
    refine qv m_mv ?_
    refine qv m_eql ?_
    refine qv m_pk ?_
    refine qx m_mv (fun hg124 => ?_) (fun hg124 => ?_)
    rotate_left
    · exact absurd hg124 (by rw [hs1]; simp)
    refine qv m_mv ?_
    refine qv m_eql ?_
    refine qv m_pk ?_
    refine qx m_mv (fun hg128 => ?_) (fun hg128 => ?_)
    rotate_left
    · exact absurd hg128 (by simp)
    refine qv m_mv ?_
    refine qv m_eql ?_
    refine qv m_pk ?_
    refine qx m_mv (fun hg132 => ?_) (fun hg132 => ?_)
    rotate_left
    · exact absurd hg132 (by simp)
    refine qv m_mv ?_
    refine qv m_mv ?_
    refine qv m_eql ?_
    refine qv m_pk ?_
    refine qx m_mv (fun hg137 => ?_) (fun hg137 => ?_)
    rotate_left
    · exact absurd hg137 (by rw [hs2]; simp)
    refine qqF (f18) ?_
    refine qv m_pk ?_
    refine qv m_as ?_
    show AWp cx _ _ _
    refine awp_ret ?_
    exact x1 (hr := (rB_))

end Go.Ab.Tryd
