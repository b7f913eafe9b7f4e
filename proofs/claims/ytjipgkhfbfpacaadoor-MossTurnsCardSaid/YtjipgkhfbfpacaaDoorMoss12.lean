/- The functions of the moss laws, part 12. The walks are written by wip/gen/gw.py. -/
import Derived.Test.YtjipgkhfbfpacaaDoorMossL3
import Derived.Test.YtjipgkhfbfpacaaDoorMossFacts
import Derived.Test.YtjipgkhfbfpacaaDoorMossD
set_option linter.all false
namespace Go.Ab.Tryd
open Go Go.Ab Go.Proofs Go.Ab.Moss

theorem wetE_ok2 {n : Mn} (ok : n.Ok) {w : Int} (h : wetE n.w w = 0) : ∃ v : Nat, w = (v : Int) ∧ v ≤ full n := by
  rw [wetE_n ok] at h
  split at h
  · rename_i h1
    simp only [fromB, Bool.and_eq_true, decide_eq_true_eq] at h1
    exact ⟨w.toNat, by omega, by omega⟩
  · cases h
theorem f17k {n : Mn} (ok : n.Ok) {v : Nat} (hv : v ≤ full n) : ACallsF Tryd.prog 17 [dMn n, i64 (v : Int)] (.many [.dv (i64 ((spr n v).1 : Int)), .dv (i64 ((spr n v).2 : Int)), .dv (i64 0)]) := by
  have h := f17 n.w v
  rw [onWet_ok ok hv, onWet_ok ok hv, wetE_v ok hv] at h
  exact h
theorem f21k {n : Mn} (ok : n.Ok) {v : Nat} (hv : v ≤ full n) : ACallsF Tryd.prog 21 [dMn n, i64 (v : Int)] (.many [.dv (i64 ((v ||| rdN n v : Nat) : Int)), .dv (i64 0)]) := by
  have h := f21 n.w v
  rw [onWet_ok ok hv, wetE_v ok hv] at h
  exact h
theorem f19k {n : Mn} (ok : n.Ok) {v : Nat} (hv : v ≤ full n) : ACallsF Tryd.prog 19 [dMn n, i64 (v : Int)] (.many [.dv (i64 (edgeR n v)), .dv (i64 0)]) := by
  have h := f19 n.w v
  rw [onWet_ok ok hv, wetE_v ok hv] at h
  exact h
theorem valid_need {n : Mn} (ok : n.Ok) {w : Int} (h : wetE ⟨n.r, n.c, (n.nd : Int) + 1⟩ w = 0) : Mn.Ok ⟨n.r, n.c, n.nd + 1⟩ := by
  unfold wetE at h
  split at h
  · rename_i h1
    simp only [validB, fromB, Bool.and_eq_true, decide_eq_true_eq] at h1
    obtain ⟨a, b, c, d, e, f⟩ := ok
    refine ⟨a, b, c, d, ?_, ?_⟩ <;> simp only <;> omega
  · cases h


set_option maxHeartbeats 4000000 in
theorem f4 (m : Mw) (w : Int) : ACallsF Tryd.prog 4 [dMw m, i64 w] (.one (.dv (.bool true))) := by
  refine callsF_of Tryd.func4 rfl rfl (by rw [Tryd.ntmps4]; simp) fun cx hP hn hg => ?_
  rw [Tryd.ntmps4] at hn
  rw [startF_lk, none_mkM]
  simp only [List.nil_append, List.append_nil, List.cons_append, zipSV, Nat.reduceAdd]
  refine awp_seq ?_
  refine rg ?_
  refine qp m_box ?_
  refine qv m_as ?_
  show AWp cx _ _ _
  refine awp_seq ?_
  refine rg ?_
  refine qv (m_ldpa sz23 ag23) ?_
  refine qv m_mv ?_
  refine qqF (f19 m w) ?_
  refine qv m_mv ?_
  refine qv m_ext ?_
  refine qv m_ext ?_
  refine qv m_as ?_
  refine qv m_as ?_
  show AWp cx _ _ _
  refine awp_seq ?_
  refine rg ?_
  refine qv (m_ldpa sz23 ag23) ?_
  refine qv m_mv ?_
  refine qqF (f20 m w) ?_
  refine qv m_mv ?_
  refine qv m_ext ?_
  refine qv m_ext ?_
  refine qv m_as ?_
  refine qv m_as ?_
  show AWp cx _ _ _
  refine awp_seq ?_
  refine awp_seq ?_
  refine rg ?_
  refine qv m_mv ?_
  refine qv m_mv ?_
  refine qv m_neq ?_
  refine qx m_mv (fun hg28 => ?_) (fun hg28 => ?_)
  · exact absurd hg28 (by simp)
  refine qv m_mv ?_
  refine qv m_mv ?_
  refine qv m_neq ?_
  refine qv m_pk ?_
  show AWp cx _ _ _
  refine cdF (hb := by simp) (ht := ?_)
  refine awp_skip ?_
  show AWp cx _ _ _
  refine awp_seq ?_
  refine awp_seq ?_
  refine rg ?_
  refine qv m_mv ?_
  refine qv m_neq ?_
  refine qx m_mv (fun hg35 => ?_) (fun hg35 => ?_)
  · try simp at hg35
    refine qk ?_
    refine qk ?_
    refine qk ?_
    refine qv m_pk ?_
    show AWp cx _ _ _
    refine cdT (hb := by first | rfl | simp | simp_all) (ht := ?_)
    refine awp_seq ?_
    refine rg ?_
    refine qqF (f18) ?_
    refine qv m_as ?_
    show AWp cx _ _ _
    refine awp_ret ?_
    exact x1 (hr := (rB_))
  · try simp at hg35
    have he : wetE m w = 0 := by simpa using hg35
    obtain ⟨n, v, ok, rfl, rfl, hv⟩ := wetE_ok he
    have hv36 := le36 ok hv
    have hwe := wetE_v ok hv
    refine qv (m_fdp fd23_2) ?_
    refine qv (m_ldp sz3 ag3) ?_
    refine qv m_lss ?_
    refine qv m_pk ?_
    show AWp cx _ _ _
    refine cd (fun hc1 => ?_) (fun hc1 => ?_)
    · try simp at hc1
      refine awp_seq ?_
      refine rg ?_
      refine qqF (f18) ?_
      refine qv m_as ?_
      show AWp cx _ _ _
      refine awp_ret ?_
      exact x1 (hr := (rB_))
    · try simp at hc1
      have h2 : 2 ≤ n.nd := by omega
      have hst := edge_step ok h2 hv (Sub.refl (rdN n v))
      have hsf := or_full hv (rd_full (n := n) (w := v))
      have hon : onWet n.w (v : Int) 0 edgeR = edgeR n v := onWet_ok ok hv
      refine awp_skip ?_
      show AWp cx _ _ _
      refine awp_seq ?_
      refine rg ?_
      refine qv (m_ldpa sz23 ag23) ?_
      refine qv m_mv ?_
      refine qqF (f21k ok hv) ?_
      refine qv m_mv ?_
      refine qv m_ext ?_
      refine qv m_ext ?_
      refine qv m_as ?_
      refine qv m_as ?_
      show AWp cx _ _ _
      refine awp_seq ?_
      refine rg ?_
      refine qv (m_ldpa sz23 ag23) ?_
      refine qv m_mv ?_
      refine qqF (f19k ok hsf) ?_
      refine qv m_mv ?_
      refine qv m_ext ?_
      refine qv m_ext ?_
      refine qv m_as ?_
      refine qv m_as ?_
      show AWp cx _ _ _
      refine awp_seq ?_
      refine rg ?_
      refine qv m_mv ?_
      refine qv m_eql ?_
      refine qx m_mv (fun hg55 => ?_) (fun hg55 => ?_)
      rotate_left
      · exact absurd hg55 (by simp)
      refine qv m_mv ?_
      refine qv m_eql ?_
      refine qv m_pk ?_
      refine qx m_mv (fun hg59 => ?_) (fun hg59 => ?_)
      rotate_left
      · exact absurd hg59 (by simp)
      refine qv m_mv ?_
      refine qv m_mv ?_
      refine qv m_leq ?_
      refine qv m_pk ?_
      refine qx m_mv (fun hg64 => ?_) (fun hg64 => ?_)
      rotate_left
      · exact absurd hg64 (by rw [hon]; simpa using hst)
      refine qqF (f18) ?_
      refine qv m_pk ?_
      refine qv m_as ?_
      show AWp cx _ _ _
      refine awp_ret ?_
      exact x1 (hr := (rB_))

set_option maxHeartbeats 4000000 in
theorem f3 (m : Mw) (w1 w2 : Int) : ACallsF Tryd.prog 3 [dMw m, i64 w1, i64 w2] (.one (.dv (.bool true))) := by
  refine callsF_of Tryd.func3 rfl rfl (by rw [Tryd.ntmps3]; simp) fun cx hP hn hg => ?_
  rw [Tryd.ntmps3] at hn
  rw [startF_lk, none_mkM]
  simp only [List.nil_append, List.append_nil, List.cons_append, zipSV, Nat.reduceAdd]
  refine awp_seq ?_
  refine rg ?_
  refine qp m_box ?_
  refine qv m_as ?_
  show AWp cx _ _ _
  refine awp_seq ?_
  refine rg ?_
  refine qv (m_ldpa sz23 ag23) ?_
  refine qv m_mv ?_
  refine qqF (f17 m w1) ?_
  refine qv m_mv ?_
  refine qv m_ext ?_
  refine qv m_ext ?_
  refine qv m_ext ?_
  refine qv m_as ?_
  refine qv m_as ?_
  refine qv m_as ?_
  show AWp cx _ _ _
  refine awp_seq ?_
  refine rg ?_
  refine qv (m_ldpa sz23 ag23) ?_
  refine qv m_mv ?_
  refine qqF (f17 m w2) ?_
  refine qv m_mv ?_
  refine qv m_ext ?_
  refine qv m_ext ?_
  refine qv m_ext ?_
  refine qv m_as ?_
  refine qv m_as ?_
  refine qv m_as ?_
  show AWp cx _ _ _
  refine awp_seq ?_
  refine awp_seq ?_
  refine rg ?_
  refine qv m_mv ?_
  refine qv m_neq ?_
  refine qx m_mv (fun hg38 => ?_) (fun hg38 => ?_)
  · try simp at hg38
    refine qk ?_
    refine qk ?_
    refine qv m_pk ?_
    show AWp cx _ _ _
    refine cdT (hb := by first | rfl | simp | simp_all) (ht := ?_)
    refine awp_seq ?_
    refine rg ?_
    refine qqF (f18) ?_
    refine qv m_as ?_
    show AWp cx _ _ _
    refine awp_ret ?_
    exact x1 (hr := (rB_))
  · try simp at hg38
    have he1 : wetE m w1 = 0 := by simpa using hg38
    refine qv m_mv ?_
    refine qv m_neq ?_
    refine qv m_pk ?_
    show AWp cx _ _ _
    refine cd (fun hc0 => ?_) (fun hc0 => ?_)
    · try simp at hc0
      refine awp_seq ?_
      refine rg ?_
      refine qqF (f18) ?_
      refine qv m_as ?_
      show AWp cx _ _ _
      refine awp_ret ?_
      exact x1 (hr := (rB_))
    · try simp at hc0
      have he2 : wetE m w2 = 0 := by simpa using hc0
      obtain ⟨n, v, ok, rfl, rfl, hv⟩ := wetE_ok he1
      obtain ⟨u, rfl, hu⟩ := wetE_ok2 ok he2
      have hv36 := le36 ok hv
      have hu36 := le36 ok hu
      have huv := or_full hv hu
      have hs := spr_full v hv
      have hs2 := spr_full u hu
      have hs36 := le36 ok hs
      have hs236 := le36 ok hs2
      have hsuv36 := le36 ok (spr_full (n := n) (v ||| u) huv)
      have e1 := spr_zero (spr_closed (n := n) v)
      have a1 : (spr n v).1 &&& v = v := sub_and.1 (spr_sub v)
      have a2 : (spr n (v ||| u)).1 &&& (spr n v).1 = (spr n v).1 := sub_and.1 (spr_mono ok sub_or)
      have a3 : (spr n (v ||| u)).1 &&& (spr n u).1 = (spr n u).1 := sub_and.1 (spr_mono ok sub_or')
      rw [onWet_ok ok hv, onWet_ok ok hv, onWet_ok ok hu, onWet_ok ok hu]
      have hnd1 := ok.n1
      have hnd2 := ok.n2
      refine awp_skip ?_
      show AWp cx _ _ _
      refine awp_seq ?_
      refine rg ?_
      refine qv (m_ldpa sz23 ag23) ?_
      refine qv m_mv ?_
      refine qv m_mv ?_
      refine qv (m_orS (ha := hv36) (hb := hu36)) ?_
      refine qqF (f17k ok huv) ?_
      refine qv m_mv ?_
      refine qv m_ext ?_
      refine qv m_ext ?_
      refine qv m_ext ?_
      refine qv m_as ?_
      refine qv m_as ?_
      refine qv m_as ?_
      show AWp cx _ _ _
      refine awp_seq ?_
      refine rg ?_
      refine qv (m_ldpa sz23 ag23) ?_
      refine qv m_mv ?_
      refine qqF (f17k ok hs) ?_
      refine qv m_mv ?_
      refine qv m_ext ?_
      refine qv m_ext ?_
      refine qv m_ext ?_
      refine qv m_as ?_
      refine qv m_as ?_
      refine qv m_as ?_
      show AWp cx _ _ _
      refine awp_seq ?_
      refine awp_seq ?_
      refine rg ?_
      refine qv m_mv ?_
      refine qv m_neq ?_
      refine qx m_mv (fun hg61 => ?_) (fun hg61 => ?_)
      · exact absurd hg61 (by simp)
      refine qv m_mv ?_
      refine qv m_neq ?_
      refine qv m_pk ?_
      refine qx m_mv (fun hg65 => ?_) (fun hg65 => ?_)
      · exact absurd hg65 (by simp)
      refine qv m_mv ?_
      refine qv m_mv ?_
      refine qv m_neq ?_
      refine qv m_pk ?_
      refine qx m_mv (fun hg70 => ?_) (fun hg70 => ?_)
      · exact absurd hg70 (by simp [e1])
      refine qv m_mv ?_
      refine qv m_neq ?_
      refine qv m_pk ?_
      refine qx m_mv (fun hg74 => ?_) (fun hg74 => ?_)
      · exact absurd hg74 (by simp [e1])
      refine qv m_mv ?_
      refine qv m_mv ?_
      refine qv (m_andS (ha := hs36)) ?_
      refine qv m_mv ?_
      refine qv m_neq ?_
      refine qv m_pk ?_
      refine qx m_mv (fun hg81 => ?_) (fun hg81 => ?_)
      · exact absurd hg81 (by simp [a1])
      refine qv m_mv ?_
      refine qv m_mv ?_
      refine qv (m_andS (ha := hsuv36)) ?_
      refine qv m_mv ?_
      refine qv m_neq ?_
      refine qv m_pk ?_
      refine qx m_mv (fun hg88 => ?_) (fun hg88 => ?_)
      · exact absurd hg88 (by simp [a2])
      refine qv m_mv ?_
      refine qv m_mv ?_
      refine qv (m_andS (ha := hsuv36)) ?_
      refine qv m_mv ?_
      refine qv m_neq ?_
      refine qv m_pk ?_
      show AWp cx _ _ _
      refine cdF (hb := by simp [a3]) (ht := ?_)
      refine awp_skip ?_
      show AWp cx _ _ _
      refine awp_seq ?_
      refine rg ?_
      refine qv (m_fdp fd23_2) ?_
      refine qv (m_ldp sz3 ag3) ?_
      refine qv m_add ?_
      refine qv (m_fdp fd23_2) ?_
      refine qs (m_st sz3) ?_
      show AWp cx _ _ _
      refine awp_seq ?_
      refine rg ?_
      refine qv (m_ldpa sz23 ag23) ?_
      refine qv m_mv ?_
      refine qqF (f17 ⟨n.r, n.c, (n.nd : Int) + 1⟩ v) ?_
      refine qv m_mv ?_
      refine qv m_ext ?_
      refine qv m_ext ?_
      refine qv m_ext ?_
      refine qv m_as ?_
      refine qv m_as ?_
      refine qv m_as ?_
      show AWp cx _ _ _
      refine awp_seq ?_
      refine rg ?_
      refine qv m_mv ?_
      refine qv m_neq ?_
      refine qx m_mv (fun hg108 => ?_) (fun hg108 => ?_)
      · try simp at hg108
        refine qk ?_
        refine qk ?_
        refine qk ?_
        refine qk ?_
        refine qk ?_
        refine qv m_pk ?_
        refine qv m_mv ?_
        refine qqF (f18) ?_
        refine qv m_pk ?_
        refine qv m_as ?_
        show AWp cx _ _ _
        refine awp_ret ?_
        exact x1 (hr := (rB_))
      · try simp at hg108
        have he3 : wetE ⟨n.r, n.c, (n.nd : Int) + 1⟩ v = 0 := by simpa using hg108
        have ok3 := valid_need ok he3
        have hv3 : v ≤ full ⟨n.r, n.c, n.nd + 1⟩ := hv
        have hon : onWet ⟨n.r, n.c, (n.nd : Int) + 1⟩ (v : Int) 0 (fun n v => ((spr n v).1 : Int)) = ((spr ⟨n.r, n.c, n.nd + 1⟩ v).1 : Int) := onWet_ok ok3 hv3
        rw [hon]
        have h336 := le36 ok3 (spr_full (n := ⟨n.r, n.c, n.nd + 1⟩) v hv3)
        have a4 : (spr ⟨n.r, n.c, n.nd + 1⟩ v).1 &&& (spr n v).1 = (spr ⟨n.r, n.c, n.nd + 1⟩ v).1 := sub_and'.1 (spr_need ok ok3 rfl rfl (Nat.le_succ _) v)
        refine qv m_mv ?_
        refine qv m_mv ?_
        refine qv (m_andS (ha := h336)) ?_
        refine qv m_mv ?_
        refine qv m_eql ?_
        refine qv m_pk ?_
        refine qx m_mv (fun hg115 => ?_) (fun hg115 => ?_)
        rotate_left
        · exact absurd hg115 (by simp [a4])
        refine qqF (f18) ?_
        refine qv m_pk ?_
        refine qv m_as ?_
        show AWp cx _ _ _
        refine awp_ret ?_
        exact x1 (hr := (rB_))

end Go.Ab.Tryd
