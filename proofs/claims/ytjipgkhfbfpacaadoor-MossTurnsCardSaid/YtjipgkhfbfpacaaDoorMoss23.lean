/- The functions of the moss laws, part 23. The walks are written by wip/gen/gw.py. -/
import Derived.Test.YtjipgkhfbfpacaaDoorMoss22
import Derived.Test.YtjipgkhfbfpacaaDoorMossFacts
import Derived.Test.YtjipgkhfbfpacaaDoorMossD
set_option linter.all false
namespace Go.Ab.Tryd
open Go Go.Ab Go.Proofs Go.Ab.Moss


set_option maxHeartbeats 8000000 in
theorem f7 (m : Mw) (w : Int) (o : List Int) : ACallsF Tryd.prog 7 [dMw m, i64 w, ints o] (.one (.dv (.bool true))) := by
  refine callsF_of Tryd.func7 rfl rfl (by rw [Tryd.ntmps7]; simp) fun cx hP hn hg => ?_
  rw [Tryd.ntmps7] at hn
  rw [startF_lk, none_mkM]
  simp only [List.nil_append, List.append_nil, List.cons_append, zipSV, Nat.reduceAdd]
  refine awp_seq ?_
  refine rg ?_
  refine qp m_box ?_
  refine qv m_as ?_
  show AWp cx _ _ _
  refine awp_seq ?_
  refine rg ?_
  refine qv (m_bld pl23 ze23) ?_
  refine qqF (s1912) ?_
  refine qv m_mv ?_
  refine qv m_ext ?_
  refine qv m_ext ?_
  refine qv m_as ?_
  refine qv m_as ?_
  show AWp cx _ _ _
  refine awp_seq ?_
  refine awp_seq ?_
  refine rg ?_
  refine qv m_mv ?_
  refine qv m_neq ?_
  refine qx m_mv (fun hg42 => ?_) (fun hg42 => ?_)
  · exact absurd hg42 (by simp)
  refine qv m_mv ?_
  refine qv m_neq ?_
  refine qv m_pk ?_
  show AWp cx _ _ _
  refine cdF (hb := by simp) (ht := ?_)
  refine awp_skip ?_
  show AWp cx _ _ _
  refine awp_seq ?_
  refine awp_seq ?_
  refine rg ?_
  refine qv m_mv ?_
  refine qv (m_len il32) ?_
  refine qv m_gtr ?_
  show AWp cx _ _ _
  refine cd (fun hc1 => ?_) (fun hc1 => ?_)
  · try simp at hc1
    refine awp_seq ?_
    refine rg ?_
    refine qv m_as ?_
    show AWp cx _ _ _
    refine awp_ret ?_
    exact x1 (hr := (rB_))
  · try simp at hc1
    have ho : o.length < 1000000 := by omega
    refine awp_skip ?_
    show AWp cx _ _ _
    refine awp_seq ?_
    refine rg ?_
    refine qv (m_ldpa sz23 ag23) ?_
    refine qv m_mv ?_
    refine qqF (f17 m w) ?_
    refine qv m_mv ?_
    refine qv m_ext ?_
    refine qv m_ext ?_
    refine qv m_ext ?_
    refine qv m_as ?_
    refine qv m_as ?_
    refine qv m_as ?_
    show AWp cx _ _ _
    refine awp_seq ?_
    refine awp_seq ?_
    refine rg ?_
    refine qv m_mv ?_
    refine qv m_neq ?_
    show AWp cx _ _ _
    refine cd (fun hc2 => ?_) (fun hc2 => ?_)
    · skip
      refine awp_seq ?_
      refine rg ?_
      refine qv (m_ldpa sz23 ag23) ?_
      refine qv m_mv ?_
      refine qqF (f31 m w) ?_
      refine qv m_mv ?_
      refine qv m_ext ?_
      refine qv m_ext ?_
      refine qv m_as ?_
      refine qv m_as ?_
      show AWp cx _ _ _
      refine awp_seq ?_
      refine rg ?_
      refine qv m_mv ?_
      refine qv m_mv ?_
      refine qv m_eql ?_
      refine qv m_as ?_
      show AWp cx _ _ _
      refine awp_ret ?_
      exact x1 (hr := (rB_ (by simp)))
    · skip
      have he : wetE m w = 0 := by simpa using hc2
      obtain ⟨n, v, ok, rfl, rfl, hv⟩ := wetE_ok he
      have hv36 := le36 ok hv
      have hwe := wetE_v ok hv
      rw [onWet_ok ok hv, onWet_ok ok hv, hwe]
      have hN := ok.N2
      have hf := full_add (n := n)
      have hc36 := core_le ok hv
      have hsf := spr_full (n := n) v hv
      have hs36 := le36 ok hsf
      have a1 := core_and (n := n) (v := v)
      have a2 := core_or hv
      have hf36 := full_lt ok
      have hol := ordL_len (n := n) (w := v)
      have hnl := ns_len (ordL n v)
      have htf := thin_full hv
      have ht36 := le36 ok htf
      have hts := thin_spr (n := n) (v := v)
      have htz := andn_zero (thin_sub (n := n) (v := v))
      have hst36 := (spr_lt ok _ v (Nat.le_refl _) hv36).2
      have hdl := dryC_le (n := n) (w := v)
      have hcf : coreN n v ≤ full n := andn_le
      have hcb := core_bit0 ok (v := v)
      refine awp_skip ?_
      show AWp cx _ _ _
      refine awp_seq ?_
      refine rg ?_
      refine qv (m_ldpa sz23 ag23) ?_
      refine qv m_mv ?_
      refine qqF (f32k ok hv) ?_
      refine qv m_mv ?_
      refine qv m_ext ?_
      refine qv m_ext ?_
      refine qv m_as ?_
      refine qv m_as ?_
      show AWp cx _ _ _
      refine awp_seq ?_
      refine rg ?_
      refine qv (m_ldpa sz23 ag23) ?_
      refine qv m_mv ?_
      refine qv m_mv ?_
      refine qqF (f33o ok hv) ?_
      refine qv m_mv ?_
      refine qv m_ext ?_
      refine qv m_ext ?_
      refine qv m_ext ?_
      refine qv m_as ?_
      refine qv m_as ?_
      refine qv m_as ?_
      show AWp cx _ _ _
      refine awp_seq ?_
      refine rg ?_
      refine qv (m_ldpa sz23 ag23) ?_
      refine qv m_mv ?_
      refine qqF (f34k ok hv) ?_
      refine qv m_mv ?_
      refine qv m_ext ?_
      refine qv m_ext ?_
      refine qv m_as ?_
      refine qv m_as ?_
      show AWp cx _ _ _
      refine awp_seq ?_
      refine awp_seq ?_
      refine rg ?_
      refine qv m_mv ?_
      refine qv m_neq ?_
      refine qx m_mv (fun hg89 => ?_) (fun hg89 => ?_)
      · exact absurd hg89 (by simp)
      refine qv m_mv ?_
      refine qv m_neq ?_
      refine qv m_pk ?_
      refine qx m_mv (fun hg93 => ?_) (fun hg93 => ?_)
      · exact absurd hg93 (by simp)
      refine qv m_mv ?_
      refine qv m_neq ?_
      refine qv m_pk ?_
      refine qx m_mv (fun hg97 => ?_) (fun hg97 => ?_)
      · exact absurd hg97 (by simp)
      refine qv m_mv ?_
      refine qv m_mv ?_
      refine qv m_neq ?_
      refine qv m_pk ?_
      refine qx m_mv (fun hg102 => ?_) (fun hg102 => ?_)
      · exact absurd hg102 (by simp)
      refine qv (m_ldpa sz23 ag23) ?_
      refine qv m_mv ?_
      refine qqF (f35k ok hv) ?_
      refine qv m_neq ?_
      refine qv m_pk ?_
      refine qx m_mv (fun hg108 => ?_) (fun hg108 => ?_)
      · exact absurd hg108 (by simp)
      refine qv m_mv ?_
      refine qv m_mv ?_
      refine qv (m_andS (ha := hc36) (hb := hs36)) ?_
      refine qv m_neq ?_
      refine qv m_pk ?_
      refine qx m_mv (fun hg114 => ?_) (fun hg114 => ?_)
      · exact absurd hg114 (by simp [a1])
      refine qv m_mv ?_
      refine qv m_mv ?_
      refine qv (m_orS (ha := hc36) (hb := hs36)) ?_
      refine qv (m_fdp fd23_0) ?_
      refine qv (m_ldp sz3 ag3) ?_
      refine qv (m_fdp fd23_1) ?_
      refine qv (m_ldp sz3 ag3) ?_
      refine qv m_mulN ?_
      refine qv (m_cnvU kd3 kd41) ?_
      refine qv (m_shlS (n.r * n.c)) ?_
      refine qv (m_subN (full n)) ?_
      refine qv m_neq ?_
      refine qv m_pk ?_
      show AWp cx _ _ _
      refine cdF (hb := by simp [a2]) (ht := ?_)
      refine awp_skip ?_
      show AWp cx _ _ _
      refine awp_seq ?_
      refine AWp.le (tl [(3, 3)] (l := [(1, .dv (i64 (v : Int))), (2, .dv (ints o)), (3, .pt 3 0 0), (9, .dv (i64 ((spr n v).1 : Int))), (10, .dv (i64 ((spr n v).2 : Int))), (18, .dv (i64 (coreN n v : Int)))]) (m := [(3, 0, some ⟨[.dv (i64 (n.r : Int)), .dv (i64 (n.c : Int)), .dv (i64 (n.nd : Int))], 0, 23, 0, false⟩)])) ?_
      refine rg ?_
      refine qv (m_ldpa sz23 ag23) ?_
      refine qv m_mv ?_
      refine qv m_mv ?_
      refine qqF (f33 n.w v o ho) ?_
      refine qv m_mv ?_
      refine qv m_ext ?_
      refine qv m_ext ?_
      refine qv m_ext ?_
      refine qv m_as ?_
      refine qv m_as ?_
      refine qv m_as ?_
      show AWp cx _ _ _
      refine awp_seq ?_
      refine awp_seq ?_
      refine rg ?_
      refine qv m_mv ?_
      refine qv m_eql ?_
      show AWp cx _ _ _
      refine cd (fun hc4 => ?_) (fun hc4 => ?_)
      · skip
        obtain ⟨u, hck, hu, hsu⟩ := ckR_fit2 ok hv (show (ckR n.w v o).2.2 = 0 by simpa using hc4)
        simp only [hck]
        refine awp_seq ?_
        refine rg ?_
        refine qv (m_ldpa sz23 ag23) ?_
        refine qv m_mv ?_
        refine qqF (f17k ok hu) ?_
        refine qv m_mv ?_
        refine qv m_ext ?_
        refine qv m_ext ?_
        refine qv m_ext ?_
        refine qv m_as ?_
        refine qv m_as ?_
        refine qv m_as ?_
        show AWp cx _ _ _
        refine awp_seq ?_
        refine rg ?_
        refine qv m_mv ?_
        refine qv m_neq ?_
        refine qx m_mv (fun hg147 => ?_) (fun hg147 => ?_)
        · exact absurd hg147 (by simp)
        refine qv m_mv ?_
        refine qv m_mv ?_
        refine qv m_neq ?_
        refine qv m_pk ?_
        show AWp cx _ _ _
        refine cdF (hb := by simp [hsu]) (ht := ?_)
        refine awp_skip ?_
        show AWp cx _ _ _
        refine awp_seq ?_
        refine AWp.le (tl [(3, 3)] (l := [(1, .dv (i64 (v : Int))), (3, .pt 3 0 0), (9, .dv (i64 ((spr n v).1 : Int))), (10, .dv (i64 ((spr n v).2 : Int))), (18, .dv (i64 (coreN n v : Int)))]) (m := [(3, 0, some ⟨[.dv (i64 (n.r : Int)), .dv (i64 (n.c : Int)), .dv (i64 (n.nd : Int))], 0, 23, 0, false⟩)])) ?_
        refine rg ?_
        refine qv (m_ldpa sz23 ag23) ?_
        refine qv m_mv ?_
        refine qqF (f31k ok hv) ?_
        refine qv m_mv ?_
        refine qv m_ext ?_
        refine qv m_ext ?_
        refine qv m_as ?_
        refine qv m_as ?_
        show AWp cx _ _ _
        refine awp_seq ?_
        refine rg ?_
        refine qv (m_ldpa sz23 ag23) ?_
        refine qv m_mv ?_
        refine qqF (f17k ok htf) ?_
        refine qv m_mv ?_
        refine qv m_ext ?_
        refine qv m_ext ?_
        refine qv m_ext ?_
        refine qv m_as ?_
        refine qv m_as ?_
        refine qv m_as ?_
        show AWp cx _ _ _
        refine awp_seq ?_
        refine awp_seq ?_
        refine rg ?_
        refine qv m_mv ?_
        refine qv m_neq ?_
        refine qx m_mv (fun hg167 => ?_) (fun hg167 => ?_)
        · exact absurd hg167 (by simp)
        refine qv m_mv ?_
        refine qv m_neq ?_
        refine qv m_pk ?_
        refine qx m_mv (fun hg171 => ?_) (fun hg171 => ?_)
        · exact absurd hg171 (by simp)
        refine qv m_mv ?_
        refine qv m_mv ?_
        refine qv m_neq ?_
        refine qv m_pk ?_
        refine qx m_mv (fun hg176 => ?_) (fun hg176 => ?_)
        · exact absurd hg176 (by simp [hts])
        refine qv m_mv ?_
        refine qv m_mv ?_
        refine qv (m_andnS (ha := ht36) (hb := hv36)) ?_
        refine qv m_neq ?_
        refine qv m_pk ?_
        show AWp cx _ _ _
        refine cdF (hb := by simp [htz]) (ht := ?_)
        refine awp_skip ?_
        show AWp cx _ _ _
        refine awp_seq ?_
        refine rg ?_
        refine qv (m_ldpa sz23 ag23) ?_
        refine qv m_mv ?_
        refine qqF (f19k ok hv) ?_
        refine qv m_mv ?_
        refine qv m_ext ?_
        refine qv m_ext ?_
        refine qv m_as ?_
        refine qv m_as ?_
        show AWp cx _ _ _
        refine awp_seq ?_
        refine rg ?_
        refine qv m_mv ?_
        refine qv m_as ?_
        show AWp cx _ _ _
        refine awp_seq ?_
        refine awp_seq ?_
        refine rg ?_
        refine qv m_as ?_
        show AWp cx _ _ _
        refine awp_block ?_
        refine awp_loop (ι := Nat × Nat) (fun q => ⟨lk [(3, .pt 3 0 0), (9, .dv (i64 ((spr n v).1 : Int))), (10, .dv (i64 ((spr n v).2 : Int))), (14, .dv (i64 0)), (18, .dv (i64 (coreN n v : Int))), (28, .dv (i64 (edgeR n q.2))), (29, .dv (i64 (q.2 : Nat))), (30, .dv (i64 (q.1 : Nat)))], mkM [(3, 0, some ⟨[.dv (i64 ((n.r : Int))), .dv (i64 ((n.c : Int))), .dv (i64 ((n.nd : Int)))], 0, 23, 0, false⟩)]⟩) (fun q => q.1 ≤ (spr n v).2 ∧ Way n v q.1 q.2) (fun q => (spr n v).2 - q.1) (0, v) ⟨Nat.zero_le _, hv, by simp, rfl⟩ (tl [(3, 3)]) ?_
        intro q hφ0
        refine awp_seq ?_
        refine awp_seq ?_
        refine rg ?_
        refine qv m_mv ?_
        refine qv m_mv ?_
        refine qv m_lss ?_
        show AWp cx _ _ _
        refine cd (fun hc7 => ?_) (fun hc7 => ?_)
        · try simp at hc7
          obtain ⟨hq0, hq1⟩ := hφ0.2.step (by omega)
          have hq2 := or_ne hq0
          have hnd1 := ok.n1
          have hes : 2 ≤ n.nd → edgeR n (q.2 ||| rdN n q.2) ≤ edgeR n q.2 := fun h => edge_step ok h hφ0.2.1 (Sub.refl _)
          have hq3 : (q.2 ||| rdN n q.2 : Nat) ≠ q.2 := hq2
          refine awp_skip ?_
          show AWp cx _ _ _
          refine awp_seq ?_
          refine awp_block ?_
          refine awp_seq ?_
          refine rg ?_
          refine qv (m_ldpa sz23 ag23) ?_
          refine qv m_mv ?_
          refine qqF (f21k ok hφ0.2.1) ?_
          refine qv m_mv ?_
          refine qv m_ext ?_
          refine qv m_ext ?_
          refine qv m_as ?_
          refine qv m_as ?_
          show AWp cx _ _ _
          refine awp_seq ?_
          refine rg ?_
          refine qv (m_ldpa sz23 ag23) ?_
          refine qv m_mv ?_
          refine qqF (f19k ok hq1.1) ?_
          refine qv m_mv ?_
          refine qv m_ext ?_
          refine qv m_ext ?_
          refine qv m_as ?_
          refine qv m_as ?_
          show AWp cx _ _ _
          refine awp_seq ?_
          refine awp_seq ?_
          refine rg ?_
          refine qv m_mv ?_
          refine qv m_neq ?_
          refine qx m_mv (fun hg208 => ?_) (fun hg208 => ?_)
          · exact absurd hg208 (by simp)
          refine qv m_mv ?_
          refine qv m_neq ?_
          refine qv m_pk ?_
          refine qx m_mv (fun hg212 => ?_) (fun hg212 => ?_)
          · exact absurd hg212 (by simp)
          refine qv m_mv ?_
          refine qv m_neq ?_
          refine qv m_pk ?_
          refine qx m_mv (fun hg216 => ?_) (fun hg216 => ?_)
          · exact absurd hg216 (by simp)
          refine qv m_mv ?_
          refine qv m_mv ?_
          refine qv m_eql ?_
          refine qv m_pk ?_
          refine qx m_mv (fun hg221 => ?_) (fun hg221 => ?_)
          · exact absurd hg221 (by simp; omega)
          refine qv (m_fdp fd23_2) ?_
          refine qv (m_ldp sz3 ag3) ?_
          refine qv m_gtr ?_
          refine qx m_mv (fun hg225 => ?_) (fun hg225 => ?_)
          · skip
            refine qv m_mv ?_
            refine qv m_mv ?_
            refine qv m_gtr ?_
            refine qv m_pk ?_
            refine qv m_pk ?_
            show AWp cx _ _ _
            refine cdF (hb := by first | (simp; done) | (have hg225' := hg225; simp at hg225'; have := hes (by omega); simp; omega)) (ht := ?_)
            refine awp_skip ?_
            show AWp cx _ _ _
            refine awp_seq ?_
            refine rg ?_
            refine qv m_mv ?_
            refine qv m_as ?_
            show AWp cx _ _ _
            refine rg ?_
            refine qv m_mv ?_
            refine qv m_as ?_
            show AWp cx _ _ _
            refine rg ?_
            refine qv m_mv ?_
            refine qv m_add ?_
            refine qv m_as ?_
            exact ⟨(q.1 + 1, q.2 ||| rdN n q.2), ⟨by simp only; omega, hq1⟩, (by simp only; omega), (tl [(3, 3)])⟩
          · skip
            refine qk ?_
            refine qk ?_
            refine qk ?_
            refine qv m_pk ?_
            refine qv m_pk ?_
            show AWp cx _ _ _
            refine cdF (hb := by first | rfl | simp | simp_all) (ht := ?_)
            refine awp_skip ?_
            show AWp cx _ _ _
            refine awp_seq ?_
            refine rg ?_
            refine qv m_mv ?_
            refine qv m_as ?_
            show AWp cx _ _ _
            refine rg ?_
            refine qv m_mv ?_
            refine qv m_as ?_
            show AWp cx _ _ _
            refine rg ?_
            refine qv m_mv ?_
            refine qv m_add ?_
            refine qv m_as ?_
            exact ⟨(q.1 + 1, q.2 ||| rdN n q.2), ⟨by simp only; omega, hq1⟩, (by simp only; omega), (tl [(3, 3)])⟩
        · try simp at hc7
          refine awp_exit ?_
          show AWp cx _ _ _
          refine awp_seq ?_
          have hqt : q.1 = (spr n v).2 := by omega
          have hqf := hφ0.2
          rw [hqt] at hqf
          have hqS := hqf.fin
          refine rg ?_
          refine qv m_mv ?_
          refine qv m_mv ?_
          refine qv m_eql ?_
          refine qx m_mv (fun hg236 => ?_) (fun hg236 => ?_)
          rotate_left
          · exact absurd hg236 (by simp [hqS])
          refine qv m_mv ?_
          refine qqF (f36 (spr n v).1 0 hs36 (by omega)) ?_
          refine qv m_mv ?_
          refine qqF (f36 (coreN n v) 0 hc36 (by omega)) ?_
          refine qv m_not ?_
          refine qv (m_beq ib4) ?_
          refine qv m_pk ?_
          refine qv m_as ?_
          show AWp cx _ _ _
          refine awp_ret ?_
          exact x1 (hr := (rB_ (by exact hcb)))
      · skip
        refine awp_skip ?_
        show AWp cx _ _ _
        refine awp_seq ?_
        refine AWp.le (tl [(3, 3)] (l := [(1, .dv (i64 (v : Int))), (3, .pt 3 0 0), (9, .dv (i64 ((spr n v).1 : Int))), (10, .dv (i64 ((spr n v).2 : Int))), (18, .dv (i64 (coreN n v : Int)))]) (m := [(3, 0, some ⟨[.dv (i64 (n.r : Int)), .dv (i64 (n.c : Int)), .dv (i64 (n.nd : Int))], 0, 23, 0, false⟩)])) ?_
        refine rg ?_
        refine qv (m_ldpa sz23 ag23) ?_
        refine qv m_mv ?_
        refine qqF (f31k ok hv) ?_
        refine qv m_mv ?_
        refine qv m_ext ?_
        refine qv m_ext ?_
        refine qv m_as ?_
        refine qv m_as ?_
        show AWp cx _ _ _
        refine awp_seq ?_
        refine rg ?_
        refine qv (m_ldpa sz23 ag23) ?_
        refine qv m_mv ?_
        refine qqF (f17k ok htf) ?_
        refine qv m_mv ?_
        refine qv m_ext ?_
        refine qv m_ext ?_
        refine qv m_ext ?_
        refine qv m_as ?_
        refine qv m_as ?_
        refine qv m_as ?_
        show AWp cx _ _ _
        refine awp_seq ?_
        refine awp_seq ?_
        refine rg ?_
        refine qv m_mv ?_
        refine qv m_neq ?_
        refine qx m_mv (fun hg167 => ?_) (fun hg167 => ?_)
        · exact absurd hg167 (by simp)
        refine qv m_mv ?_
        refine qv m_neq ?_
        refine qv m_pk ?_
        refine qx m_mv (fun hg171 => ?_) (fun hg171 => ?_)
        · exact absurd hg171 (by simp)
        refine qv m_mv ?_
        refine qv m_mv ?_
        refine qv m_neq ?_
        refine qv m_pk ?_
        refine qx m_mv (fun hg176 => ?_) (fun hg176 => ?_)
        · exact absurd hg176 (by simp [hts])
        refine qv m_mv ?_
        refine qv m_mv ?_
        refine qv (m_andnS (ha := ht36) (hb := hv36)) ?_
        refine qv m_neq ?_
        refine qv m_pk ?_
        show AWp cx _ _ _
        refine cdF (hb := by simp [htz]) (ht := ?_)
        refine awp_skip ?_
        show AWp cx _ _ _
        refine awp_seq ?_
        refine rg ?_
        refine qv (m_ldpa sz23 ag23) ?_
        refine qv m_mv ?_
        refine qqF (f19k ok hv) ?_
        refine qv m_mv ?_
        refine qv m_ext ?_
        refine qv m_ext ?_
        refine qv m_as ?_
        refine qv m_as ?_
        show AWp cx _ _ _
        refine awp_seq ?_
        refine rg ?_
        refine qv m_mv ?_
        refine qv m_as ?_
        show AWp cx _ _ _
        refine awp_seq ?_
        refine awp_seq ?_
        refine rg ?_
        refine qv m_as ?_
        show AWp cx _ _ _
        refine awp_block ?_
        refine awp_loop (ι := Nat × Nat) (fun q => ⟨lk [(3, .pt 3 0 0), (9, .dv (i64 ((spr n v).1 : Int))), (10, .dv (i64 ((spr n v).2 : Int))), (14, .dv (i64 0)), (18, .dv (i64 (coreN n v : Int))), (28, .dv (i64 (edgeR n q.2))), (29, .dv (i64 (q.2 : Nat))), (30, .dv (i64 (q.1 : Nat)))], mkM [(3, 0, some ⟨[.dv (i64 ((n.r : Int))), .dv (i64 ((n.c : Int))), .dv (i64 ((n.nd : Int)))], 0, 23, 0, false⟩)]⟩) (fun q => q.1 ≤ (spr n v).2 ∧ Way n v q.1 q.2) (fun q => (spr n v).2 - q.1) (0, v) ⟨Nat.zero_le _, hv, by simp, rfl⟩ (tl [(3, 3)]) ?_
        intro q hφ0
        refine awp_seq ?_
        refine awp_seq ?_
        refine rg ?_
        refine qv m_mv ?_
        refine qv m_mv ?_
        refine qv m_lss ?_
        show AWp cx _ _ _
        refine cd (fun hc7 => ?_) (fun hc7 => ?_)
        · try simp at hc7
          obtain ⟨hq0, hq1⟩ := hφ0.2.step (by omega)
          have hq2 := or_ne hq0
          have hnd1 := ok.n1
          have hes : 2 ≤ n.nd → edgeR n (q.2 ||| rdN n q.2) ≤ edgeR n q.2 := fun h => edge_step ok h hφ0.2.1 (Sub.refl _)
          have hq3 : (q.2 ||| rdN n q.2 : Nat) ≠ q.2 := hq2
          refine awp_skip ?_
          show AWp cx _ _ _
          refine awp_seq ?_
          refine awp_block ?_
          refine awp_seq ?_
          refine rg ?_
          refine qv (m_ldpa sz23 ag23) ?_
          refine qv m_mv ?_
          refine qqF (f21k ok hφ0.2.1) ?_
          refine qv m_mv ?_
          refine qv m_ext ?_
          refine qv m_ext ?_
          refine qv m_as ?_
          refine qv m_as ?_
          show AWp cx _ _ _
          refine awp_seq ?_
          refine rg ?_
          refine qv (m_ldpa sz23 ag23) ?_
          refine qv m_mv ?_
          refine qqF (f19k ok hq1.1) ?_
          refine qv m_mv ?_
          refine qv m_ext ?_
          refine qv m_ext ?_
          refine qv m_as ?_
          refine qv m_as ?_
          show AWp cx _ _ _
          refine awp_seq ?_
          refine awp_seq ?_
          refine rg ?_
          refine qv m_mv ?_
          refine qv m_neq ?_
          refine qx m_mv (fun hg208 => ?_) (fun hg208 => ?_)
          · exact absurd hg208 (by simp)
          refine qv m_mv ?_
          refine qv m_neq ?_
          refine qv m_pk ?_
          refine qx m_mv (fun hg212 => ?_) (fun hg212 => ?_)
          · exact absurd hg212 (by simp)
          refine qv m_mv ?_
          refine qv m_neq ?_
          refine qv m_pk ?_
          refine qx m_mv (fun hg216 => ?_) (fun hg216 => ?_)
          · exact absurd hg216 (by simp)
          refine qv m_mv ?_
          refine qv m_mv ?_
          refine qv m_eql ?_
          refine qv m_pk ?_
          refine qx m_mv (fun hg221 => ?_) (fun hg221 => ?_)
          · exact absurd hg221 (by simp; omega)
          refine qv (m_fdp fd23_2) ?_
          refine qv (m_ldp sz3 ag3) ?_
          refine qv m_gtr ?_
          refine qx m_mv (fun hg225 => ?_) (fun hg225 => ?_)
          · skip
            refine qv m_mv ?_
            refine qv m_mv ?_
            refine qv m_gtr ?_
            refine qv m_pk ?_
            refine qv m_pk ?_
            show AWp cx _ _ _
            refine cdF (hb := by first | (simp; done) | (have hg225' := hg225; simp at hg225'; have := hes (by omega); simp; omega)) (ht := ?_)
            refine awp_skip ?_
            show AWp cx _ _ _
            refine awp_seq ?_
            refine rg ?_
            refine qv m_mv ?_
            refine qv m_as ?_
            show AWp cx _ _ _
            refine rg ?_
            refine qv m_mv ?_
            refine qv m_as ?_
            show AWp cx _ _ _
            refine rg ?_
            refine qv m_mv ?_
            refine qv m_add ?_
            refine qv m_as ?_
            exact ⟨(q.1 + 1, q.2 ||| rdN n q.2), ⟨by simp only; omega, hq1⟩, (by simp only; omega), (tl [(3, 3)])⟩
          · skip
            refine qk ?_
            refine qk ?_
            refine qk ?_
            refine qv m_pk ?_
            refine qv m_pk ?_
            show AWp cx _ _ _
            refine cdF (hb := by first | rfl | simp | simp_all) (ht := ?_)
            refine awp_skip ?_
            show AWp cx _ _ _
            refine awp_seq ?_
            refine rg ?_
            refine qv m_mv ?_
            refine qv m_as ?_
            show AWp cx _ _ _
            refine rg ?_
            refine qv m_mv ?_
            refine qv m_as ?_
            show AWp cx _ _ _
            refine rg ?_
            refine qv m_mv ?_
            refine qv m_add ?_
            refine qv m_as ?_
            exact ⟨(q.1 + 1, q.2 ||| rdN n q.2), ⟨by simp only; omega, hq1⟩, (by simp only; omega), (tl [(3, 3)])⟩
        · try simp at hc7
          refine awp_exit ?_
          show AWp cx _ _ _
          refine awp_seq ?_
          have hqt : q.1 = (spr n v).2 := by omega
          have hqf := hφ0.2
          rw [hqt] at hqf
          have hqS := hqf.fin
          refine rg ?_
          refine qv m_mv ?_
          refine qv m_mv ?_
          refine qv m_eql ?_
          refine qx m_mv (fun hg236 => ?_) (fun hg236 => ?_)
          rotate_left
          · exact absurd hg236 (by simp [hqS])
          refine qv m_mv ?_
          refine qqF (f36 (spr n v).1 0 hs36 (by omega)) ?_
          refine qv m_mv ?_
          refine qqF (f36 (coreN n v) 0 hc36 (by omega)) ?_
          refine qv m_not ?_
          refine qv (m_beq ib4) ?_
          refine qv m_pk ?_
          refine qv m_as ?_
          show AWp cx _ _ _
          refine awp_ret ?_
          exact x1 (hr := (rB_ (by exact hcb)))

end Go.Ab.Tryd
