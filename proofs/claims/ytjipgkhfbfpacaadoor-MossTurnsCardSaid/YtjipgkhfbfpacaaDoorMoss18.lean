/- The functions of the moss laws, part 18. The walks are written by wip/gen/gw.py. -/
import Derived.Test.YtjipgkhfbfpacaaDoorMoss17
import Derived.Test.YtjipgkhfbfpacaaDoorMossFacts
import Derived.Test.YtjipgkhfbfpacaaDoorMossD
set_option linter.all false
namespace Go.Ab.Tryd
open Go Go.Ab Go.Proofs Go.Ab.Moss

theorem Less.step2 {n : Mn} {d e k : Nat} {p q : Prop} (h : Less n d e p) (hk : k < n.r * n.c) (hb : e.testBit k = false) : Less n d (e ||| 2 ^ k) q := by
  rcases h with ⟨rfl, _⟩ | h
  · exact .inr (dryC_lt' hk hb (bit_two k))
  · exact .inr (Nat.lt_of_le_of_lt dryC_or h)
theorem Less.fin2 {n : Mn} {d e : Nat} {p : Prop} (h : Less n d e p) (h0 : rdN n d ≠ 0) (hp : p → ∀ j, j < n.r * n.c → rdB n d j = false) : dryC n e < dryC n d := by
  rcases h with ⟨rfl, h⟩ | h
  · exact absurd (rd_none (hp h)) h0
  · exact h
theorem f35k {n : Mn} (ok : n.Ok) {v : Nat} (hv : v ≤ full n) : ACallsF Tryd.prog 35 [dMn n, i64 (coreN n v : Int)] (.one (.dv (i64 0))) := by
  have h := f35 n.w (coreN n v)
  have hs := spr_full v hv
  have hc : coreN n v ≤ full n := andn_le
  have e : coreB n (coreN n v) = true := by
    unfold coreN
    rw [core_eq ok hs, spr_closed]; rfl
  rw [wetE_v ok hc, onWet_ok ok hc, e] at h
  exact h
theorem core_and {n : Mn} {v : Nat} : coreN n v &&& (spr n v).1 = 0 := by
  apply Nat.eq_of_testBit_eq
  intro i
  unfold coreN
  rw [Nat.testBit_and, andn_bit, Nat.zero_testBit]
  cases (spr n v).1.testBit i <;> simp
theorem core_or {n : Mn} {v : Nat} (hv : v ≤ full n) : coreN n v ||| (spr n v).1 = full n := by
  apply Nat.eq_of_testBit_eq
  intro i
  unfold coreN
  rw [Nat.testBit_or, andn_bit, full_bit]
  cases h : (spr n v).1.testBit i with
  | true => have := bit_lt (spr_full v hv) h; simp [this]
  | false => simp


set_option maxHeartbeats 4000000 in
theorem f48 (m : Mw) (w : Int) : ACallsF Tryd.prog 48 [dMw m, i64 w] (.many [.dv (i64 (onWet m w 0 fun n v => (coreN n v : Int))), .dv (i64 (wetE m w))]) := by
  refine callsF_of Tryd.func48 rfl rfl (by rw [Tryd.ntmps48]; simp) fun cx hP hn hg => ?_
  rw [Tryd.ntmps48] at hn
  rw [startF_lk, none_mkM]
  simp only [List.nil_append, List.append_nil, List.cons_append, zipSV, Nat.reduceAdd]
  refine awp_seq ?_
  refine rg ?_
  refine qp m_box ?_
  refine qv m_as ?_
  refine qv m_as ?_
  show AWp cx _ _ _
  refine awp_seq ?_
  refine rg ?_
  refine qv (m_ldpa sz23 ag23) ?_
  refine qv m_mv ?_
  refine qqF (f61 m w) ?_
  refine qv m_as ?_
  show AWp cx _ _ _
  refine awp_seq ?_
  refine awp_seq ?_
  refine rg ?_
  refine qv m_mv ?_
  refine qv m_neq ?_
  show AWp cx _ _ _
  refine cd (fun hc0 => ?_) (fun hc0 => ?_)
  · skip
    have hne : ¬ wetE m w = 0 := by simpa using hc0
    refine awp_seq ?_
    refine rg ?_
    refine qv m_mv ?_
    refine qv m_as ?_
    refine qv m_as ?_
    show AWp cx _ _ _
    refine awp_ret ?_
    exact x2 (hr := (rI_ (by rw [onWet_no hne]))) (hr' := (rI_))
  · skip
    have he : wetE m w = 0 := by simpa using hc0
    obtain ⟨n, v, ok, rfl, rfl, hv⟩ := wetE_ok he
    have hv36 := le36 ok hv
    have hwe := wetE_v ok hv
    refine awp_skip ?_
    show AWp cx _ _ _
    refine awp_seq ?_
    refine rg ?_
    refine qv (m_ldpa sz23 ag23) ?_
    refine qqF (f72 n ok) ?_
    refine qv m_mv ?_
    refine qv (m_andnS (ha := full_lt ok)) ?_
    refine qv m_as ?_
    show AWp cx _ _ _
    refine awp_seq ?_
    refine awp_block ?_
    refine awp_loop (ι := Nat) (fun d => ⟨lk [(2, .pt 2 0 0), (7, .dv (i64 (andn (full n) d : Nat)))], mkM [(2, 0, some ⟨[.dv (i64 ((n.r : Int))), .dv (i64 ((n.c : Int))), .dv (i64 ((n.nd : Int)))], 0, 23, 0, false⟩)]⟩) (fun d => Core n v d) (fun d => dryC n d) v (Core.init hv) (tl [(2, 2)]) ?_
    intro d hφ0
    refine awp_seq ?_
    refine awp_seq ?_
    refine rg ?_
    refine qv (m_ldpa sz23 ag23) ?_
    refine qv m_mv ?_
    refine qqF (f80 n ok d hφ0.1) ?_
    refine qv m_not ?_
    show AWp cx _ _ _
    refine cd (fun hc1 => ?_) (fun hc1 => ?_)
    · skip
      have hnc : rdN n d ≠ 0 := by simpa using hc1
      have hN := ok.N2
      have hnd1 := ok.n1
      have hnd2 := ok.n2
      have hf36 := full_lt ok
      refine awp_skip ?_
      show AWp cx _ _ _
      refine awp_block ?_
      refine awp_seq ?_
      refine rg ?_
      refine qv m_as ?_
      show AWp cx _ _ _
      refine awp_block ?_
      refine awp_loop (ι := Nat × Nat) (fun q => ⟨lk [(2, .pt 2 0 0), (7, .dv (i64 (andn (full n) q.2 : Nat))), (8, .dv (i64 (q.1 : Nat)))], mkM [(2, 0, some ⟨[.dv (i64 ((n.r : Int))), .dv (i64 ((n.c : Int))), .dv (i64 ((n.nd : Int)))], 0, 23, 0, false⟩)]⟩) (fun q => q.1 ≤ n.r * n.c ∧ Core n v q.2 ∧ Less n d q.2 (∀ j, j < q.1 → rdB n d j = false)) (fun q => n.r * n.c - q.1) (0, d) ⟨Nat.zero_le _, hφ0, .inl ⟨rfl, fun j hj => absurd hj (Nat.not_lt_zero _)⟩⟩ (tl [(2, 2)]) ?_
      intro q hφ1
      refine awp_seq ?_
      refine awp_seq ?_
      refine rg ?_
      refine qv m_mv ?_
      refine qv (m_ldpa sz23 ag23) ?_
      refine qqF (f62 n ok) ?_
      refine qv m_lss ?_
      show AWp cx _ _ _
      refine cd (fun hc2 => ?_) (fun hc2 => ?_)
      · try simp at hc2
        refine awp_skip ?_
        show AWp cx _ _ _
        refine awp_seq ?_
        refine awp_block ?_
        refine awp_seq ?_
        refine rd mixed ?_
        have hk : q.1 < n.r * n.c := by omega
        have hC := hφ1.2.1
        have hc36 := le36 ok (andn_le (n := n) (d := q.2))
        have hbk := andn_back hC.1
        have hcb : (andn (full n) q.2).testBit q.1 = !q.2.testBit q.1 := by rw [andn_bit, full_bit]; simp [hk]
        have hor := andn_or (a := full n) (d := q.2) (x := 2 ^ q.1)
        refine zv m_mv ?_
        refine zv m_mv ?_
        refine zqF (R := []) (f36 (andn (full n) q.2) q.1 hc36 (by omega)) ?_
        refine zx m_mv (fun hg32 => ?_) (fun hg32 => ?_)
        · skip
          refine zv (m_ldpa sz23 ag23) ?_
          refine zv (m_ldpa sz23 ag23) ?_
          refine zqF (R := []) (f72 n ok) ?_
          refine zv m_mv ?_
          refine zv (m_andnS (ha := hf36) (hb := hc36)) ?_
          rw [hbk]
          refine zv m_mv ?_
          refine zqF (R := []) (f63 n ok q.2 q.1 (le36 ok hC.1) hk) ?_
          refine zv (m_fdp fd23_2) ?_
          refine zv (m_ldp sz3 ag3) ?_
          refine zv m_geq ?_
          refine zv m_pk ?_
          refine ⟨by rfl, ?_⟩
          show AWp cx _ _ _
          refine cd (fun hc3 => ?_) (fun hc3 => ?_)
          · skip
            have hge : n.nd ≤ cntR n q.2 q.1 := by
              have h3 : decide ((cntR n q.2 q.1 : Int) ≥ (n.nd : Int)) = true := hc3
              simp at h3; omega
            have hb : q.2.testBit q.1 = false := by
              rw [hcb] at hg32; simpa using hg32
            refine rg ?_
            refine qv m_mv ?_
            refine qv m_mv ?_
            refine qv (m_cnvU kd3 kd41) ?_
            refine qv (m_shlS (q.1)) ?_
            refine qv (m_andnS (ha := le36 ok andn_le)) ?_
            refine qv m_as ?_
            show AWp cx _ _ _
            refine rg ?_
            refine qv m_mv ?_
            refine qv m_add ?_
            refine qv m_as ?_
            exact ⟨(q.1 + 1, q.2 ||| 2 ^ q.1), ⟨hk, hC.step ok hk hge, hφ1.2.2.step2 hk hb⟩, (by simp only; omega), (tl [(2, 2)] (hF := by simp [FLe, svLe, lk, mkM, isLive, tauL, hor]) (hM := by simp [MLe, blkLe, svLe, svLes, lk, mkM, isLive, tauL, svLes_ints, svLes_self, isDvs, isDvs_map, isDvs_app, isDvs_take, isDvs_set, isDvs_repl, hor]))⟩
          · skip
            have hrd : rdB n q.2 q.1 = false := by
              rw [rdB_eq ok hk]
              have h3 : decide ((cntR n q.2 q.1 : Int) ≥ (n.nd : Int)) = false := hc3
              simp at h3
              simp; omega
            refine awp_skip ?_
            show AWp cx _ _ _
            refine rg ?_
            refine qv m_mv ?_
            refine qv m_add ?_
            refine qv m_as ?_
            exact ⟨(q.1 + 1, q.2), ⟨hk, hC, hφ1.2.2.go fun he h j (hj : j < q.1 + 1) => if h1 : j < q.1 then h j h1 else by have e : j = q.1 := (by omega); subst e; rw [← he]; first | exact hrd | (rw [rdB_eq ok hk]; rw [hcb] at hg32; simp at hg32; simp [hg32])⟩, (by simp only; omega), (tl [(2, 2)] (hF := by simp [FLe, svLe, lk, mkM, isLive, tauL, hor]) (hM := by simp [MLe, blkLe, svLe, svLes, lk, mkM, isLive, tauL, svLes_ints, svLes_self, isDvs, isDvs_map, isDvs_app, isDvs_take, isDvs_set, isDvs_repl, hor]))⟩
        · skip
          refine zk ?_
          refine zk ?_
          refine zk ?_
          refine zk ?_
          refine zk ?_
          refine zk ?_
          refine zk ?_
          refine zk ?_
          refine zk ?_
          refine zk ?_
          refine zv m_pk ?_
          refine ⟨by rfl, ?_⟩
          show AWp cx _ _ _
          refine cdF (hb := by first | rfl | simp | simp_all) (ht := ?_)
          refine awp_skip ?_
          show AWp cx _ _ _
          refine rg ?_
          refine qv m_mv ?_
          refine qv m_add ?_
          refine qv m_as ?_
          exact ⟨(q.1 + 1, q.2), ⟨hk, hC, hφ1.2.2.go fun he h j (hj : j < q.1 + 1) => if h1 : j < q.1 then h j h1 else by have e : j = q.1 := (by omega); subst e; rw [← he]; first | exact hrd | (rw [rdB_eq ok hk]; rw [hcb] at hg32; simp at hg32; simp [hg32])⟩, (by simp only; omega), (tl [(2, 2)] (hF := by simp [FLe, svLe, lk, mkM, isLive, tauL, hor]) (hM := by simp [MLe, blkLe, svLe, svLes, lk, mkM, isLive, tauL, svLes_ints, svLes_self, isDvs, isDvs_map, isDvs_app, isDvs_take, isDvs_set, isDvs_repl, hor]))⟩
      · try simp at hc2
        refine awp_exit ?_
        exact ⟨q.2, hφ1.2.1, (hφ1.2.2.fin2 hnc fun h j hj => h j (by omega)), (tl [(2, 2)])⟩
    · skip
      refine awp_exit ?_
      show AWp cx _ _ _
      refine awp_seq ?_
      refine rg ?_
      refine qv m_mv ?_
      refine qv m_as ?_
      refine qv m_as ?_
      show AWp cx _ _ _
      refine awp_ret ?_
      have h0 : rdN n d = 0 := by simpa using hc1
      exact x2 (hr := (rI_ (by rw [onWet_ok ok hv, hφ0.done ok h0]))) (hr' := (rI_ (by rw [hwe])))

set_option maxHeartbeats 4000000 in
theorem f14 (m : Mw) (w : Int) : ACallsF Tryd.prog 14 [dMw m, i64 w] (.one (.dv (.bool true))) := by
  refine callsF_of Tryd.func14 rfl rfl (by rw [Tryd.ntmps14]; simp) fun cx hP hn hg => ?_
  rw [Tryd.ntmps14] at hn
  rw [startF_lk, none_mkM]
  simp only [List.nil_append, List.append_nil, List.cons_append, zipSV, Nat.reduceAdd]
  refine awp_seq ?_
  refine rg ?_
  refine qp m_box ?_
  refine qv m_as ?_
  show AWp cx _ _ _
  refine awp_seq ?_
  refine rg ?_
  refine qv (m_ldpa sz23 ag23) ?_
  refine qv m_mv ?_
  refine qqF (f34 m w) ?_
  refine qv m_mv ?_
  refine qv m_ext ?_
  refine qv m_ext ?_
  refine qv m_as ?_
  refine qv m_as ?_
  show AWp cx _ _ _
  refine awp_seq ?_
  refine rg ?_
  refine qv (m_ldpa sz23 ag23) ?_
  refine qv m_mv ?_
  refine qqF (f48 m w) ?_
  refine qv m_mv ?_
  refine qv m_ext ?_
  refine qv m_ext ?_
  refine qv m_as ?_
  refine qv m_as ?_
  show AWp cx _ _ _
  refine awp_seq ?_
  refine awp_seq ?_
  refine rg ?_
  refine qv m_mv ?_
  refine qv m_mv ?_
  refine qv m_neq ?_
  refine qx m_mv (fun hg27 => ?_) (fun hg27 => ?_)
  · exact absurd hg27 (by simp)
  refine qv m_mv ?_
  refine qv m_mv ?_
  refine qv m_neq ?_
  refine qv m_pk ?_
  show AWp cx _ _ _
  refine cdF (hb := by simp) (ht := ?_)
  refine awp_skip ?_
  show AWp cx _ _ _
  refine awp_seq ?_
  refine awp_seq ?_
  refine rg ?_
  refine qv m_mv ?_
  refine qv m_neq ?_
  show AWp cx _ _ _
  refine cd (fun hc1 => ?_) (fun hc1 => ?_)
  · skip
    refine awp_seq ?_
    refine rg ?_
    refine qqF (f18) ?_
    refine qv m_as ?_
    show AWp cx _ _ _
    refine awp_ret ?_
    exact x1 (hr := (rB_))
  · skip
    have he : wetE m w = 0 := by simpa using hc1
    obtain ⟨n, v, ok, rfl, rfl, hv⟩ := wetE_ok he
    have hv36 := le36 ok hv
    have hwe := wetE_v ok hv
    rw [onWet_ok ok hv]
    have hN := ok.N2
    have hf := full_add (n := n)
    have hc36 := core_le ok hv
    have hs36 := le36 ok (spr_full (n := n) v hv)
    have a1 := core_and (n := n) (v := v)
    have a2 := core_or hv
    have hf36 := full_lt ok
    refine awp_skip ?_
    show AWp cx _ _ _
    refine awp_seq ?_
    refine rg ?_
    refine qv (m_ldpa sz23 ag23) ?_
    refine qv m_mv ?_
    refine qqF (f17k ok hv) ?_
    refine qv m_mv ?_
    refine qv m_ext ?_
    refine qv m_ext ?_
    refine qv m_ext ?_
    refine qv m_as ?_
    refine qv m_as ?_
    refine qv m_as ?_
    show AWp cx _ _ _
    refine awp_seq ?_
    refine rg ?_
    refine qv m_mv ?_
    refine qv m_eql ?_
    refine qx m_mv (fun hg44 => ?_) (fun hg44 => ?_)
    rotate_left
    · exact absurd hg44 (by simp)
    refine qv (m_ldpa sz23 ag23) ?_
    refine qv m_mv ?_
    refine qqF (f35k ok hv) ?_
    refine qv m_eql ?_
    refine qv m_pk ?_
    refine qx m_mv (fun hg50 => ?_) (fun hg50 => ?_)
    rotate_left
    · exact absurd hg50 (by simp)
    refine qv m_mv ?_
    refine qv m_mv ?_
    refine qv (m_andS (ha := hc36) (hb := hs36)) ?_
    refine qv m_eql ?_
    refine qv m_pk ?_
    refine qx m_mv (fun hg56 => ?_) (fun hg56 => ?_)
    rotate_left
    · exact absurd hg56 (by simp [a1])
    refine qv m_mv ?_
    refine qv m_mv ?_
    refine qv (m_orS (ha := hc36) (hb := hs36)) ?_
    refine qv (m_fdp fd23_0) ?_
    refine qv (m_ldp sz3 ag3) ?_
    refine qv (m_fdp fd23_1) ?_
    refine qv (m_ldp sz3 ag3) ?_
    refine qv m_mulN ?_
    refine qv (m_cnvU kd3 kd41) ?_
    refine qv (m_shlS (n.r * n.c)) ?_
    refine qv (m_subN (full n)) ?_
    refine qv m_eql ?_
    refine qv m_pk ?_
    refine qx m_mv (fun hg70 => ?_) (fun hg70 => ?_)
    rotate_left
    · exact absurd hg70 (by simp [a2])
    refine qqF (f18) ?_
    refine qv m_pk ?_
    refine qv m_as ?_
    show AWp cx _ _ _
    refine awp_ret ?_
    exact x1 (hr := (rB_))

end Go.Ab.Tryd
