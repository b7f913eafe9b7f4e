/- The functions of the moss laws, part 22. The walks are written by wip/gen/gw.py. -/
import Derived.Test.YtjipgkhfbfpacaaDoorMoss21
import Derived.Test.YtjipgkhfbfpacaaDoorMossFacts
import Derived.Test.YtjipgkhfbfpacaaDoorMossD
set_option linter.all false
namespace Go.Ab.Tryd
open Go Go.Ab Go.Proofs Go.Ab.Moss

theorem thL_spr {n : Mn} {s : Nat} : ∀ {l : List Nat} {w : Nat}, (spr n w).1 = s → (spr n (thL n s l w)).1 = s
  | [], _, h => h
  | k :: l, w, h => by
    show (spr n (thL n s l (tstep n s w k))).1 = s
    refine thL_spr ?_
    unfold tstep
    split
    · rename_i h1; exact h1
    · exact h
theorem thin_spr {n : Mn} {v : Nat} : (spr n (thin n v)).1 = (spr n v).1 := thL_spr rfl
theorem thin_sub {n : Mn} {v : Nat} : Sub (thin n v) v := thL_sub
theorem thin_full {n : Mn} {v : Nat} (hv : v ≤ full n) : thin n v ≤ full n := sub_full thin_sub hv
theorem andn_zero {a b : Nat} (h : Sub a b) : andn a b = 0 := by
  apply Nat.eq_of_testBit_eq
  intro i
  rw [andn_bit, Nat.zero_testBit]
  cases ha : a.testBit i with
  | false => rfl
  | true => rw [h i ha]; rfl
theorem rev_get {N k : Nat} (hk : k < (List.range N).reverse.length) : (List.range N).reverse[k] = N - 1 - k := by
  rw [List.getElem_reverse]; simp
theorem f32k {n : Mn} (ok : n.Ok) {v : Nat} (hv : v ≤ full n) : ACallsF Tryd.prog 32 [dMn n, i64 (v : Int)] (.many [rI (ns (ordL n v)), .dv (i64 0)]) := by
  have h := f32 n.w v
  rw [onWet_ok ok hv, wetE_v ok hv] at h
  exact h
theorem f34k {n : Mn} (ok : n.Ok) {v : Nat} (hv : v ≤ full n) : ACallsF Tryd.prog 34 [dMn n, i64 (v : Int)] (.many [.dv (i64 (coreN n v : Int)), .dv (i64 0)]) := by
  have h := f34 n.w v
  rw [onWet_ok ok hv, wetE_v ok hv] at h
  exact h
theorem f31k {n : Mn} (ok : n.Ok) {v : Nat} (hv : v ≤ full n) : ACallsF Tryd.prog 31 [dMn n, i64 (v : Int)] (.many [.dv (i64 (thin n v : Int)), .dv (i64 0)]) := by
  have h := f31 n.w v
  rw [onWet_ok ok hv, wetE_v ok hv] at h
  exact h
theorem s1912 : ACallsF Tryd.prog 19 [dMw ⟨1,2,1⟩, i64 1] (.many [.dv (i64 4), .dv (i64 0)]) := by
  have h := f19 ⟨1,2,1⟩ 1
  rw [show (onWet ⟨1,2,1⟩ 1 0 edgeR) = 4 by decide +kernel, show wetE ⟨1,2,1⟩ 1 = 0 by decide +kernel] at h
  exact h
theorem ckR_fit2 {n : Mn} (ok : n.Ok) {v : Nat} (hv : v ≤ full n) {o : List Int} (h : (ckR n.w v o).2.2 = 0) : ∃ u : Nat, ckR n.w v o = ((u : Int), (o.length : Int), 0) ∧ u ≤ full n ∧ (spr n u).1 = (spr n v).1 := by
  by_cases hb : o.any (fun x => !fromB x 0 ((n.r * n.c : Nat) - 1)) = true
  · rw [ckR_bad ok hv hb] at h; cases h
  · obtain ⟨l, hol, hl⟩ := ns_of hb
    rw [ckR_ok ok hv hol hl] at h
    obtain ⟨u, h1, h2, h3⟩ := ckO_ok ok l 0 v hl hv h
    refine ⟨u, ?_, h2, h3⟩
    rw [ckR_ok ok hv hol hl, h1, hol, ns_len, Nat.zero_add]
/-- The way from a set to what spreads. -/
def Way (n : Mn) (v t u : Nat) : Prop := u ≤ full n ∧ (spr n v).2 = t + (spr n u).2 ∧ (spr n u).1 = (spr n v).1
theorem Way.step {n : Mn} {v t u : Nat} (h : Way n v t u) (ht : t < (spr n v).2) : rdN n u ≠ 0 ∧ Way n v (t + 1) (u ||| rdN n u) := by
  obtain ⟨h1, h2, h3⟩ := h
  have h0 : rdN n u ≠ 0 := by
    intro h0
    rw [spr_zero h0] at h2
    simp at h2; omega
  have h4 := spr_step h0
  rw [h4] at h2 h3
  exact ⟨h0, or_full h1 rd_full, by simp only at h2; omega, h3⟩
theorem Way.fin {n : Mn} {v u : Nat} (h : Way n v (spr n v).2 u) : u = (spr n v).1 := by
  obtain ⟨h1, h2, h3⟩ := h
  by_cases h0 : rdN n u = 0
  · rw [← h3, spr_zero h0]
  · rw [spr_step h0] at h2; simp at h2
theorem or_ne {n : Mn} {u : Nat} (h : rdN n u ≠ 0) : u ||| rdN n u ≠ u := fun e => h (rd_sub e)
theorem core_bit0 {n : Mn} (ok : n.Ok) {v : Nat} : ((spr n v).1.testBit 0 == !(coreN n v).testBit 0) = true := by
  unfold coreN
  rw [andn_bit, full_bit]
  have h : 0 < n.r * n.c := Nat.mul_pos ok.r1 ok.c1
  cases (spr n v).1.testBit 0 <;> simp [h]
theorem edge_bd {n : Mn} {v : Nat} : -60 * 64 ≤ edgeR n v ∧ edgeR n v ≤ 4 * 64 := by
  have h1 := sumI_bd (n := n) (w := v) (bl v)
  have h2 := bl_len (x := v)
  unfold edgeR
  omega


set_option maxHeartbeats 4000000 in
theorem f49 (m : Mw) (w : Int) : ACallsF Tryd.prog 49 [dMw m, i64 w] (.many [.dv (i64 (onWet m w 0 fun n v => (thin n v : Int))), .dv (i64 (wetE m w))]) := by
  refine callsF_of Tryd.func49 rfl rfl (by rw [Tryd.ntmps49]; simp) fun cx hP hn hg => ?_
  rw [Tryd.ntmps49] at hn
  rw [startF_lk, none_mkM]
  simp only [List.nil_append, List.append_nil, List.cons_append, zipSV, Nat.reduceAdd]
  refine awp_seq ?_
  refine rg ?_
  refine qp m_box ?_
  refine qv m_as ?_
  refine qv m_as ?_
  show AWp cx _ _ _
  refine awp_seq ?_
  refine rg ?_
  refine qv (m_ldpa sz23 ag23) ?_
  refine qv m_mv ?_
  refine qqF (f61 m w) ?_
  refine qv m_as ?_
  show AWp cx _ _ _
  refine awp_seq ?_
  refine awp_seq ?_
  refine rg ?_
  refine qv m_mv ?_
  refine qv m_neq ?_
  show AWp cx _ _ _
  refine cd (fun hc0 => ?_) (fun hc0 => ?_)
  · skip
    have hne : ¬ wetE m w = 0 := by simpa using hc0
    refine awp_seq ?_
    refine rg ?_
    refine qv m_mv ?_
    refine qv m_as ?_
    refine qv m_as ?_
    show AWp cx _ _ _
    refine awp_ret ?_
    exact x2 (hr := (rI_ (by rw [onWet_no hne]))) (hr' := (rI_))
  · skip
    have he : wetE m w = 0 := by simpa using hc0
    obtain ⟨n, v, ok, rfl, rfl, hv⟩ := wetE_ok he
    have hv36 := le36 ok hv
    have hwe := wetE_v ok hv
    refine awp_skip ?_
    show AWp cx _ _ _
    refine awp_seq ?_
    refine rg ?_
    refine qv (m_ldpa sz23 ag23) ?_
    refine qv m_mv ?_
    refine qqF (f70 n ok v hv36) ?_
    refine qv m_mv ?_
    refine qv m_ext ?_
    refine qv m_ext ?_
    refine qv m_as ?_
    refine qv m_as ?_
    show AWp cx _ _ _
    refine awp_seq ?_
    refine awp_seq ?_
    refine rg ?_
    refine qv (m_ldpa sz23 ag23) ?_
    have hN := ok.N2
    have hN1 := ok.N1
    refine qqF (f62 n ok) ?_
    refine qv m_sub ?_
    refine qv m_as ?_
    show AWp cx _ _ _
    refine awp_block ?_
    refine awp_loop (ι := Nat) (fun k => ⟨lk [(1, .dv (i64 (thL n (spr n v).1 ((List.range (n.r * n.c)).reverse.take k) v : Nat))), (2, .pt 2 0 0), (7, .dv (i64 ((spr n v).1 : Int))), (9, .dv (i64 (((n.r * n.c : Nat) : Int) - 1 - k)))], mkM [(2, 0, some ⟨[.dv (i64 ((n.r : Int))), .dv (i64 ((n.c : Int))), .dv (i64 ((n.nd : Int)))], 0, 23, 0, false⟩)]⟩) (fun k => k ≤ n.r * n.c) (fun k => n.r * n.c - k) 0 (by simp) (tl [(2, 2)] (hF := by simp [FLe, svLe, lk, mkM, isLive, tauL, thL]) (hM := by simp [MLe, blkLe, svLe, svLes, lk, mkM, isLive, tauL, svLes_ints, svLes_self, isDvs, isDvs_map, isDvs_app, isDvs_take, isDvs_set, isDvs_repl, thL])) ?_
    intro k hφ0
    refine awp_seq ?_
    refine awp_seq ?_
    refine rg ?_
    refine qv m_mv ?_
    refine qv m_geq ?_
    show AWp cx _ _ _
    refine cd (fun hc1 => ?_) (fun hc1 => ?_)
    · try simp at hc1
      have hkl : k < n.r * n.c := by omega
      have he1 : (((n.r * n.c : Nat) : Int) - 1 - k) = ((n.r * n.c - 1 - k : Nat) : Int) := by omega
      rw [he1]
      have hk : k < (List.range (n.r * n.c)).reverse.length := by simpa using hkl
      have hsub := thL_sub (n := n) (s := (spr n v).1) (l := (List.range (n.r * n.c)).reverse.take k) (w := v)
      have hw36 := le36 ok (sub_full hsub hv)
      have htk := thL_take (n := n) (s := (spr n v).1) (w := v) hk
      rw [rev_get hk] at htk
      refine awp_skip ?_
      show AWp cx _ _ _
      refine awp_seq ?_
      refine awp_block ?_
      refine awp_seq ?_
      refine rg ?_
      refine qv m_mv ?_
      refine qv m_mv ?_
      refine qv (m_cnvU kd3 kd41) ?_
      refine qv (m_shlS (n.r * n.c - 1 - k)) ?_
      refine qv (m_andnS (ha := hw36) (hb := two36 (by omega))) ?_
      refine qv m_as ?_
      show AWp cx _ _ _
      refine awp_seq ?_
      refine rg ?_
      refine qv (m_ldpa sz23 ag23) ?_
      refine qv m_mv ?_
      refine qqF (f70 n ok (andn (thL n (spr n v).1 ((List.range (n.r * n.c)).reverse.take k) v) (2 ^ (n.r * n.c - 1 - k))) (andn36 hw36)) ?_
      refine qv m_mv ?_
      refine qv m_ext ?_
      refine qv m_ext ?_
      refine qv m_as ?_
      refine qv m_as ?_
      show AWp cx _ _ _
      refine awp_seq ?_
      refine rg ?_
      refine qv m_mv ?_
      refine qv m_mv ?_
      refine qv m_eql ?_
      show AWp cx _ _ _
      refine cd (fun hc2 => ?_) (fun hc2 => ?_)
      · skip
        have hb : thL n (spr n v).1 ((List.range (n.r * n.c)).reverse.take (k + 1)) v = andn (thL n (spr n v).1 ((List.range (n.r * n.c)).reverse.take k) v) (2 ^ (n.r * n.c - 1 - k)) := by rw [htk]; unfold tstep; rw [if_pos (by have := hc2; simp at this ⊢; omega)]
        refine rg ?_
        refine qv m_mv ?_
        refine qv m_as ?_
        show AWp cx _ _ _
        refine rg ?_
        refine qv m_mv ?_
        refine qv m_sub ?_
        refine qv m_as ?_
        exact ⟨k + 1, hkl, by simp only; omega, (tl [(2, 2)] (hF := by simp [FLe, svLe, lk, mkM, isLive, tauL, hb]; omega))⟩
      · skip
        have hb : thL n (spr n v).1 ((List.range (n.r * n.c)).reverse.take (k + 1)) v = thL n (spr n v).1 ((List.range (n.r * n.c)).reverse.take k) v := by rw [htk]; unfold tstep; rw [if_neg (by have := hc2; simp at this ⊢; omega)]
        refine awp_skip ?_
        show AWp cx _ _ _
        refine rg ?_
        refine qv m_mv ?_
        refine qv m_sub ?_
        refine qv m_as ?_
        exact ⟨k + 1, hkl, by simp only; omega, (tl [(2, 2)] (hF := by simp [FLe, svLe, lk, mkM, isLive, tauL, hb]; omega))⟩
    · try simp at hc1
      refine awp_exit ?_
      show AWp cx _ _ _
      refine awp_seq ?_
      refine rg ?_
      refine qv m_mv ?_
      refine qv m_as ?_
      refine qv m_as ?_
      show AWp cx _ _ _
      refine awp_ret ?_
      have hT : (List.range (n.r * n.c)).reverse.take k = (List.range (n.r * n.c)).reverse := List.take_of_length_le (by simp; omega)
      rw [hT]
      exact x2 (hr := (rI_ (by rw [onWet_ok ok hv]; rfl))) (hr' := (rI_ (by rw [hwe])))

end Go.Ab.Tryd
