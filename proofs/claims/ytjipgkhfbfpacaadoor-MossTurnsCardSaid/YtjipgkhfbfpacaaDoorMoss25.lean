/- The functions of the moss laws, part 25. The walks are written by wip/gen/gw.py. -/
import Derived.Test.YtjipgkhfbfpacaaDoorMoss24
import Derived.Test.YtjipgkhfbfpacaaDoorMossFacts
import Derived.Test.YtjipgkhfbfpacaaDoorMossD
set_option linter.all false
namespace Go.Ab.Tryd
open Go Go.Ab Go.Proofs Go.Ab.Moss

theorem need_len {m : Mw} {w : Int} : (onWet m w [] fun n v => ns (needL n v)).length < 1000000 := by
  by_cases he : wetE m w = 0
  · obtain ⟨n, v, ok, rfl, rfl, hv⟩ := wetE_ok he
    rw [onWet_ok ok hv, ns_len]
    have h1 : (needL n v).length ≤ (bl v).length := List.length_filter_le _ _
    have h2 := bl_len (x := v)
    omega
  · rw [onWet_no he]; simp
theorem mem_need {n : Mn} {v k : Nat} (h : k ∈ needL n v) : v.testBit k = true ∧ (spr n (andn v (2 ^ k))).1 ≠ (spr n v).1 := by
  unfold needL at h
  rw [List.mem_filter, mem_bl'] at h
  exact ⟨h.1.2, by simpa [needB] using h.2⟩
theorem sub_andn {a b k : Nat} (h : Sub a b) (hk : a.testBit k = false) : Sub a (andn b (2 ^ k)) := fun i hi => by
  rw [andn_bit, h i hi, Nat.testBit_two_pow]
  by_cases e : k = i
  · subst e; rw [hk] at hi; cases hi
  · simp [e]
theorem need_thin {n : Mn} (ok : n.Ok) {v k : Nat} (h : k ∈ needL n v) : (thin n v).testBit k = true := by
  obtain ⟨h1, h2⟩ := mem_need h
  cases ht : (thin n v).testBit k with
  | true => rfl
  | false =>
    have h3 := spr_mono ok (sub_andn (thin_sub (n := n) (v := v)) ht)
    rw [thin_spr] at h3
    exact absurd (Sub.antisymm (spr_mono ok andn_sub) h3) h2
theorem thL_keep {n : Mn} (ok : n.Ok) {s : Nat} : ∀ {l : List Nat} {w k : Nat}, (spr n w).1 = s → k ∈ l → (thL n s l w).testBit k = true → (spr n (andn (thL n s l w) (2 ^ k))).1 ≠ s
  | j :: l, w, k, hw, hk, ht => by
    have hw' : (spr n (tstep n s w j)).1 = s := by
      unfold tstep
      split
      · rename_i h1; exact h1
      · exact hw
    rcases List.mem_cons.1 hk with rfl | hk
    · have h1 : (tstep n s w k).testBit k = true := thL_sub (l := l) k ht
      have h2 : (spr n (andn w (2 ^ k))).1 ≠ s := by
        intro h2
        unfold tstep at h1
        rw [if_pos h2, andn_bit] at h1
        simp at h1
      intro h3
      have h4 : Sub (thL n s (k :: l) w) w := thL_sub
      have h5 := spr_mono ok (andn_mono (c := 2 ^ k) h4)
      rw [h3] at h5
      have h6 : Sub (spr n (andn w (2 ^ k))).1 s := hw ▸ spr_mono ok andn_sub
      exact h2 (Sub.antisymm h6 h5)
    · show (spr n (andn (thL n s l (tstep n s w j)) (2 ^ k))).1 ≠ s
      exact thL_keep ok hw' hk ht
theorem thL_fix {n : Mn} {s t : Nat} : ∀ {l : List Nat}, (∀ k ∈ l, t.testBit k = true → (spr n (andn t (2 ^ k))).1 ≠ s) → thL n s l t = t
  | [], _ => rfl
  | k :: l, h => by
    show thL n s l (tstep n s t k) = t
    have e : tstep n s t k = t := by
      cases ht : t.testBit k with
      | false => exact tstep_skip ht
      | true => unfold tstep; rw [if_neg (h k (by simp) ht)]
    rw [e]
    exact thL_fix fun j hj => h j (by simp [hj])
theorem thin_thin {n : Mn} (ok : n.Ok) {v : Nat} : thin n (thin n v) = thin n v := by
  show thL n (spr n (thin n v)).1 (List.range (n.r * n.c)).reverse (thin n v) = thin n v
  rw [thin_spr]
  exact thL_fix fun k hk ht => thL_keep ok rfl hk ht
theorem f31t {n : Mn} (ok : n.Ok) {v : Nat} (hv : v ≤ full n) : ACallsF Tryd.prog 31 [dMn n, i64 (thin n v : Int)] (.many [.dv (i64 (thin n v : Int)), .dv (i64 0)]) := by
  have h := f31k ok (thin_full hv)
  rwa [thin_thin ok] at h
def needQ (n : Mn) (v k : Nat) : Bool := v.testBit k && needB n v k


set_option maxHeartbeats 4000000 in
theorem f51 (m : Mw) (w : Int) : ACallsF Tryd.prog 51 [dMw m, i64 w] (.many [rI (onWet m w [] fun n v => ns (needL n v)), .dv (i64 (wetE m w))]) := by
  refine callsF_of Tryd.func51 rfl rfl (by rw [Tryd.ntmps51]; simp) fun cx hP hn hg => ?_
  rw [Tryd.ntmps51] at hn
  rw [startF_lk, none_mkM]
  simp only [List.nil_append, List.append_nil, List.cons_append, zipSV, Nat.reduceAdd]
  refine awp_seq ?_
  refine rg ?_
  refine qp m_box ?_
  refine qv m_as ?_
  refine qv m_as ?_
  show AWp cx _ _ _
  refine awp_seq ?_
  refine rg ?_
  refine qv (m_ldpa sz23 ag23) ?_
  refine qv m_mv ?_
  refine qqF (f61 m w) ?_
  refine qv m_as ?_
  show AWp cx _ _ _
  refine awp_seq ?_
  refine awp_seq ?_
  refine rg ?_
  refine qv m_mv ?_
  refine qv m_neq ?_
  show AWp cx _ _ _
  refine cd (fun hc0 => ?_) (fun hc0 => ?_)
  · skip
    have hne : ¬ wetE m w = 0 := by simpa using hc0
    refine awp_seq ?_
    refine rg ?_
    refine qv m_mv ?_
    refine qv m_as ?_
    refine qv m_as ?_
    show AWp cx _ _ _
    refine awp_ret ?_
    exact x2 (hr := (rN_ (by rw [onWet_no hne]))) (hr' := (rI_))
  · skip
    have he : wetE m w = 0 := by simpa using hc0
    obtain ⟨n, v, ok, rfl, rfl, hv⟩ := wetE_ok he
    have hv36 := le36 ok hv
    have hwe := wetE_v ok hv
    refine awp_skip ?_
    show AWp cx _ _ _
    refine awp_seq ?_
    refine rg ?_
    refine qv (m_ldpa sz23 ag23) ?_
    refine qv m_mv ?_
    refine qqF (f70 n ok v hv36) ?_
    refine qv m_mv ?_
    refine qv m_ext ?_
    refine qv m_ext ?_
    refine qv m_as ?_
    refine qv m_as ?_
    show AWp cx _ _ _
    refine awp_seq ?_
    refine rg ?_
    refine qv m_as ?_
    show AWp cx _ _ _
    refine awp_seq ?_
    refine awp_seq ?_
    refine rg ?_
    refine qv m_as ?_
    show AWp cx _ _ _
    refine awp_block ?_
    refine awp_loop (ι := Nat) (fun j => ⟨lk [(1, .dv (i64 ((v : Int)))), (2, .pt 2 0 0), (7, .dv (i64 ((spr n v).1 : Int))), (9, .sl 9 0 0 ((ns ((List.range j).filter (needQ n v))).length)), (10, .dv (i64 (j : Nat)))], mkM [(2, 0, some ⟨[.dv (i64 ((n.r : Int))), .dv (i64 ((n.c : Int))), .dv (i64 ((n.nd : Int)))], 0, 23, 0, false⟩), (9, 0, some (rowI (ns ((List.range j).filter (needQ n v)))))]⟩) (fun j => j ≤ n.r * n.c) (fun j => n.r * n.c - j) 0 (by simp) (tl [(2, 2)] (hF := by simp [FLe, svLe, lk, mkM, isLive, tauL, ns]) (hM := by simp [MLe, blkLe, svLe, svLes, lk, mkM, isLive, tauL, svLes_ints, svLes_self, isDvs, isDvs_map, isDvs_app, isDvs_take, isDvs_set, isDvs_repl, ns])) ?_
    intro j hφ0
    have hfl := filt_len (p := needQ n v) (k := j)
    refine awp_seq ?_
    refine awp_seq ?_
    refine rg ?_
    refine qv m_mv ?_
    refine qv (m_ldpa sz23 ag23) ?_
    refine qqF (f62 n ok) ?_
    refine qv m_lss ?_
    show AWp cx _ _ _
    refine cd (fun hc1 => ?_) (fun hc1 => ?_)
    · try simp at hc1
      refine awp_skip ?_
      show AWp cx _ _ _
      refine awp_seq ?_
      refine awp_block ?_
      refine awp_seq ?_
      refine rg ?_
      have hj : j < n.r * n.c := by omega
      have hN := ok.N2
      have hav := andn36 (b := 2 ^ j) hv36
      refine qv (m_ldpa sz23 ag23) ?_
      refine qv m_mv ?_
      refine qv m_mv ?_
      refine qv (m_cnvU kd3 kd41) ?_
      refine qv (m_shlS j) ?_
      refine qv (m_andnS (ha := hv36) (hb := two36 (by omega))) ?_
      refine qqF (f70 n ok (andn v (2 ^ j)) hav) ?_
      refine qv m_mv ?_
      refine qv m_ext ?_
      refine qv m_ext ?_
      refine qv m_as ?_
      refine qv m_as ?_
      show AWp cx _ _ _
      refine awp_seq ?_
      refine rg ?_
      refine qv m_mv ?_
      refine qv m_mv ?_
      refine qqF (f36 v j hv36 (by omega)) ?_
      refine qx m_mv (fun hg44 => ?_) (fun hg44 => ?_)
      · skip
        refine qv m_mv ?_
        refine qv m_mv ?_
        refine qv m_neq ?_
        refine qv m_pk ?_
        show AWp cx _ _ _
        refine cd (fun hc2 => ?_) (fun hc2 => ?_)
        · skip
          have ha : needQ n v j = true := by
            unfold needQ needB
            have h2 := hc2
            simp at h2
            have e : (spr n (andn v (2 ^ j))).1 ≠ (spr n v).1 := by omega
            simp [show v.testBit j = true from hg44, e]
          have hsn := ns_filter ha
          have hnl : (ns ((List.range j).filter (needQ n v))).length ≤ 36 := by rw [ns_len]; omega
          refine rg ?_
          refine qv m_mv ?_
          refine qv m_mv ?_
          refine qr (m_bsl el32 ze3 sz3) ?_
          refine qa1 (m_app1 el32 el32 ze3 sz3 by3) ?_
          refine qv m_as ?_
          show AWp cx _ _ _
          refine rg ?_
          refine qv m_mv ?_
          refine qv m_add ?_
          refine qv m_as ?_
          exact ⟨j + 1, hj, (by simp only; omega), (tl [(2, 2), (9, 52)] (hF := by simp [FLe, svLe, lk, mkM, isLive, tauL, hsn]) (hM := by simp [MLe, blkLe, svLe, svLes, lk, mkM, isLive, tauL, svLes_ints, svLes_self, isDvs, isDvs_map, isDvs_app, isDvs_take, isDvs_set, isDvs_repl, hsn]))⟩
        · skip
          have ha : ¬ needQ n v j = true := by
            unfold needQ needB
            have h2 := hc2
            simp at h2
            have e : (spr n (andn v (2 ^ j))).1 = (spr n v).1 := by omega
            simp [e]
          have hsn := ns_filter' ha
          refine awp_skip ?_
          show AWp cx _ _ _
          refine rg ?_
          refine qv m_mv ?_
          refine qv m_add ?_
          refine qv m_as ?_
          exact ⟨j + 1, hj, (by simp only; omega), (tl [(2, 2), (9, 9)] (hF := by simp [FLe, svLe, lk, mkM, isLive, tauL, hsn]) (hM := by simp [MLe, blkLe, svLe, svLes, lk, mkM, isLive, tauL, svLes_ints, svLes_self, isDvs, isDvs_map, isDvs_app, isDvs_take, isDvs_set, isDvs_repl, hsn]))⟩
      · skip
        refine qk ?_
        refine qk ?_
        refine qk ?_
        refine qv m_pk ?_
        show AWp cx _ _ _
        refine cdF (hb := by first | rfl | simp | simp_all) (ht := ?_)
        refine awp_skip ?_
        show AWp cx _ _ _
        refine rg ?_
        refine qv m_mv ?_
        refine qv m_add ?_
        refine qv m_as ?_
        have ha : ¬ needQ n v j = true := by
          unfold needQ
          simp [show v.testBit j = false from hg44]
        have hsn := ns_filter' ha
        exact ⟨j + 1, hj, by simp only; omega, (tl [(2, 2), (9, 9)] (hF := by simp [FLe, svLe, lk, mkM, isLive, tauL, hsn]) (hM := by simp [MLe, blkLe, svLe, svLes, lk, mkM, isLive, tauL, svLes_ints, svLes_self, isDvs, isDvs_map, isDvs_app, isDvs_take, isDvs_set, isDvs_repl, hsn]))⟩
    · try simp at hc1
      refine awp_exit ?_
      show AWp cx _ _ _
      refine awp_seq ?_
      refine rg ?_
      refine qv m_mv ?_
      refine qv m_as ?_
      refine qv m_as ?_
      show AWp cx _ _ _
      refine awp_ret ?_
      obtain rfl : j = n.r * n.c := by omega
      exact x2 (hr := (rR_ (h := by rw [onWet_ok ok hv, needL_range ok hv]))) (hr' := (rI_ (by rw [hwe])))

set_option maxHeartbeats 8000000 in
theorem f15 (m : Mw) (w : Int) : ACallsF Tryd.prog 15 [dMw m, i64 w] (.one (.dv (.bool true))) := by
  refine callsF_of Tryd.func15 rfl rfl (by rw [Tryd.ntmps15]; simp) fun cx hP hn hg => ?_
  rw [Tryd.ntmps15] at hn
  rw [startF_lk, none_mkM]
  simp only [List.nil_append, List.append_nil, List.cons_append, zipSV, Nat.reduceAdd]
  refine awp_seq ?_
  refine rg ?_
  refine qp m_box ?_
  refine qv m_as ?_
  show AWp cx _ _ _
  refine awp_seq ?_
  refine rg ?_
  refine qv (m_ldpa sz23 ag23) ?_
  refine qv m_mv ?_
  refine qqF (f31 m w) ?_
  refine qv m_mv ?_
  refine qv m_ext ?_
  refine qv m_ext ?_
  refine qv m_as ?_
  refine qv m_as ?_
  show AWp cx _ _ _
  refine awp_seq ?_
  refine rg ?_
  refine qv (m_ldpa sz23 ag23) ?_
  refine qv m_mv ?_
  refine qqF (f49 m w) ?_
  refine qv m_mv ?_
  refine qv m_ext ?_
  refine qv m_ext ?_
  refine qv m_as ?_
  refine qv m_as ?_
  show AWp cx _ _ _
  refine awp_seq ?_
  refine rg ?_
  refine qv (m_ldpa sz23 ag23) ?_
  refine qv m_mv ?_
  refine qqF (f50 m w) ?_
  refine qv m_mv ?_
  refine qv m_ext ?_
  refine qv m_ext ?_
  refine qv m_as ?_
  refine qv m_as ?_
  show AWp cx _ _ _
  refine awp_seq ?_
  refine rg ?_
  refine qv (m_ldpa sz23 ag23) ?_
  refine qv m_mv ?_
  refine qqF (f51 m w) ?_
  refine qv m_mv ?_
  refine qv m_ext ?_
  refine qv m_ext ?_
  refine qv m_as ?_
  refine qv m_as ?_
  show AWp cx _ _ _
  refine awp_seq ?_
  refine awp_seq ?_
  refine rg ?_
  refine qv m_mv ?_
  refine qv m_mv ?_
  refine qv m_neq ?_
  refine qx m_mv (fun hg49 => ?_) (fun hg49 => ?_)
  · exact absurd hg49 (by simp)
  refine qv m_mv ?_
  refine qv m_mv ?_
  refine qv m_neq ?_
  refine qv m_pk ?_
  refine qx m_mv (fun hg54 => ?_) (fun hg54 => ?_)
  · exact absurd hg54 (by simp)
  refine qv m_mv ?_
  refine qv m_mv ?_
  refine qqF (f26k _ need_len) ?_
  refine qv m_not ?_
  refine qv m_pk ?_
  refine qx m_mv (fun hg60 => ?_) (fun hg60 => ?_)
  · exact absurd hg60 (by simp)
  refine qv m_mv ?_
  refine qv m_mv ?_
  refine qv m_neq ?_
  refine qv m_pk ?_
  show AWp cx _ _ _
  refine cdF (hb := by simp) (ht := ?_)
  refine awp_skip ?_
  show AWp cx _ _ _
  refine awp_seq ?_
  refine awp_seq ?_
  refine rg ?_
  refine qv m_mv ?_
  refine qv m_neq ?_
  show AWp cx _ _ _
  refine cd (fun hc1 => ?_) (fun hc1 => ?_)
  · skip
    refine awp_seq ?_
    refine rg ?_
    refine qqF (f18) ?_
    refine qv m_as ?_
    show AWp cx _ _ _
    refine awp_ret ?_
    exact x1 (hr := (rB_))
  · skip
    have he : wetE m w = 0 := by simpa using hc1
    obtain ⟨n, v, ok, rfl, rfl, hv⟩ := wetE_ok he
    have hv36 := le36 ok hv
    have hwe := wetE_v ok hv
    rw [onWet_ok ok hv, onWet_ok ok hv]
    have hN := ok.N2
    have htf := thin_full hv
    have ht36 := le36 ok htf
    have hts := thin_spr (n := n) (v := v)
    have htv : thin n v &&& v = thin n v := sub_and'.1 thin_sub
    have hnl := ns_len (needL n v)
    have hnb : (needL n v).length ≤ 64 := Nat.le_trans (List.length_filter_le _ _) bl_len
    refine awp_skip ?_
    show AWp cx _ _ _
    refine awp_seq ?_
    refine rg ?_
    refine qv (m_ldpa sz23 ag23) ?_
    refine qv m_mv ?_
    refine qqF (f17k ok htf) ?_
    refine qv m_mv ?_
    refine qv m_ext ?_
    refine qv m_ext ?_
    refine qv m_ext ?_
    refine qv m_as ?_
    refine qv m_as ?_
    refine qv m_as ?_
    show AWp cx _ _ _
    refine awp_seq ?_
    refine rg ?_
    refine qv (m_ldpa sz23 ag23) ?_
    refine qv m_mv ?_
    refine qqF (f17k ok hv) ?_
    refine qv m_mv ?_
    refine qv m_ext ?_
    refine qv m_ext ?_
    refine qv m_ext ?_
    refine qv m_as ?_
    refine qv m_as ?_
    refine qv m_as ?_
    show AWp cx _ _ _
    refine awp_seq ?_
    refine awp_seq ?_
    refine rg ?_
    refine qv m_as ?_
    show AWp cx _ _ _
    refine awp_block ?_
    refine awp_loop (ι := Nat) (fun i => ⟨lk [(1, .dv (i64 ((v : Int)))), (2, .pt 2 0 0), (5, .dv (i64 (thin n v : Int))), (9, .dv (ints (ns (needL n v)))), (13, .dv (i64 ((spr n (thin n v)).1 : Int))), (15, .dv (i64 0)), (16, .dv (i64 ((spr n v).1 : Int))), (18, .dv (i64 0)), (19, .dv (i64 (i : Nat)))], mkM [(2, 0, some ⟨[.dv (i64 ((n.r : Int))), .dv (i64 ((n.c : Int))), .dv (i64 ((n.nd : Int)))], 0, 23, 0, false⟩)]⟩) (fun i => i ≤ (ns (needL n v)).length) (fun i => (ns (needL n v)).length - i) 0 (by simp) (tl [(2, 2)]) ?_
    intro i hφ0
    refine awp_seq ?_
    refine awp_seq ?_
    refine rg ?_
    refine qv m_mv ?_
    refine qv m_mv ?_
    first | refine qv (m_len il32) ?_ | refine qv (m_lenR il32) ?_ | refine qv (m_len0 il32) ?_
    refine qv m_lss ?_
    show AWp cx _ _ _
    refine cd (fun hc2 => ?_) (fun hc2 => ?_)
    · try simp at hc2
      have hi : i < (needL n v).length := by rw [← hnl]; omega
      have hgi := ns_get hi
      have hmem := need_thin ok (List.getElem_mem hi)
      have hki := bit_lt htf hmem
      refine awp_skip ?_
      show AWp cx _ _ _
      refine awp_seq ?_
      refine awp_block ?_
      refine awp_seq ?_
      refine rg ?_
      refine qv m_mv ?_
      refine qv m_mv ?_
      refine qv m_mv ?_
      refine qv (m_ixN (q := ((needL n v)[i] : Int)) el32 sz3 (hq := hgi)) ?_
      first | refine qv (m_ld sz3 ag3) ?_ | refine qv (m_ldp sz3 ag3) ?_
      refine qqF (f36 (thin n v) (needL n v)[i] ht36 (by omega)) ?_
      refine qv m_not ?_
      show AWp cx _ _ _
      refine cdF (hb := by simp [hmem]) (ht := ?_)
      refine awp_skip ?_
      show AWp cx _ _ _
      refine rg ?_
      refine qv m_mv ?_
      refine qv m_add ?_
      refine qv m_as ?_
      exact ⟨i + 1, by rw [hnl]; exact hi, (by simp only; omega), (tl [(2, 2)])⟩
    · try simp at hc2
      refine awp_exit ?_
      show AWp cx _ _ _
      refine awp_seq ?_
      refine rg ?_
      refine qv (m_ldpa sz23 ag23) ?_
      refine qv m_mv ?_
      refine qqF (f31t ok hv) ?_
      refine qv m_mv ?_
      refine qv m_ext ?_
      refine qv m_ext ?_
      refine qv m_as ?_
      refine qv m_as ?_
      show AWp cx _ _ _
      refine awp_seq ?_
      refine rg ?_
      refine qv m_mv ?_
      refine qv m_eql ?_
      refine qx m_mv (fun hg103 => ?_) (fun hg103 => ?_)
      rotate_left
      · exact absurd hg103 (by simp)
      refine qv m_mv ?_
      refine qv m_eql ?_
      refine qv m_pk ?_
      refine qx m_mv (fun hg107 => ?_) (fun hg107 => ?_)
      rotate_left
      · exact absurd hg107 (by simp)
      refine qv m_mv ?_
      refine qv m_mv ?_
      refine qv m_eql ?_
      refine qv m_pk ?_
      refine qx m_mv (fun hg112 => ?_) (fun hg112 => ?_)
      rotate_left
      · exact absurd hg112 (by simp [hts])
      refine qv m_mv ?_
      refine qv m_mv ?_
      refine qv (m_andS (ha := ht36) (hb := hv36)) ?_
      refine qv m_mv ?_
      refine qv m_eql ?_
      refine qv m_pk ?_
      refine qx m_mv (fun hg119 => ?_) (fun hg119 => ?_)
      rotate_left
      · exact absurd hg119 (by simp [htv])
      refine qv m_mv ?_
      refine qv m_eql ?_
      refine qv m_pk ?_
      refine qx m_mv (fun hg123 => ?_) (fun hg123 => ?_)
      rotate_left
      · exact absurd hg123 (by simp)
      refine qv m_mv ?_
      refine qv m_mv ?_
      refine qv m_eql ?_
      refine qv m_pk ?_
      refine qx m_mv (fun hg128 => ?_) (fun hg128 => ?_)
      rotate_left
      · exact absurd hg128 (by simp)
      refine qqF (f18) ?_
      refine qv m_pk ?_
      refine qv m_as ?_
      show AWp cx _ _ _
      refine awp_ret ?_
      exact x1 (hr := (rB_))

end Go.Ab.Tryd
