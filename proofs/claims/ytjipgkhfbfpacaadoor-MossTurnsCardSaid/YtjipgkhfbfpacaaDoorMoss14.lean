/- The functions of the moss laws, part 14. The walks are written by wip/gen/gw.py. -/
import Derived.Test.YtjipgkhfbfpacaaDoorMoss13
import Derived.Test.YtjipgkhfbfpacaaDoorMossFacts
import Derived.Test.YtjipgkhfbfpacaaDoorMossD
set_option linter.all false
namespace Go.Ab.Tryd
open Go Go.Ab Go.Proofs Go.Ab.Moss

theorem take_all {p : Int → Bool} {o : List Int} {i : Nat} (hi : i < o.length) (h : ∀ x ∈ o.take i, p x = true) (h2 : p o[i] = true) : ∀ x ∈ o.take (i + 1), p x = true := by
  rw [take_snoc (List.getElem?_eq_getElem hi)]
  intro x hx
  rw [List.mem_append, List.mem_singleton] at hx
  rcases hx with hx | rfl
  · exact h x hx
  · exact h2
theorem no_bad {p : Int → Bool} {o : List Int} {i : Nat} (hi : o.length ≤ i) (h : ∀ x ∈ o.take i, p x = true) : ¬ o.any (fun x => !p x) = true := by
  rw [List.take_of_length_le hi] at h
  intro h2
  obtain ⟨x, hx, hf⟩ := List.any_eq_true.1 h2
  rw [h x hx] at hf; cases hf
theorem some_bad {p : Int → Bool} {o : List Int} {i : Nat} (hi : i < o.length) (h : p o[i] = false) : o.any (fun x => !p x) = true := List.any_eq_true.2 ⟨o[i], List.getElem_mem hi, by simp [h]⟩
/-- A step of the order at the first square that can become wet. -/
theorem ordL_first {n : Mn} (ok : n.Ok) {w k : Nat} (hk : k < n.r * n.c) (h : rdB n w k = true) (hj : ∀ j, j < k → rdB n w j = false) : ordL n w = k :: ordL n (w ||| 2 ^ k) ∧ dryC n (w ||| 2 ^ k) < dryC n w := by
  obtain ⟨h0, h1⟩ := tz_first ok hk h hj
  have h2 := ordL_step ok h0
  rw [h1] at h2
  refine ⟨h2, dryC_lt' hk ?_ (bit_two _)⟩
  have := rd_dry (n := n) (w := w) (i := k) (by rw [rdN_bit]; simp [hk, h])
  exact this
theorem f26k (a : List Int) (h : a.length < 1000000) : ACallsF Tryd.prog 26 [ints a, ints a] (.one (.dv (.bool true))) := by
  have := f26 a a h
  simpa using this


set_option maxHeartbeats 4000000 in
theorem f42 (m : Mw) (w : Int) (o : List Int) (ho : o.length < 1000000) : ACallsF Tryd.prog 42 [dMw m, i64 w, ints o] (.many [.dv (i64 (ckR m w o).1), .dv (i64 (ckR m w o).2.1), .dv (i64 (ckR m w o).2.2)]) := by
  refine callsF_of Tryd.func42 rfl rfl (by rw [Tryd.ntmps42]; simp) fun cx hP hn hg => ?_
  rw [Tryd.ntmps42] at hn
  rw [startF_lk, none_mkM]
  simp only [List.nil_append, List.append_nil, List.cons_append, zipSV, Nat.reduceAdd]
  refine awp_seq ?_
  refine rg ?_
  refine qp m_box ?_
  refine qv m_as ?_
  refine qv m_as ?_
  refine qv m_as ?_
  show AWp cx _ _ _
  refine awp_seq ?_
  refine rg ?_
  refine qv (m_ldpa sz23 ag23) ?_
  refine qv m_mv ?_
  refine qqF (f61 m w) ?_
  refine qv m_as ?_
  show AWp cx _ _ _
  refine awp_seq ?_
  refine awp_seq ?_
  refine rg ?_
  refine qv m_mv ?_
  refine qv m_neq ?_
  show AWp cx _ _ _
  refine cd (fun hc0 => ?_) (fun hc0 => ?_)
  · skip
    have hne : ¬ wetE m w = 0 := by simpa using hc0
    refine awp_seq ?_
    refine rg ?_
    refine qv m_mv ?_
    refine qv m_as ?_
    refine qv m_as ?_
    refine qv m_as ?_
    show AWp cx _ _ _
    refine awp_ret ?_
    rw [ckR_no hne]
    exact x3 (hr := (rI_)) (hr' := (rI_)) (hr'' := (rI_))
  · skip
    have he : wetE m w = 0 := by simpa using hc0
    obtain ⟨n, v, ok, rfl, rfl, hv⟩ := wetE_ok he
    have hv36 := le36 ok hv
    have hwe := wetE_v ok hv
    refine awp_skip ?_
    show AWp cx _ _ _
    refine awp_seq ?_
    refine awp_seq ?_
    refine rg ?_
    refine qv m_as ?_
    show AWp cx _ _ _
    refine awp_block ?_
    refine awp_loop (ι := Nat) (fun i => ⟨lk [(1, .dv (i64 ((v : Int)))), (2, .dv (ints (o))), (3, .pt 3 0 0), (10, .dv (i64 (i : Nat)))], mkM [(3, 0, some ⟨[.dv (i64 ((n.r : Int))), .dv (i64 ((n.c : Int))), .dv (i64 ((n.nd : Int)))], 0, 23, 0, false⟩)]⟩) (fun i => i ≤ o.length ∧ ∀ x ∈ o.take i, fromB x 0 ((n.r * n.c : Nat) - 1) = true) (fun i => o.length - i) 0 ⟨Nat.zero_le _, by simp⟩ (tl [(3, 3)]) ?_
    intro i hφ0
    refine awp_seq ?_
    refine awp_seq ?_
    refine rg ?_
    refine qv m_mv ?_
    refine qv m_mv ?_
    refine qv (m_len il32) ?_
    refine qv m_lss ?_
    show AWp cx _ _ _
    refine cd (fun hc1 => ?_) (fun hc1 => ?_)
    · try simp at hc1
      refine awp_skip ?_
      show AWp cx _ _ _
      refine awp_seq ?_
      refine awp_block ?_
      refine awp_seq ?_
      refine rd mixed ?_
      have hi : i < o.length := by omega
      have hN := ok.N2
      have hN1 := ok.N1
      refine zv m_mv ?_
      refine zv m_mv ?_
      first | refine zv (m_ixN el32 sz3) ?_ | refine zv (m_ix el32 sz3) ?_
      refine zv (m_ld sz3 ag3) ?_
      refine zv (m_ldpa sz23 ag23) ?_
      refine zqF (R := []) (f62 n ok) ?_
      refine zv m_sub ?_
      refine zqF (R := []) (f66 o[i] 0 ((n.r * n.c : Nat) - 1)) ?_
      refine zv m_not ?_
      refine ⟨by rfl, ?_⟩
      show AWp cx _ _ _
      refine cd (fun hc2 => ?_) (fun hc2 => ?_)
      · skip
        refine awp_seq ?_
        refine rg ?_
        refine qv m_as ?_
        refine qv m_as ?_
        refine qv m_as ?_
        show AWp cx _ _ _
        refine awp_ret ?_
        rw [ckR_bad ok hv (some_bad hi (by simpa using hc2))]
        exact x3 (hr := (rI_)) (hr' := (rI_)) (hr'' := (rI_))
      · skip
        refine awp_skip ?_
        show AWp cx _ _ _
        refine rg ?_
        refine qv m_mv ?_
        refine qv m_add ?_
        refine qv m_as ?_
        exact ⟨i + 1, ⟨hi, take_all hi hφ0.2 (by simpa using hc2)⟩, (by simp only; omega), (tl [(3, 3)])⟩
    · try simp at hc1
      refine awp_exit ?_
      show AWp cx _ _ _
      refine awp_seq ?_
      refine awp_seq ?_
      obtain ⟨l, hol, hl⟩ := ns_of (N := n.r * n.c) (no_bad (by omega) hφ0.2)
      have hlen : o.length = l.length := by rw [hol, ns_len]
      refine rg ?_
      refine qv m_as ?_
      show AWp cx _ _ _
      refine awp_block ?_
      refine awp_loop (ι := Nat × Nat) (fun q => ⟨lk [(1, .dv (i64 (q.2 : Nat))), (2, .dv (ints (o))), (3, .pt 3 0 0), (11, .dv (i64 (q.1 : Nat)))], mkM [(3, 0, some ⟨[.dv (i64 ((n.r : Int))), .dv (i64 ((n.c : Int))), .dv (i64 ((n.nd : Int)))], 0, 23, 0, false⟩)]⟩) (fun q => q.1 ≤ l.length ∧ q.2 < 68719476736 ∧ ckO n 0 v l = ckO n q.1 q.2 (l.drop q.1)) (fun q => l.length - q.1) (0, v) ⟨Nat.zero_le _, hv36, rfl⟩ (tl [(3, 3)]) ?_
      intro q hφ1
      have hq1 := hφ1
      refine awp_seq ?_
      refine awp_seq ?_
      refine rg ?_
      refine qv m_mv ?_
      refine qv m_mv ?_
      refine qv (m_len il32) ?_
      refine qv m_lss ?_
      show AWp cx _ _ _
      refine cd (fun hc3 => ?_) (fun hc3 => ?_)
      · try simp at hc3
        refine awp_skip ?_
        show AWp cx _ _ _
        refine awp_seq ?_
        refine awp_block ?_
        refine awp_seq ?_
        refine awp_seq ?_
        refine rd mixed ?_
        have hi : q.1 < l.length := by omega
        have hgi : o[q.1]? = some (l[q.1] : Int) := by rw [hol]; exact ns_get hi
        have hli := hl l[q.1] (List.getElem_mem hi)
        have hN := ok.N2
        have hq36 : q.2 ||| 2 ^ l[q.1] < 68719476736 := or36 hq1.2.1 (two36 (by omega))
        have hst := ckO_drop (n := n) (w := q.2) hi
        have hnd1 := ok.n1
        have hnd2 := ok.n2
        refine zv m_mv ?_
        refine zv m_mv ?_
        refine zv m_mv ?_
        refine zv (m_ixN (q := (l[q.1] : Int)) el32 sz3 (hq := hgi)) ?_
        refine zv (m_ld sz3 ag3) ?_
        refine zqF (R := []) (f36 q.2 l[q.1] hq1.2.1 (by omega)) ?_
        refine zx m_mv (fun hg45 => ?_) (fun hg45 => ?_)
        · try simp at hg45
          refine zk ?_
          refine zk ?_
          refine zk ?_
          refine zk ?_
          refine zk ?_
          refine zk ?_
          refine zk ?_
          refine zk ?_
          refine zk ?_
          refine zk ?_
          refine zv m_pk ?_
          refine ⟨by rfl, ?_⟩
          show AWp cx _ _ _
          refine cdT (hb := by first | rfl | simp | simp_all) (ht := ?_)
          refine awp_seq ?_
          refine rg ?_
          refine qv m_mv ?_
          refine qv m_as ?_
          refine qv m_as ?_
          refine qv m_as ?_
          show AWp cx _ _ _
          refine awp_ret ?_
          have hrd : rdB n q.2 l[q.1] = false := by first | exact hrd0 | (rw [rdB_eq ok hli]; simp [hg45])
          rw [hrd] at hst
          simp only [Bool.false_eq_true, if_false] at hst
          rw [ckR_ok ok hv hol hl, hq1.2.2, hst]
          exact x3 (hr := (rI_)) (hr' := (rI_)) (hr'' := (rI_))
        · try simp at hg45
          refine zv (m_ldpa sz23 ag23) ?_
          refine zv m_mv ?_
          refine zv m_mv ?_
          refine zv m_mv ?_
          refine zv (m_ixN (q := (l[q.1] : Int)) el32 sz3 (hq := hgi)) ?_
          refine zv (m_ld sz3 ag3) ?_
          refine zqF (R := []) (f63 n ok q.2 l[q.1] hq1.2.1 hli) ?_
          refine zv (m_fdp fd23_2) ?_
          refine zv (m_ldp sz3 ag3) ?_
          refine zv m_lss ?_
          refine zv m_pk ?_
          refine ⟨by rfl, ?_⟩
          show AWp cx _ _ _
          refine cd (fun hc4 => ?_) (fun hc4 => ?_)
          · skip
            have hrd0 : rdB n q.2 l[q.1] = false := by
              rw [rdB_eq ok hli]
              have hc4' : (decide ((cntR n q.2 l[q.1] : Int) < (n.nd : Int))) = true := hc4
              simp at hc4'
              simp; omega
            refine awp_seq ?_
            refine rg ?_
            refine qv m_mv ?_
            refine qv m_as ?_
            refine qv m_as ?_
            refine qv m_as ?_
            show AWp cx _ _ _
            refine awp_ret ?_
            have hrd : rdB n q.2 l[q.1] = false := by first | exact hrd0 | (rw [rdB_eq ok hli]; simp [hg45])
            rw [hrd] at hst
            simp only [Bool.false_eq_true, if_false] at hst
            rw [ckR_ok ok hv hol hl, hq1.2.2, hst]
            exact x3 (hr := (rI_)) (hr' := (rI_)) (hr'' := (rI_))
          · skip
            have hrd : rdB n q.2 l[q.1] = true := by
              rw [rdB_eq ok hli]
              have hc4' : (decide ((cntR n q.2 l[q.1] : Int) < (n.nd : Int))) = false := hc4
              have hg45' : q.2.testBit l[q.1] = false := hg45
              simp at hc4'
              simp [hg45']; omega
            rw [hrd] at hst
            simp only [if_true] at hst
            refine awp_skip ?_
            show AWp cx _ _ _
            refine rg ?_
            refine qv m_mv ?_
            refine qv m_mv ?_
            refine qv m_mv ?_
            refine qv (m_ixN (q := (l[q.1] : Int)) el32 sz3 (hq := hgi)) ?_
            refine qv (m_ld sz3 ag3) ?_
            refine qv (m_cnvU kd3 kd41) ?_
            refine qv (m_shlS (l[q.1])) ?_
            refine qv (m_orS (ha := hq1.2.1) (hb := two36 (by omega))) ?_
            refine qv m_as ?_
            show AWp cx _ _ _
            refine rg ?_
            refine qv m_mv ?_
            refine qv m_add ?_
            refine qv m_as ?_
            exact ⟨(q.1 + 1, q.2 ||| 2 ^ l[q.1]), ⟨hi, hq36, by rw [hq1.2.2, hst]⟩, by simp only; omega, (tl [(3, 3)])⟩
      · try simp at hc3
        refine awp_exit ?_
        show AWp cx _ _ _
        refine awp_seq ?_
        refine rg ?_
        refine qv m_mv ?_
        refine qv m_mv ?_
        refine qv (m_len il32) ?_
        refine qv m_as ?_
        refine qv m_as ?_
        refine qv m_as ?_
        show AWp cx _ _ _
        refine awp_ret ?_
        have hq5 := hq1.2.2
        rw [List.drop_of_length_le (by omega)] at hq5
        rw [ckR_ok ok hv hol hl, hq5]
        simp only [ckO]
        have hql : q.1 = o.length := by omega
        rw [hql]
        exact x3 (hr := (rI_)) (hr' := (rI_)) (hr'' := (rI_))

set_option maxHeartbeats 4000000 in
theorem f43 (m : Mw) (w : Int) : ACallsF Tryd.prog 43 [dMw m, i64 w] (.many [rI (onWet m w [] fun n v => ns (ordL n v)), .dv (i64 (wetE m w))]) := by
  refine callsF_of Tryd.func43 rfl rfl (by rw [Tryd.ntmps43]; simp) fun cx hP hn hg => ?_
  rw [Tryd.ntmps43] at hn
  rw [startF_lk, none_mkM]
  simp only [List.nil_append, List.append_nil, List.cons_append, zipSV, Nat.reduceAdd]
  refine awp_seq ?_
  refine rg ?_
  refine qp m_box ?_
  refine qv m_as ?_
  refine qv m_as ?_
  show AWp cx _ _ _
  refine awp_seq ?_
  refine rg ?_
  refine qv (m_ldpa sz23 ag23) ?_
  refine qv m_mv ?_
  refine qqF (f61 m w) ?_
  refine qv m_as ?_
  show AWp cx _ _ _
  refine awp_seq ?_
  refine awp_seq ?_
  refine rg ?_
  refine qv m_mv ?_
  refine qv m_neq ?_
  show AWp cx _ _ _
  refine cd (fun hc0 => ?_) (fun hc0 => ?_)
  · skip
    have hne : ¬ wetE m w = 0 := by simpa using hc0
    refine awp_seq ?_
    refine rg ?_
    refine qv m_mv ?_
    refine qv m_as ?_
    refine qv m_as ?_
    show AWp cx _ _ _
    refine awp_ret ?_
    exact x2 (hr := (rN_ (by rw [onWet_no hne]))) (hr' := (rI_))
  · skip
    have he : wetE m w = 0 := by simpa using hc0
    obtain ⟨n, v, ok, rfl, rfl, hv⟩ := wetE_ok he
    have hv36 := le36 ok hv
    have hwe := wetE_v ok hv
    refine awp_skip ?_
    show AWp cx _ _ _
    refine awp_seq ?_
    refine rg ?_
    refine qv m_as ?_
    show AWp cx _ _ _
    refine awp_seq ?_
    refine awp_seq ?_
    refine rg ?_
    refine qv m_as ?_
    show AWp cx _ _ _
    refine awp_block ?_
    refine awp_loop (ι := Nat × List Nat × Nat) (fun q => ⟨lk [(1, .dv (i64 (q.1 : Nat))), (2, .pt 2 0 0), (7, .sl 7 0 0 q.2.1.length), (8, .dv (i64 (q.2.2 : Nat)))], mkM [(2, 0, some ⟨[.dv (i64 ((n.r : Int))), .dv (i64 ((n.c : Int))), .dv (i64 ((n.nd : Int)))], 0, 23, 0, false⟩), (7, 0, some (rowI (ns q.2.1)))]⟩) (fun q => q.1 < 68719476736 ∧ q.2.1 ++ ordL n q.1 = ordL n v ∧ q.2.2 ≤ n.r * n.c ∧ ∀ j, j < q.2.2 → rdB n q.1 j = false) (fun q => dryC n q.1 * 40 + (n.r * n.c - q.2.2)) (v, [], 0) ⟨hv36, rfl, Nat.zero_le _, fun j hj => absurd hj (Nat.not_lt_zero _)⟩ (tl [(2, 2)] (hF := by simp [FLe, svLe, lk, mkM, isLive, tauL, ns]) (hM := by simp [MLe, blkLe, svLe, svLes, lk, mkM, isLive, tauL, svLes_ints, svLes_self, isDvs, isDvs_map, isDvs_app, isDvs_take, isDvs_set, isDvs_repl, ns])) ?_
    intro q hφ0
    obtain ⟨hq1, hq2, hq3, hq4⟩ := hφ0
    refine awp_seq ?_
    refine awp_seq ?_
    refine rg ?_
    refine qv m_mv ?_
    refine qv (m_ldpa sz23 ag23) ?_
    refine qqF (f62 n ok) ?_
    refine qv m_lss ?_
    show AWp cx _ _ _
    refine cd (fun hc1 => ?_) (fun hc1 => ?_)
    · try simp at hc1
      refine awp_skip ?_
      show AWp cx _ _ _
      refine awp_block ?_
      refine awp_seq ?_
      refine rd mixed ?_
      have hN := ok.N2
      have hk : q.2.2 < n.r * n.c := by omega
      have hnd1 := ok.n1
      have hnd2 := ok.n2
      have hsn := ns_snoc q.2.1 q.2.2
      have hql : (ns q.2.1).length = q.2.1.length := ns_len _
      have hol := ordL_len (n := n) (w := v)
      rw [← hq2] at hol
      simp only [List.length_append] at hol
      have hq36 : q.1 ||| 2 ^ q.2.2 < 68719476736 := or36 hq1 (two36 (by omega))
      refine zv m_mv ?_
      refine zv m_mv ?_
      refine zqF (R := []) (f36 q.1 q.2.2 hq1 (by omega)) ?_
      refine zv m_not ?_
      refine zx m_mv (fun hg23 => ?_) (fun hg23 => ?_)
      · try simp at hg23
        refine zv (m_ldpa sz23 ag23) ?_
        refine zv m_mv ?_
        refine zv m_mv ?_
        refine zqF (R := []) (f63 n ok q.1 q.2.2 hq1 hk) ?_
        refine zv (m_fdp fd23_2) ?_
        refine zv (m_ldp sz3 ag3) ?_
        refine zv m_geq ?_
        refine zv m_pk ?_
        refine ⟨by rfl, ?_⟩
        show AWp cx _ _ _
        refine cd (fun hc2 => ?_) (fun hc2 => ?_)
        · skip
          have hrd : rdB n q.1 q.2.2 = true := by
            rw [rdB_eq ok hk]
            have hc2' : decide ((cntR n q.1 q.2.2 : Int) ≥ (n.nd : Int)) = true := hc2
            simp at hg23 hc2'
            simp [hg23]; omega
          obtain ⟨hst, hdl⟩ := ordL_first ok hk hrd hq4
          refine awp_seq ?_
          refine rg ?_
          refine qv m_mv ?_
          refine qv m_mv ?_
          refine qv (m_cnvU kd3 kd41) ?_
          refine qv (m_shlS (q.2.2)) ?_
          refine qv (m_orS (ha := hq1) (hb := two36 (by omega))) ?_
          refine qv m_as ?_
          show AWp cx _ _ _
          refine awp_seq ?_
          refine rg ?_
          refine qv m_mv ?_
          refine qv m_mv ?_
          refine qr (m_bsl el32 ze3 sz3) ?_
          refine qa1 (m_app1 el32 el32 ze3 sz3 by3) ?_
          refine qv m_as ?_
          show AWp cx _ _ _
          refine rg ?_
          refine qv m_as ?_
          exact ⟨(q.1 ||| 2 ^ q.2.2, q.2.1 ++ [q.2.2], 0), ⟨hq36, by rw [← hq2, hst]; simp, Nat.zero_le _, fun j hj => absurd hj (Nat.not_lt_zero _)⟩, by simp only; omega, (tl [(2, 2), (7, 40)] (hF := by simp [FLe, svLe, lk, mkM, isLive, tauL, hsn]) (hM := by simp [MLe, blkLe, svLe, svLes, lk, mkM, isLive, tauL, svLes_ints, svLes_self, isDvs, isDvs_map, isDvs_app, isDvs_take, isDvs_set, isDvs_repl, hsn]))⟩
        · skip
          have hrd : rdB n q.1 q.2.2 = false := by
            rw [rdB_eq ok hk]
            first | (have hc2' : decide ((cntR n q.1 q.2.2 : Int) ≥ (n.nd : Int)) = false := hc2; simp at hg23 hc2'; simp; omega) | (simp at hg23; simp [hg23])
          refine rg ?_
          refine qv m_mv ?_
          refine qv m_add ?_
          refine qv m_as ?_
          exact ⟨(q.1, q.2.1, q.2.2 + 1), ⟨hq1, hq2, hk, fun j (hj : j < q.2.2 + 1) => by rcases Nat.lt_or_ge j q.2.2 with h | h; exact hq4 j h; rw [show j = q.2.2 by omega]; first | exact hrd | (rw [rdB_eq ok hk]; simp [hg23])⟩, by simp only; omega, (tl [(2, 2), (7, 7)] (hF := by simp [FLe, svLe, lk, mkM, isLive, tauL, hsn]) (hM := by simp [MLe, blkLe, svLe, svLes, lk, mkM, isLive, tauL, svLes_ints, svLes_self, isDvs, isDvs_map, isDvs_app, isDvs_take, isDvs_set, isDvs_repl, hsn]))⟩
      · try simp at hg23
        refine zk ?_
        refine zk ?_
        refine zk ?_
        refine zk ?_
        refine zk ?_
        refine zk ?_
        refine zk ?_
        refine zv m_pk ?_
        refine ⟨by rfl, ?_⟩
        show AWp cx _ _ _
        refine cdF (hb := by first | rfl | simp | simp_all) (ht := ?_)
        refine rg ?_
        refine qv m_mv ?_
        refine qv m_add ?_
        refine qv m_as ?_
        exact ⟨(q.1, q.2.1, q.2.2 + 1), ⟨hq1, hq2, hk, fun j (hj : j < q.2.2 + 1) => by rcases Nat.lt_or_ge j q.2.2 with h | h; exact hq4 j h; rw [show j = q.2.2 by omega]; first | exact hrd | (rw [rdB_eq ok hk]; simp [hg23])⟩, by simp only; omega, (tl [(2, 2), (7, 7)] (hF := by simp [FLe, svLe, lk, mkM, isLive, tauL, hsn]) (hM := by simp [MLe, blkLe, svLe, svLes, lk, mkM, isLive, tauL, svLes_ints, svLes_self, isDvs, isDvs_map, isDvs_app, isDvs_take, isDvs_set, isDvs_repl, hsn]))⟩
    · try simp at hc1
      refine awp_exit ?_
      show AWp cx _ _ _
      refine awp_seq ?_
      refine rg ?_
      refine qv m_mv ?_
      refine qv m_as ?_
      refine qv m_as ?_
      show AWp cx _ _ _
      refine awp_ret ?_
      have h0 : rdN n q.1 = 0 := rd_none fun j hj => hq4 j (by omega)
      rw [ordL_zero h0, List.append_nil] at hq2
      exact x2 (hr := (rR_ (h := by rw [onWet_ok ok hv, hq2]) (hl := (ns_len q.2.1).symm))) (hr' := (rI_ (by rw [hwe])))

end Go.Ab.Tryd
