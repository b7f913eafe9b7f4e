/- The functions of the moss laws, part 9. The walks are written by wip/gen/gw.py. -/
import Derived.Test.YtjipgkhfbfpacaaDoorMoss8
import Derived.Test.YtjipgkhfbfpacaaDoorMossFacts
import Derived.Test.YtjipgkhfbfpacaaDoorMossD
set_option linter.all false
namespace Go.Ab.Tryd
open Go Go.Ab Go.Proofs Go.Ab.Moss
theorem take_eq_snoc {a b : List Int} {i : Nat} (ha : i < a.length) (hb : i < b.length) (h : a.take i = b.take i) (hi : a[i] = b[i]) : a.take (i + 1) = b.take (i + 1) := by
  rw [take_snoc (List.getElem?_eq_getElem ha), take_snoc (List.getElem?_eq_getElem hb), h, hi]
theorem dryC_lt' {n : Mn} {w x i : Nat} (hi : i < n.r * n.c) (hd : w.testBit i = false) (hx : x.testBit i = true) : dryC n (w ||| x) < dryC n w := by
  refine countP_lt _ i (List.mem_range.2 hi) (fun k _ hk => ?_) (by simp [hd]) (by simp [hx])
  simp only [Nat.testBit_or, Bool.not_or, Bool.and_eq_true] at hk
  exact hk.1
theorem bit_two (k : Nat) : (2 ^ k).testBit k = true := by simp
theorem rd_lt64 {n : Mn} (ok : n.Ok) {w : Nat} : rdN n w < 2 ^ 64 := Nat.lt_of_lt_of_le (rdN_lt ok) (by decide)
theorem tz_rd {n : Mn} (ok : n.Ok) {w : Nat} (h : rdN n w ≠ 0) : tz (rdN n w) < n.r * n.c ∧ w.testBit (tz (rdN n w)) = false := by
  obtain ⟨_, h2, _⟩ := tz_spec h (rd_lt64 ok)
  refine ⟨?_, rd_dry h2⟩
  rw [rdN_bit] at h2
  simp at h2
  exact h2.1
def ordF (n : Mn) : Nat → Nat → List Nat
  | 0, _ => []
  | f + 1, w => if rdN n w = 0 then [] else tz (rdN n w) :: ordF n f (w ||| 2 ^ tz (rdN n w))
def ordL (n : Mn) (w : Nat) : List Nat := ordF n (dryC n w) w
theorem ordF_more {n : Mn} (ok : n.Ok) : ∀ (f w : Nat), dryC n w ≤ f → ordF n f w = ordF n (dryC n w) w
  | 0, w, h => by rw [Nat.le_zero.1 h]
  | f + 1, w, h => by
    by_cases h0 : rdN n w = 0
    · cases hd : dryC n w with
      | zero => simp [ordF, h0]
      | succ d => simp [ordF, h0]
    · obtain ⟨t1, t2⟩ := tz_rd ok h0
      have h1 := dryC_lt' (x := 2 ^ tz (rdN n w)) t1 t2 (bit_two _)
      obtain ⟨d, hd⟩ : ∃ d, dryC n w = d + 1 := ⟨dryC n w - 1, by omega⟩
      rw [hd]
      simp only [ordF, h0, if_false]
      rw [ordF_more ok f _ (by omega), ordF_more ok d _ (by omega)]
theorem ordL_zero {n : Mn} {w : Nat} (h : rdN n w = 0) : ordL n w = [] := by
  unfold ordL
  cases dryC n w <;> simp [ordF, h]
theorem ordL_step {n : Mn} (ok : n.Ok) {w : Nat} (h : rdN n w ≠ 0) : ordL n w = tz (rdN n w) :: ordL n (w ||| 2 ^ tz (rdN n w)) := by
  obtain ⟨t1, t2⟩ := tz_rd ok h
  have h1 := dryC_lt' (x := 2 ^ tz (rdN n w)) t1 t2 (bit_two _)
  obtain ⟨d, hd⟩ : ∃ d, dryC n w = d + 1 := ⟨dryC n w - 1, by omega⟩
  unfold ordL
  rw [hd]
  simp only [ordF, h, if_false]
  rw [ordF_more ok d _ (by omega)]
theorem ordF_len (n : Mn) : ∀ f w, (ordF n f w).length ≤ f
  | 0, w => by simp [ordF]
  | f + 1, w => by
    simp only [ordF]
    split
    · simp
    · have := ordF_len n f (w ||| 2 ^ tz (rdN n w)); simp; omega
theorem ordL_len {n : Mn} {w : Nat} : (ordL n w).length ≤ n.r * n.c := Nat.le_trans (ordF_len n _ w) dryC_le
theorem f26 (a b : List Int) (h : a.length < 1000000) : ACallsF Tryd.prog 26 [ints a, ints b] (.one (.dv (.bool (decide (a = b))))) := by
  refine callsF_of Tryd.func26 rfl rfl (by rw [Tryd.ntmps26]; simp) fun cx hP hn hg => ?_
  rw [Tryd.ntmps26] at hn
  rw [startF_lk, none_mkM]
  simp only [List.nil_append, List.append_nil, List.cons_append, zipSV, Nat.reduceAdd]
  refine awp_seq ?_
  refine rg ?_
  refine qv m_as ?_
  show AWp cx _ _ _
  refine awp_seq ?_
  refine awp_seq ?_
  refine rg ?_
  refine qv m_mv ?_
  refine qv (m_len il32) ?_
  refine qv m_mv ?_
  refine qv (m_len il32) ?_
  refine qv m_neq ?_
  show AWp cx _ _ _
  refine cd (fun hc0 => ?_) (fun hc0 => ?_)
  · skip
    refine awp_seq ?_
    refine rg ?_
    refine qv m_as ?_
    show AWp cx _ _ _
    refine awp_ret ?_
    exact x1 (hr := (rB_ (by symm; rw [decide_eq_false_iff_not]; rintro rfl; simp at hc0)))
  · skip
    have hl : a.length = b.length := by simp at hc0; omega
    refine awp_skip ?_
    show AWp cx _ _ _
    refine awp_seq ?_
    refine awp_seq ?_
    refine rg ?_
    refine qv m_as ?_
    show AWp cx _ _ _
    refine awp_block ?_
    refine awp_loop (ι := Nat) (fun i => ⟨lk [(0, .dv (ints (a))), (1, .dv (ints (b))), (5, .dv (i64 (i : Nat)))], mkM []⟩) (fun i => i ≤ a.length ∧ a.take i = b.take i) (fun i => a.length - i) 0 ⟨Nat.zero_le _, rfl⟩ (tl []) ?_
    intro i hφ0
    refine awp_seq ?_
    refine awp_seq ?_
    refine rg ?_
    refine qv m_mv ?_
    refine qv m_mv ?_
    refine qv (m_len il32) ?_
    refine qv m_lss ?_
    show AWp cx _ _ _
    refine cd (fun hc1 => ?_) (fun hc1 => ?_)
    · try simp at hc1
      refine awp_skip ?_
      show AWp cx _ _ _
      refine awp_seq ?_
      refine awp_block ?_
      refine awp_seq ?_
      refine rd mixed ?_
      have hi : i < a.length := by omega
      have hib : i < b.length := by omega
      refine zv m_mv ?_
      refine zv m_mv ?_
      first | refine zv (m_ixN el32 sz3) ?_ | refine zv (m_ix el32 sz3) ?_
      refine zv (m_ld sz3 ag3) ?_
      refine zv m_mv ?_
      refine zv m_mv ?_
      first | refine zv (m_ixN el32 sz3) ?_ | refine zv (m_ix el32 sz3) ?_
      refine zv (m_ld sz3 ag3) ?_
      refine zv m_neq ?_
      refine ⟨by rfl, ?_⟩
      show AWp cx _ _ _
      refine cd (fun hc2 => ?_) (fun hc2 => ?_)
      · try simp at hc2
        refine awp_seq ?_
        refine rg ?_
        refine qv m_as ?_
        show AWp cx _ _ _
        refine awp_ret ?_
        exact x1 (hr := (rB_ (by symm; rw [decide_eq_false_iff_not]; rintro rfl; simp at hc2)))
      · try simp at hc2
        refine awp_skip ?_
        show AWp cx _ _ _
        refine rg ?_
        refine qv m_mv ?_
        refine qv m_add ?_
        refine qv m_as ?_
        exact ⟨i + 1, ⟨hi, take_eq_snoc hi hib hφ0.2 (by simpa using hc2)⟩, (by simp only; omega), (tl [])⟩
    · try simp at hc1
      refine awp_exit ?_
      show AWp cx _ _ _
      refine awp_seq ?_
      refine rg ?_
      refine qv m_as ?_
      show AWp cx _ _ _
      refine awp_ret ?_
      exact x1 (hr := (rB_ (by symm; rw [decide_eq_true_eq]; have h1 := hφ0.2; rw [List.take_of_length_le (by omega), List.take_of_length_le (by omega)] at h1; exact h1)))
theorem f32 (m : Mw) (w : Int) : ACallsF Tryd.prog 32 [dMw m, i64 w] (.many [rI (onWet m w [] fun n v => ns (ordL n v)), .dv (i64 (wetE m w))]) := by
  refine callsF_of Tryd.func32 rfl rfl (by rw [Tryd.ntmps32]; simp) fun cx hP hn hg => ?_
  rw [Tryd.ntmps32] at hn
  rw [startF_lk, none_mkM]
  simp only [List.nil_append, List.append_nil, List.cons_append, zipSV, Nat.reduceAdd]
  refine awp_seq ?_
  refine rg ?_
  refine qp m_box ?_
  refine qv m_as ?_
  refine qv m_as ?_
  show AWp cx _ _ _
  refine awp_seq ?_
  refine awp_seq ?_
  refine rg ?_
  refine qv (m_ldpa sz23 ag23) ?_
  refine qv m_mv ?_
  refine qqF (f56 m w) ?_
  refine qv m_as ?_
  show AWp cx _ _ _
  refine awp_seq ?_
  refine rg ?_
  refine qv m_mv ?_
  refine qv m_neq ?_
  show AWp cx _ _ _
  refine cd (fun hc0 => ?_) (fun hc0 => ?_)
  · skip
    have hne : ¬ wetE m w = 0 := by simpa using hc0
    refine awp_seq ?_
    refine rg ?_
    refine qv m_mv ?_
    refine qv m_as ?_
    refine qv m_as ?_
    show AWp cx _ _ _
    refine awp_ret ?_
    exact x2 (hr := (rN_ (by rw [onWet_no hne]))) (hr' := (rI_))
  · skip
    have he : wetE m w = 0 := by simpa using hc0
    obtain ⟨n, v, ok, rfl, rfl, hv⟩ := wetE_ok he
    have hv36 := le36 ok hv
    have hwe := wetE_v ok hv
    refine awp_skip ?_
    show AWp cx _ _ _
    refine awp_seq ?_
    refine rg ?_
    refine qv m_as ?_
    show AWp cx _ _ _
    refine awp_seq ?_
    refine awp_seq ?_
    refine rg ?_
    refine qv (m_ldpa sz23 ag23) ?_
    refine qv m_mv ?_
    refine qqF (f64 n ok v hv36) ?_
    refine qv m_as ?_
    show AWp cx _ _ _
    refine awp_block ?_
    refine awp_loop (ι := Nat × List Nat) (fun q => ⟨lk [(1, .dv (i64 (q.1 : Nat))), (2, .pt 2 0 0), (7, .sl 7 0 0 q.2.length), (8, .dv (i64 (rdN n q.1 : Nat)))], mkM [(2, 0, some ⟨[.dv (i64 ((n.r : Int))), .dv (i64 ((n.c : Int))), .dv (i64 ((n.nd : Int)))], 0, 23, 0, false⟩), (7, 0, some (rowI (ns q.2)))]⟩) (fun q => q.1 < 68719476736 ∧ q.2 ++ ordL n q.1 = ordL n v) (fun q => dryC n q.1) (v, []) ⟨hv36, rfl⟩ (tl [(2, 2)] (hF := by simp [FLe, svLe, lk, mkM, isLive, tauL, ns]) (hM := by simp [MLe, blkLe, svLe, svLes, lk, mkM, isLive, tauL, svLes_ints, svLes_self, isDvs, isDvs_map, isDvs_app, isDvs_take, isDvs_set, isDvs_repl, ns])) ?_
    intro q hφ0
    obtain ⟨hq1, hq2⟩ := hφ0
    refine awp_seq ?_
    refine awp_seq ?_
    refine rg ?_
    refine qv m_mv ?_
    refine qv m_neq ?_
    show AWp cx _ _ _
    refine cd (fun hc1 => ?_) (fun hc1 => ?_)
    · try simp at hc1
      refine awp_skip ?_
      show AWp cx _ _ _
      refine awp_seq ?_
      refine awp_block ?_
      refine awp_seq ?_
      refine rg ?_
      have h0 : rdN n q.1 ≠ 0 := by simpa using hc1
      obtain ⟨t1, t2⟩ := tz_rd ok h0
      have hN := ok.N2
      have hq36 : q.1 ||| 2 ^ tz (rdN n q.1) < 68719476736 := or36 hq1 (two36 (by omega))
      have hst := ordL_step ok h0
      have hdl := dryC_lt' (x := 2 ^ tz (rdN n q.1)) t1 t2 (bit_two _)
      have hsn := ns_snoc q.2 (tz (rdN n q.1))
      have hql : (ns q.2).length = q.2.length := ns_len _
      have hol := ordL_len (n := n) (w := v)
      rw [← hq2] at hol
      simp only [List.length_append] at hol
      refine qv m_mv ?_
      refine qv (m_cnvU kd3 kd67 (ha := by have := rdN_lt ok (w := q.1); omega)) ?_
      refine qqF (f74 (rdN n q.1) (by have := rdN_lt ok (w := q.1); omega) h0) ?_
      refine qv m_as ?_
      show AWp cx _ _ _
      refine awp_seq ?_
      refine rg ?_
      refine qv m_mv ?_
      refine qv m_mv ?_
      refine qv (m_shlS (tz (rdN n q.1))) ?_
      refine qv m_orS ?_
      refine qv m_as ?_
      show AWp cx _ _ _
      refine rg ?_
      refine qv m_mv ?_
      refine qv m_mv ?_
      refine qr (m_bsl el32 ze3 sz3) ?_
      refine qa1 (m_app1 el32 el32 ze3 sz3 by3) ?_
      refine qv m_as ?_
      show AWp cx _ _ _
      refine rg ?_
      refine qv (m_ldpa sz23 ag23) ?_
      refine qv m_mv ?_
      refine qqF (f64 n ok (q.1 ||| 2 ^ tz (rdN n q.1)) hq36) ?_
      refine qv m_as ?_
      exact ⟨(q.1 ||| 2 ^ tz (rdN n q.1), q.2 ++ [tz (rdN n q.1)]), ⟨hq36, by rw [← hq2, hst]; simp⟩, hdl, (tl [(2, 2), (7, 34)] (hF := by simp [FLe, svLe, lk, mkM, isLive, tauL, hsn]) (hM := by simp [MLe, blkLe, svLe, svLes, lk, mkM, isLive, tauL, svLes_ints, svLes_self, isDvs, isDvs_map, isDvs_app, isDvs_take, isDvs_set, isDvs_repl, hsn]))⟩
    · try simp at hc1
      refine awp_exit ?_
      show AWp cx _ _ _
      refine awp_seq ?_
      refine rg ?_
      refine qv m_mv ?_
      refine qv m_as ?_
      refine qv m_as ?_
      show AWp cx _ _ _
      refine awp_ret ?_
      have h0 : rdN n q.1 = 0 := by simpa using hc1
      rw [ordL_zero h0, List.append_nil] at hq2
      exact x2 (hr := (rR_ (h := by rw [onWet_ok ok hv, hq2]) (hl := (ns_len q.2).symm))) (hr' := (rI_ (by rw [hwe])))
end Go.Ab.Tryd
