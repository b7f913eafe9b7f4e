/- The functions of the moss laws, part 13. The walks are written by wip/gen/gw.py. -/
import Derived.Test.YtjipgkhfbfpacaaDoorMoss12
import Derived.Test.YtjipgkhfbfpacaaDoorMossFacts
import Derived.Test.YtjipgkhfbfpacaaDoorMossD
set_option linter.all false
namespace Go.Ab.Tryd
open Go Go.Ab Go.Proofs Go.Ab.Moss

/-- An order's check: from the square i on, where w is wet. -/
def ckO (n : Mn) : Nat → Nat → List Nat → Int × Int × Int
  | i, w, [] => ((w : Int), (i : Int), 0)
  | i, w, k :: l => if rdB n w k then ckO n (i + 1) (w ||| 2 ^ k) l else (0, (i : Int), 6)
def ckR (m : Mw) (w : Int) (o : List Int) : Int × Int × Int :=
  if wetE m w = 0 then (if o.any (fun x => !fromB x 0 (m.rows * m.cols - 1)) then (0, 0, 4) else ckO (toMn m) 0 w.toNat (o.map Int.toNat)) else (0, 0, wetE m w)
theorem map_self {α : Type} {f : α → α} {l : List α} (h : ∀ x ∈ l, f x = x) : l.map f = l := by rw [List.map_congr_left h]; simp
theorem ns_of {o : List Int} {N : Nat} (h : ¬ o.any (fun x => !fromB x 0 ((N : Nat) - 1)) = true) : ∃ l : List Nat, o = ns l ∧ ∀ k ∈ l, k < N := by
  refine ⟨o.map Int.toNat, ?_, ?_⟩
  · unfold ns
    rw [List.map_map]
    symm
    refine map_self fun x hx => ?_
    cases hf : fromB x 0 ((N : Nat) - 1) with
    | true =>
      simp only [fromB, Bool.and_eq_true, decide_eq_true_eq] at hf
      simp only [Function.comp]
      omega
    | false => exact absurd (List.any_eq_true.2 ⟨x, hx, by simp [hf]⟩) h
  · intro k hk
    obtain ⟨x, hx, rfl⟩ := List.mem_map.1 hk
    cases hf : fromB x 0 ((N : Nat) - 1) with
    | true =>
      simp only [fromB, Bool.and_eq_true, decide_eq_true_eq] at hf
      omega
    | false => exact absurd (List.any_eq_true.2 ⟨x, hx, by simp [hf]⟩) h
theorem ns_back (l : List Nat) : (ns l).map Int.toNat = l := by
  unfold ns
  rw [List.map_map]
  refine map_self fun x _ => ?_
  simp
theorem ckR_bad {n : Mn} (ok : n.Ok) {v : Nat} (hv : v ≤ full n) {o : List Int} (h : o.any (fun x => !fromB x 0 ((n.r * n.c : Nat) - 1)) = true) : ckR n.w v o = (0, 0, 4) := by
  have e : (n.w.rows * n.w.cols - 1) = ((n.r * n.c : Nat) : Int) - 1 := by simp
  unfold ckR
  rw [if_pos (wetE_v ok hv), e, if_pos h]
theorem ckR_ok {n : Mn} (ok : n.Ok) {v : Nat} (hv : v ≤ full n) {o : List Int} {l : List Nat} (ho : o = ns l) (hl : ∀ k ∈ l, k < n.r * n.c) : ckR n.w v o = ckO n 0 v l := by
  have e : (n.w.rows * n.w.cols - 1) = ((n.r * n.c : Nat) : Int) - 1 := by simp
  unfold ckR
  rw [if_pos (wetE_v ok hv), e, if_neg, ho, ns_back, toMn_w, Int.toNat_natCast]
  intro h
  obtain ⟨x, hx, hf⟩ := List.any_eq_true.1 h
  rw [ho] at hx
  obtain ⟨k, hk, rfl⟩ := List.mem_map.1 hx
  have := hl k hk
  have h2 : fromB (k : Int) 0 ((n.r * n.c : Nat) - 1) = true := by simp only [fromB, Bool.and_eq_true, decide_eq_true_eq]; omega
  rw [h2] at hf; cases hf
theorem ckR_no {m : Mw} {w : Int} (h : ¬ wetE m w = 0) {o : List Int} : ckR m w o = (0, 0, wetE m w) := by unfold ckR; rw [if_neg h]
theorem ckO_drop {n : Mn} {l : List Nat} {i w : Nat} (h : i < l.length) : ckO n i w (l.drop i) = if rdB n w l[i] then ckO n (i + 1) (w ||| 2 ^ l[i]) (l.drop (i + 1)) else (0, (i : Int), 6) := by
  rw [List.drop_eq_getElem_cons h]; rfl
/-- The first square that can become wet. -/
theorem tz_first {n : Mn} (ok : n.Ok) {w k : Nat} (hk : k < n.r * n.c) (h : rdB n w k = true) (hj : ∀ j, j < k → rdB n w j = false) : rdN n w ≠ 0 ∧ tz (rdN n w) = k := by
  have hb : (rdN n w).testBit k = true := by rw [rdN_bit]; simp [hk, h]
  have h0 : rdN n w ≠ 0 := by intro h0; rw [h0] at hb; simp at hb
  obtain ⟨_, h2, h3⟩ := tz_spec h0 (rd_lt64 ok)
  refine ⟨h0, ?_⟩
  rcases Nat.lt_trichotomy (tz (rdN n w)) k with h4 | h4 | h4
  · rw [rdN_bit, hj _ h4] at h2; simp at h2
  · exact h4
  · rw [h3 k h4] at hb; cases hb
theorem rd_none {n : Mn} {w : Nat} (hj : ∀ j, j < n.r * n.c → rdB n w j = false) : rdN n w = 0 := by
  apply Nat.eq_of_testBit_eq
  intro i
  rw [rdN_bit, Nat.zero_testBit]
  by_cases hi : i < n.r * n.c
  · simp [hj i hi]
  · simp [hi]


theorem f76 (n : Mn) (ok : n.Ok) (s : Int) : ACallsF Tryd.prog 76 [i64 s, .cptr [i64 (n.r : Int), i64 (n.c : Int), i64 (n.nd : Int)]] (.one (.dv (.bool (!fromB s 0 ((n.r * n.c : Nat) - 1))))) := by
  refine callsF_of Tryd.func76 rfl rfl (by rw [Tryd.ntmps76]; simp) fun cx hP hn hg => ?_
  rw [Tryd.ntmps76] at hn
  rw [startF_lk, none_mkM]
  simp only [List.nil_append, List.append_nil, List.cons_append, zipSV, Nat.reduceAdd]
  refine awp_seq ?_
  refine rg ?_
  refine qv m_as ?_
  show AWp cx _ _ _
  refine awp_seq ?_
  refine rg ?_
  first | refine qv (m_lda sz23 ag23) ?_ | refine qv (m_ldpa sz23 ag23) ?_
  refine qv m_mv ?_
  refine qqF (f65 n ok s) ?_
  refine qv m_not ?_
  refine qv m_as ?_
  show AWp cx _ _ _
  refine awp_ret ?_
  exact x1 (hr := (rB_))

set_option maxHeartbeats 4000000 in
theorem f33 (m : Mw) (w : Int) (o : List Int) (ho : o.length < 1000000) : ACallsF Tryd.prog 33 [dMw m, i64 w, ints o] (.many [.dv (i64 (ckR m w o).1), .dv (i64 (ckR m w o).2.1), .dv (i64 (ckR m w o).2.2)]) := by
  refine callsF_of Tryd.func33 rfl rfl (by rw [Tryd.ntmps33]; simp) fun cx hP hn hg => ?_
  rw [Tryd.ntmps33] at hn
  rw [startF_lk, none_mkM]
  simp only [List.nil_append, List.append_nil, List.cons_append, zipSV, Nat.reduceAdd]
  refine awp_seq ?_
  refine rg ?_
  refine qp m_box ?_
  refine qv m_as ?_
  refine qv m_as ?_
  refine qv m_as ?_
  show AWp cx _ _ _
  refine awp_seq ?_
  refine awp_seq ?_
  refine rg ?_
  refine qv (m_ldpa sz23 ag23) ?_
  refine qv m_mv ?_
  refine qqF (f56 m w) ?_
  refine qv m_as ?_
  show AWp cx _ _ _
  refine awp_seq ?_
  refine rg ?_
  refine qv m_mv ?_
  refine qv m_neq ?_
  show AWp cx _ _ _
  refine cd (fun hc0 => ?_) (fun hc0 => ?_)
  · skip
    have hne : ¬ wetE m w = 0 := by simpa using hc0
    refine awp_seq ?_
    refine rg ?_
    refine qv m_mv ?_
    refine qv m_as ?_
    refine qv m_as ?_
    refine qv m_as ?_
    show AWp cx _ _ _
    refine awp_ret ?_
    rw [ckR_no hne]
    exact x3 (hr := (rI_)) (hr' := (rI_)) (hr'' := (rI_))
  · skip
    have he : wetE m w = 0 := by simpa using hc0
    obtain ⟨n, v, ok, rfl, rfl, hv⟩ := wetE_ok he
    have hv36 := le36 ok hv
    have hwe := wetE_v ok hv
    refine awp_skip ?_
    show AWp cx _ _ _
    refine awp_seq ?_
    refine awp_seq ?_
    have hp : PrOk 76 [] [.cptr [i64 (n.r : Int), i64 (n.c : Int), i64 (n.nd : Int)]] (fun x => !fromB x 0 ((n.r * n.c : Nat) - 1)) o := fun x _ => f76 n ok x
    refine rg ?_
    refine qv m_mv ?_
    refine qfn ?_
    refine qqF (f75 o 76 [] _ _ hp ho) ?_
    show AWp cx _ _ _
    refine cd (fun hc1 => ?_) (fun hc1 => ?_)
    · skip
      refine awp_seq ?_
      refine rg ?_
      refine qv m_as ?_
      refine qv m_as ?_
      refine qv m_as ?_
      show AWp cx _ _ _
      refine awp_ret ?_
      rw [ckR_bad ok hv (by simpa using hc1)]
      exact x3 (hr := (rI_)) (hr' := (rI_)) (hr'' := (rI_))
    · skip
      obtain ⟨l, hol, hl⟩ := ns_of (N := n.r * n.c) (by simpa using hc1)
      have hlen : o.length = l.length := by rw [hol, ns_len]
      refine awp_skip ?_
      show AWp cx _ _ _
      refine awp_seq ?_
      refine awp_seq ?_
      refine rg ?_
      refine qv m_mv ?_
      refine qv (m_len il32) ?_
      refine qv m_mv ?_
      show AWp cx _ _ _
      refine awp_block ?_
      refine awp_loop (ι := Nat × Nat) (fun q => ⟨lk [(1, .dv (i64 (q.2 : Nat))), (2, .dv (ints (o))), (3, .pt 3 0 0), (21, .dv (ints (o))), (22, .dv (i64 ((o.length : Int)))), (23, .dv (i64 (q.1 : Nat)))], mkM [(3, 0, some ⟨[.dv (i64 (n.r : Int)), .dv (i64 (n.c : Int)), .dv (i64 (n.nd : Int))], 0, 23, 1, false⟩)]⟩) (fun q => q.1 ≤ l.length ∧ q.2 < 68719476736 ∧ ckO n 0 v l = ckO n q.1 q.2 (l.drop q.1)) (fun q => l.length - q.1) (0, v) ⟨Nat.zero_le _, hv36, rfl⟩ (tl [(3, 3)]) ?_
      intro q hφ0
      have hq1 := hφ0
      refine awp_seq ?_
      refine rg ?_
      refine qv m_lss ?_
      show AWp cx _ _ _
      refine awp_seq ?_
      refine cd (fun hc2 => ?_) (fun hc2 => ?_)
      · try simp at hc2
        refine awp_skip ?_
        show AWp cx _ _ _
        refine awp_seq ?_
        refine awp_block ?_
        refine awp_seq ?_
        refine rg ?_
        have hi : q.1 < l.length := by omega
        have hgi : o[q.1]? = some (l[q.1] : Int) := by rw [hol]; exact ns_get hi
        have hli := hl l[q.1] (List.getElem_mem hi)
        have hN := ok.N2
        have hq36 : q.2 ||| 2 ^ l[q.1] < 68719476736 := or36 hq1.2.1 (two36 (by omega))
        have hst := ckO_drop (n := n) (w := q.2) hi
        refine qv m_mv ?_
        refine qv (m_ixN (q := (l[q.1] : Int)) el32 sz3 (hq := hgi)) ?_
        refine qv (m_ld sz3 ag3) ?_
        refine qv m_as ?_
        refine qv m_as ?_
        show AWp cx _ _ _
        refine awp_seq ?_
        refine awp_seq ?_
        refine rg ?_
        refine qv (m_ldpa sz23 ag23) ?_
        refine qv m_mv ?_
        refine qqF (f64 n ok q.2 hq1.2.1) ?_
        refine qv m_mv ?_
        refine qqF (f77 (rdN n q.2) l[q.1] (rdN_lt ok) (by omega)) ?_
        refine qv m_not ?_
        show AWp cx _ _ _
        refine cd (fun hc3 => ?_) (fun hc3 => ?_)
        · skip
          have hrd : rdB n q.2 l[q.1] = false := by simpa [rdN_bit, hli] using hc3
          rw [hrd] at hst
          simp only [Bool.false_eq_true, if_false] at hst
          refine awp_seq ?_
          refine rg ?_
          refine qv m_mv ?_
          refine qv m_as ?_
          refine qv m_as ?_
          refine qv m_as ?_
          show AWp cx _ _ _
          refine awp_ret ?_
          rw [ckR_ok ok hv hol hl, hq1.2.2, hst]
          exact x3 (hr := (rI_)) (hr' := (rI_)) (hr'' := (rI_))
        · skip
          have hrd : rdB n q.2 l[q.1] = true := by simpa [rdN_bit, hli] using hc3
          rw [hrd] at hst
          simp only [if_true] at hst
          refine awp_skip ?_
          show AWp cx _ _ _
          refine rg ?_
          refine qv m_mv ?_
          refine qv m_mv ?_
          refine qv (m_shlS (l[q.1])) ?_
          refine qv (m_orS (ha := hq1.2.1) (hb := two36 (by omega))) ?_
          refine qv m_as ?_
          show AWp cx _ _ _
          refine rg ?_
          refine qv m_add ?_
          refine qv m_mv ?_
          exact ⟨(q.1 + 1, q.2 ||| 2 ^ l[q.1]), ⟨hi, hq36, by rw [hq1.2.2, hst]⟩, by simp only; omega, (tl [(3, 3)])⟩
      · try simp at hc2
        refine awp_exit ?_
        show AWp cx _ _ _
        refine awp_seq ?_
        refine rg ?_
        refine qv m_mv ?_
        refine qv m_mv ?_
        refine qv (m_len il32) ?_
        refine qv m_as ?_
        refine qv m_as ?_
        refine qv m_as ?_
        show AWp cx _ _ _
        refine awp_ret ?_
        have hq5 := hq1.2.2
        rw [List.drop_of_length_le (by omega)] at hq5
        rw [ckR_ok ok hv hol hl, hq5]
        simp only [ckO]
        have hql : q.1 = o.length := by omega
        rw [hql]
        exact x3 (hr := (rI_)) (hr' := (rI_)) (hr'' := (rI_))

end Go.Ab.Tryd
