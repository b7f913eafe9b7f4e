/- Dry22, Dry23, Dry24. -/
import Derived.Test.YtjlfgobbieljoaaDryC
import Derived.Test.YtjlfgobbieljoaaAbH
import Derived.Test.YtjlfgobbieljoaaDryT
set_option linter.all false
set_option linter.all false
namespace Go.Ab.Try
open Go Go.Ab Go.Proofs
theorem src_row {t g n : Nat} {k : IntKind} {e : TypeId} {L : List Int} (hn : n = L.length) : srcSV 1 (.sl t g 0 n, some (rowK k e L)) = some (n, L.map fun q => .dv (.int k q)) := by
  subst hn
  have h1 : (((rowK k e L).cells.drop (0 * 1)).take (L.length * 1)) = L.map fun q => SV.dv (.int k q) := by
    show ((L.map fun q => SV.dv (.int k q)).drop (0 * 1)).take (L.length * 1) = _
    rw [Nat.zero_mul, List.drop_zero, Nat.mul_one, List.take_of_length_le (by simp)]
  have h2 : ((rowK k e L).cells.length) = L.length := by
    show (L.map fun q => SV.dv (.int k q)).length = _
    simp
  simp only [srcSV]
  rw [h1, if_pos]
  refine ⟨trivial, by rw [h2]; omega, ?_⟩
  rw [List.all_eq_true]
  intro c hc
  obtain ⟨q, _, rfl⟩ := List.mem_map.1 hc
  rfl
def tryAt (rec : List Int → List Int → List Int × Bool) (y : Yd) (m c : List Int) (i : Nat) : Option (List Int) :=
  if sg c i = 0 then none else if (doR y m i).2 ≠ 0 then none else if (rec (doR y m i).1 (c.set i (sg c i - 1))).2 then some ((i : Int) :: (rec (doR y m i).1 (c.set i (sg c i - 1))).1) else none
def ordG (rec : List Int → List Int → List Int × Bool) (y : Yd) (m c : List Int) : List Int × Bool :=
  if c.sum = 0 then ([], true) else match (List.range c.length).findSome? (tryAt rec y m c) with
    | some l => (l, true)
    | none => ([], false)
def ordF (y : Yd) : Nat → List Int → List Int → List Int × Bool
  | 0 => ordG (fun _ _ => ([], false)) y
  | n + 1 => ordG (ordF y n) y
theorem ordG_zero {rec : List Int → List Int → List Int × Bool} {y : Yd} {m c : List Int} (h : c.sum = 0) : ordG rec y m c = ([], true) := by unfold ordG; rw [if_pos h]
theorem ordG_none {rec : List Int → List Int → List Int × Bool} {y : Yd} {m c : List Int} (h : ¬ c.sum = 0) (hn : ∀ j, j < c.length → tryAt rec y m c j = none) : ordG rec y m c = ([], false) := by
  unfold ordG
  rw [if_neg h]
  have : (List.range c.length).findSome? (tryAt rec y m c) = none := by
    rw [List.findSome?_eq_none_iff]
    exact fun j hj => hn j (List.mem_range.1 hj)
  rw [this]
theorem ordG_some {rec : List Int → List Int → List Int × Bool} {y : Yd} {m c l : List Int} {k : Nat} (h : ¬ c.sum = 0) (hk : k < c.length) (hn : ∀ j, j < k → tryAt rec y m c j = none) (hs : tryAt rec y m c k = some l) : ordG rec y m c = (l, true) := by
  unfold ordG
  rw [if_neg h]
  have : (List.range c.length).findSome? (tryAt rec y m c) = some l := by
    have e : List.range c.length = List.range k ++ (k :: (List.range (c.length - k - 1)).map (· + (k + 1))) := by
      apply List.ext_getElem
      · simp only [List.length_range, List.length_append, List.length_cons, List.length_map]; omega
      · intro j h1 h2
        rw [List.getElem_append]
        split
        · simp
        · rename_i h3
          simp only [List.length_range, Nat.not_lt] at h3
          rw [List.getElem_cons]
          split
          · rename_i h4
            simp only [List.length_range] at h4
            simp only [List.getElem_range]
            omega
          · simp only [List.getElem_range, List.getElem_map, List.length_range]
            rename_i h4
            simp only [List.length_range] at h4
            omega
    rw [e, List.findSome?_append]
    have e1 : (List.range k).findSome? (tryAt rec y m c) = none := by
      rw [List.findSome?_eq_none_iff]
      exact fun j hj => hn j (List.mem_range.1 hj)
    rw [e1, List.findSome?_cons, hs]
    rfl
  rw [this]
def RecOk (y : Yd) (rec : List Int → List Int → List Int × Bool) (c : List Int) : Prop := ∀ a b, VM y a → b.length = c.length → (∀ x ∈ b, 0 ≤ x ∧ x ≤ 40) → b.sum < c.sum → ACallsF Try.prog 88 [dYd y, ints a, ints b] (.many [rI (rec a b).1, .dv (.bool (rec a b).2)]) ∧ ((rec a b).1.length : Int) ≤ b.sum
theorem sum_snoc {c : List Int} {i : Nat} (h : i < c.length) : (c.take (i + 1)).sum = (c.take i).sum + sg c i := by
  rw [take_snoc (sg_get h)]; simp
theorem sum_bd {lo hi : Int} : ∀ {c : List Int}, (∀ x ∈ c, lo ≤ x ∧ x ≤ hi) → lo * c.length ≤ c.sum ∧ c.sum ≤ hi * c.length
  | [], _ => by simp
  | x :: c, h => by
    have h1 := h x (by simp)
    have h2 := sum_bd (c := c) fun z hz => h z (by simp [hz])
    simp only [List.sum_cons, List.length_cons]
    push_cast
    rw [Int.mul_add, Int.mul_add]
    omega
theorem sum_set : ∀ {c : List Int} {i : Nat} {v : Int}, i < c.length → (c.set i v).sum = c.sum - sg c i + v
  | x :: c, 0, v, _ => by simp [sg]; omega
  | x :: c, i + 1, v, h => by
    have := sum_set (c := c) (i := i) (v := v) (by simpa using h)
    simp only [List.set_cons_succ, List.sum_cons, this]
    have e : sg (x :: c) (i + 1) = sg c i := by simp [sg]
    rw [e]; omega
theorem sum_nonneg {c : List Int} (h : ∀ x ∈ c, 0 ≤ x) : 0 ≤ c.sum := by
  induction c with
  | nil => simp
  | cons x c ih =>
    have h1 := h x (by simp)
    have h2 := ih fun z hz => h z (by simp [hz])
    simp only [List.sum_cons]; omega
theorem ordG_len {rec : List Int → List Int → List Int × Bool} {y : Yd} {m c : List Int} (hr : ∀ a b, (∀ x ∈ b, 0 ≤ x) → ((rec a b).1.length : Int) ≤ b.sum) (hc : ∀ x ∈ c, 0 ≤ x) : ((ordG rec y m c).1.length : Int) ≤ c.sum := by
  have h0 := sum_nonneg hc
  unfold ordG
  split
  · simpa using h0
  · split
    · rename_i l hl
      obtain ⟨i, hi, ht⟩ := List.exists_of_findSome?_eq_some hl
      have hi' : i < c.length := List.mem_range.1 hi
      unfold tryAt at ht
      split at ht
      · cases ht
      · rename_i h1
        split at ht
        · cases ht
        · split at ht
          · simp only [Option.some.injEq] at ht
            subst ht
            have hg := hc _ (List.mem_of_getElem? (sg_get hi'))
            have h3 := hr (doR y m i).1 (c.set i (sg c i - 1)) fun x hx => by
              rcases List.mem_or_eq_of_mem_set hx with h | h
              · exact hc x h
              · omega
            rw [sum_set hi'] at h3
            simp only [List.length_cons]
            push_cast
            omega
          · cases ht
    · simpa using h0
theorem ordF_len {y : Yd} : ∀ (n : Nat) (m c : List Int), (∀ x ∈ c, 0 ≤ x) → ((ordF y n m c).1.length : Int) ≤ c.sum
  | 0, m, c, hc => ordG_len (fun _ b hb => by simpa using sum_nonneg hb) hc
  | n + 1, m, c, hc => ordG_len (fun a b hb => ordF_len n a b hb) hc
set_option maxHeartbeats 4000000 in
theorem f88s (y : Yd) (hv : VYd y) (rec : List Int → List Int → List Int × Bool) (m c : List Int) (hm : VM y m) (hl : c.length = y.steps.length) (hc : ∀ x ∈ c, 0 ≤ x ∧ x ≤ 40)
    (hrec : RecOk y rec c) : ACallsF Try.prog 88 [dYd y, ints m, ints c] (.many [rI (ordG rec y m c).1, .dv (.bool (ordG rec y m c).2)]) := by
  obtain ⟨v1, v2, v3, v4⟩ := validate_ok hv
  refine callsF_of Try.func88 rfl rfl (by rw [Try.ntmps88]; simp) fun cx hP hn hg => ?_
  rw [Try.ntmps88] at hn
  rw [startF_lk, none_mkM]
  simp only [List.nil_append, List.append_nil, List.cons_append, zipSV, Nat.reduceAdd]
  refine awp_seq ?_
  refine rg ?_
  refine qp m_box ?_
  refine qv m_as ?_
  refine qv m_as ?_
  show AWp cx _ _ _
  refine awp_seq ?_
  refine rg ?_
  refine qv m_as ?_
  show AWp cx _ _ _
  refine awp_seq ?_
  refine awp_seq ?_
  refine rg ?_
  refine qv m_as ?_
  show AWp cx _ _ _
  refine awp_block ?_
  refine awp_loop (ι := Nat) (fun i => ⟨lk [(1, .dv (ints (m))), (2, .dv (ints (c))), (3, .pt 3 0 0), (8, .dv (i64 ((c.take i).sum))), (9, .dv (i64 (i : Nat)))], mkM [(3, 0, some ⟨[.dv (i64 (y.places)), .dv (.list ((y.steps).map dStp))], 0, 24, 0, false⟩)]⟩) (fun i => i ≤ c.length) (fun i => c.length - i) 0 (by simp) (tl [(3, 3)]) ?_
  intro i hφ0
  refine awp_seq ?_
  refine awp_seq ?_
  refine rg ?_
  refine qv m_mv ?_
  refine qv m_mv ?_
  refine qv (m_len il25) ?_
  refine qv m_lss ?_
  show AWp cx _ _ _
  refine cd (fun hc0 => ?_) (fun hc0 => ?_)
  · try simp at hc0
    refine awp_skip ?_
    show AWp cx _ _ _
    refine awp_seq ?_
    refine awp_block ?_
    refine rg ?_
    have hin : i < c.length := by omega
    have hgc := sg_get hin
    have hts := sum_snoc hin
    have hb := sum_bd (c := c.take i) fun x hx => hc x (List.mem_of_mem_take hx)
    have hb2 := hc _ (List.mem_of_getElem? hgc)
    have hbl : (c.take i).length ≤ 6 := by simp; omega
    refine qv m_mv ?_
    refine qv m_mv ?_
    refine qv m_mv ?_
    first | refine qv (m_ixN el25 sz3) ?_ | refine qv (m_ix el25 sz3) ?_
    refine qv (m_ld sz3 ag3) ?_
    refine qv m_add ?_
    refine qv m_as ?_
    show AWp cx _ _ _
    refine rg ?_
    refine qv m_mv ?_
    refine qv m_add ?_
    refine qv m_as ?_
    exact ⟨i + 1, hin, (by simp only; omega), (tl [(3, 3)] (hF := by simp [FLe, svLe, lk, mkM, isLive, tauL, hts]) (hM := by simp [MLe, blkLe, svLe, svLes, lk, mkM, isLive, tauL, svLes_ints, svLes_self, isDvs, isDvs_map, isDvs_app, isDvs_take, isDvs_set, isDvs_repl, hts]))⟩
  · try simp at hc0
    refine awp_exit ?_
    show AWp cx _ _ _
    refine awp_seq ?_
    refine awp_seq ?_
    refine rg ?_
    have hse : (c.take i).sum = c.sum := by rw [List.take_of_length_le (by omega)]
    rw [hse]
    refine qv m_mv ?_
    refine qv m_eql ?_
    show AWp cx _ _ _
    refine cd (fun hc1 => ?_) (fun hc1 => ?_)
    · try simp at hc1
      refine awp_seq ?_
      refine rg ?_
      refine qv m_as ?_
      refine qv m_as ?_
      show AWp cx _ _ _
      refine awp_ret ?_
      rw [ordG_zero (by simpa using hc1)]
      exact x2 (hr := (rN_)) (hr' := (rB_))
    · try simp at hc1
      refine awp_skip ?_
      show AWp cx _ _ _
      refine awp_seq ?_
      refine awp_seq ?_
      refine rg ?_
      refine qv m_as ?_
      show AWp cx _ _ _
      refine awp_block ?_
      refine awp_loop (ι := Nat) (fun k => ⟨lk [(1, .dv (ints (m))), (2, .dv (ints (c))), (3, .pt 3 0 0), (10, .dv (i64 (k : Nat)))], mkM [(3, 0, some ⟨[.dv (i64 (y.places)), .dv (.list ((y.steps).map dStp))], 0, 24, 0, false⟩)]⟩) (fun k => k ≤ c.length ∧ ∀ j, j < k → tryAt rec y m c j = none) (fun k => c.length - k) 0 (by simp) (tl [(3, 3)]) ?_
      intro k hφ1
      refine awp_seq ?_
      refine awp_seq ?_
      refine rg ?_
      refine qv m_mv ?_
      refine qv m_mv ?_
      refine qv (m_len il25) ?_
      refine qv m_lss ?_
      show AWp cx _ _ _
      refine cd (fun hc2 => ?_) (fun hc2 => ?_)
      · try simp at hc2
        refine awp_skip ?_
        show AWp cx _ _ _
        refine awp_seq ?_
        refine awp_block ?_
        refine awp_seq ?_
        refine awp_seq ?_
        refine rg ?_
        have hk : k < c.length := by omega
        have hgk := sg_get hk
        have hbk := hc _ (List.mem_of_getElem? hgk)
        refine qv m_mv ?_
        refine qv m_mv ?_
        first | refine qv (m_ixN el25 sz3) ?_ | refine qv (m_ix el25 sz3) ?_
        refine qv (m_ld sz3 ag3) ?_
        refine qv m_eql ?_
        show AWp cx _ _ _
        refine cd (fun hc3 => ?_) (fun hc3 => ?_)
        · try simp at hc3
          refine awp_exit ?_
          show AWp cx _ _ _
          refine rg ?_
          refine qv m_mv ?_
          refine qv m_add ?_
          refine qv m_as ?_
          refine ⟨k + 1, ?_, (by simp only; omega), (tl [(3, 3)])⟩
          refine ⟨hk, fun j hj => ?_⟩
          rcases Nat.lt_or_ge j k with h1 | h1
          · exact hφ1.2 j h1
          · obtain rfl : j = k := by omega
            simp_all [tryAt]
        · try simp at hc3
          refine awp_skip ?_
          show AWp cx _ _ _
          refine awp_seq ?_
          refine rg ?_
          refine qv (m_ldpa sz24 ag24) ?_
          refine qv m_mv ?_
          refine qv m_mv ?_
          refine qqF (f62 y m k hv hm (by omega) (by omega)) ?_
          refine qv m_mv ?_
          refine qv m_ext ?_
          refine qv m_ext ?_
          refine qv m_as ?_
          refine qv m_as ?_
          show AWp cx _ _ _
          refine awp_seq ?_
          refine awp_seq ?_
          refine rg ?_
          refine qv m_mv ?_
          refine qv m_neq ?_
          show AWp cx _ _ _
          refine cd (fun hc4 => ?_) (fun hc4 => ?_)
          · try simp at hc4
            refine awp_exit ?_
            show AWp cx _ _ _
            refine rg ?_
            refine qv m_mv ?_
            refine qv m_add ?_
            refine qv m_as ?_
            refine ⟨k + 1, ?_, (by simp only; omega), (tl [(3, 3)])⟩
            refine ⟨hk, fun j hj => ?_⟩
            rcases Nat.lt_or_ge j k with h1 | h1
            · exact hφ1.2 j h1
            · obtain rfl : j = k := by omega
              simp_all [tryAt]
          · try simp at hc4
            refine awp_skip ?_
            show AWp cx _ _ _
            refine awp_seq ?_
            refine rg ?_
            obtain ⟨a1, a2, a3⟩ := after_vm hv hm (by omega : (0 : Int) ≤ (k : Int)) (by omega) hc4
            have hset := sum_set (c := c) (i := k) (v := sg c k - 1) hk
            have hsl : (c.set k (sg c k - 1)).length = c.length := by simp
            have hsb : ∀ x ∈ c.set k (sg c k - 1), 0 ≤ x ∧ x ≤ 40 := fun x hx => by
              rcases List.mem_or_eq_of_mem_set hx with h | h
              · exact hc x h
              · omega
            have hln := (hrec (doR y m k).1 (c.set k (sg c k - 1)) a1 hsl hsb (by omega)).2
            have hsu := (sum_bd hc).2
            refine qr (m_bsl el25 ze3 sz3) ?_
            refine qv m_mv ?_
            refine qa1 (m_app1 el25 el25 ze3 sz3 by3) ?_
            refine qv m_as ?_
            show AWp cx _ _ _
            refine awp_seq ?_
            refine rg ?_
            refine qv m_mv ?_
            refine qv m_mv ?_
            refine qv (m_ixR el25 sz3) ?_
            first | refine qv (m_ldI sz3 ag3) ?_ | refine qv (m_ldp sz3 ag3) ?_
            refine qv m_sub ?_
            refine qv (m_ixR el25 sz3) ?_
            first | refine qs (m_stI sz3) ?_ | refine qs (m_st sz3) ?_
            show AWp cx _ _ _
            refine awp_seq ?_
            refine rg ?_
            refine qv (m_ldpa sz24 ag24) ?_
            refine qv m_mv ?_
            refine qv m_mv ?_
            refine qqF ((hrec (doR y m k).1 (c.set k (sg c k - 1)) a1 hsl hsb (by omega)).1) ?_
            refine qv m_mv ?_
            refine qv m_ext ?_
            refine qv m_ext ?_
            refine qv m_as ?_
            refine qv m_as ?_
            show AWp cx _ _ _
            refine awp_seq ?_
            refine rg ?_
            refine qv m_mv ?_
            show AWp cx _ _ _
            refine cd (fun hc5 => ?_) (fun hc5 => ?_)
            · try simp at hc5
              refine awp_seq ?_
              refine rg ?_
              refine qv m_mv ?_
              refine qr (m_bsl el25 ze3 sz3) ?_
              refine qv m_mv ?_
              refine qa1 (m_app1 el25 el25 ze3 sz3 by3 (hx := by simp only [St.look, St.ev, lk, mkM, blkOf, svOf, svOfCell, reduceIte, Nat.reduceAdd, Nat.reduceEqDiff, Nat.reduceMul]; exact src_row rfl)) ?_
              refine qv m_as ?_
              refine qv m_as ?_
              show AWp cx _ _ _
              refine awp_ret ?_
              rw [ordG_some (k := k) (l := (k : Int) :: (rec (doR y m k).1 (c.set k (sg c k - 1))).1) (by simpa using hc1) hk hφ1.2 (by simp_all [tryAt])]
              exact x2 (hr := (rR_)) (hr' := (rB_))
            · try simp at hc5
              refine awp_skip ?_
              show AWp cx _ _ _
              refine rg ?_
              refine qv m_mv ?_
              refine qv m_add ?_
              refine qv m_as ?_
              refine ⟨k + 1, ?_, (by simp only; omega), (tl [(3, 3)])⟩
              refine ⟨hk, fun j hj => ?_⟩
              rcases Nat.lt_or_ge j k with h1 | h1
              · exact hφ1.2 j h1
              · obtain rfl : j = k := by omega
                simp_all [tryAt]
      · try simp at hc2
        refine awp_exit ?_
        show AWp cx _ _ _
        refine awp_seq ?_
        refine rg ?_
        refine qv m_as ?_
        refine qv m_as ?_
        show AWp cx _ _ _
        refine awp_ret ?_
        rw [ordG_none (by simpa using hc1) fun j hj => hφ1.2 j (by omega)]
        exact x2 (hr := (rN_)) (hr' := (rB_))
theorem f88 (y : Yd) (hv : VYd y) : ∀ (n : Nat) (m c : List Int), VM y m → c.length = y.steps.length → (∀ x ∈ c, 0 ≤ x ∧ x ≤ 40) → c.sum ≤ n → ACallsF Try.prog 88 [dYd y, ints m, ints c] (.many [rI (ordF y n m c).1, .dv (.bool (ordF y n m c).2)])
  | 0, m, c, hm, hl, hc, hn => f88s y hv _ m c hm hl hc fun a b _ hl' hc' h => by
    have := (sum_bd hc').1
    simp only [Int.natCast_zero] at hn
    omega
  | n + 1, m, c, hm, hl, hc, hn => f88s y hv _ m c hm hl hc fun a b hm' hl' hc' h => ⟨f88 y hv n a b hm' (by omega) hc' (by push_cast at hn; omega), ordF_len n a b fun x hx => (hc' x hx).1⟩
end Go.Ab.Try
set_option linter.all false
namespace Go.Ab.Try
open Go Go.Ab Go.Proofs
def ordR (y : Yd) (m c : List Int) : List Int × Bool × Int := if filledE y [m] ≠ 0 then ([], false, filledE y [m]) else if allIn c y.steps.length 0 40 = false then ([], false, 1) else if 8 < c.sum then ([], false, 3) else ((ordF y 8 m c).1, (ordF y 8 m c).2, 0)
theorem ordR_a {y : Yd} {m c : List Int} (h : ¬ filledE y [m] = 0) : ordR y m c = ([], false, filledE y [m]) := by unfold ordR; rw [if_pos h]
theorem ordR_b {y : Yd} {m c : List Int} (h : filledE y [m] = 0) (h1 : allIn c y.steps.length 0 40 = false) : ordR y m c = ([], false, 1) := by unfold ordR; rw [if_neg (by simp [h]), if_pos h1]
theorem ordR_c {y : Yd} {m c : List Int} (h : filledE y [m] = 0) (h1 : allIn c y.steps.length 0 40 = true) (h2 : 8 < c.sum) : ordR y m c = ([], false, 3) := by unfold ordR; rw [if_neg (by simp [h]), if_neg (by simp [h1]), if_pos h2]
theorem ordR_d {y : Yd} {m c : List Int} (h : filledE y [m] = 0) (h1 : allIn c y.steps.length 0 40 = true) (h2 : ¬ 8 < c.sum) : ordR y m c = ((ordF y 8 m c).1, (ordF y 8 m c).2, 0) := by unfold ordR; rw [if_neg (by simp [h]), if_neg (by simp [h1]), if_neg h2]
set_option maxHeartbeats 4000000 in
theorem f45 (y : Yd) (m c : List Int) : ACallsF Try.prog 45 [dYd y, ints m, ints c] (.many [rI (ordR y m c).1, .dv (.bool (ordR y m c).2.1), .dv (i64 (ordR y m c).2.2)]) := by
  refine callsF_of Try.func45 rfl rfl (by rw [Try.ntmps45]; simp) fun cx hP hn hg => ?_
  rw [Try.ntmps45] at hn
  rw [startF_lk, none_mkM]
  simp only [List.nil_append, List.append_nil, List.cons_append, zipSV, Nat.reduceAdd]
  refine awp_seq ?_
  refine rg ?_
  refine qp m_box ?_
  refine qv m_as ?_
  refine qv m_as ?_
  refine qv m_as ?_
  show AWp cx _ _ _
  refine awp_seq ?_
  refine awp_seq ?_
  refine rg ?_
  refine qv (m_ldpa sz24 ag24) ?_
  refine qv m_mv ?_
  refine qqF (f60 y m) ?_
  refine qv m_as ?_
  show AWp cx _ _ _
  refine awp_seq ?_
  refine rg ?_
  refine qv m_mv ?_
  refine qv m_neq ?_
  show AWp cx _ _ _
  refine cd (fun hc0 => ?_) (fun hc0 => ?_)
  · skip
    have h0 : ¬ filledE y [m] = 0 := by simpa using hc0
    refine awp_seq ?_
    refine rg ?_
    refine qv m_mv ?_
    refine qv m_as ?_
    refine qv m_as ?_
    refine qv m_as ?_
    show AWp cx _ _ _
    refine awp_ret ?_
    rw [ordR_a h0]
    exact x3 (hr := (rN_)) (hr' := (rB_)) (hr'' := (rI_))
  · skip
    have h0 : filledE y [m] = 0 := by simpa using hc0
    obtain ⟨hv, hm⟩ := filled_ok h0
    obtain ⟨v1, v2, v3, v4⟩ := validate_ok hv
    refine awp_skip ?_
    show AWp cx _ _ _
    refine awp_seq ?_
    refine awp_seq ?_
    refine rg ?_
    refine qv m_mv ?_
    refine qv (m_fdp fd24_1) ?_
    refine qv (m_ldp sz22 ag22) ?_
    refine qv (m_len il22) ?_
    refine qqF (f73 c y.steps.length 0 40 (by omega)) ?_
    refine qv m_not ?_
    show AWp cx _ _ _
    refine cd (fun hc1 => ?_) (fun hc1 => ?_)
    · skip
      have h1 : allIn c y.steps.length 0 40 = false := by simpa using hc1
      refine awp_seq ?_
      refine rg ?_
      refine qv m_as ?_
      refine qv m_as ?_
      refine qv m_as ?_
      show AWp cx _ _ _
      refine awp_ret ?_
      rw [ordR_b h0 h1]
      exact x3 (hr := (rN_)) (hr' := (rB_)) (hr'' := (rI_))
    · skip
      have h1 : allIn c y.steps.length 0 40 = true := by simpa using hc1
      have hcl := allIn_len h1
      have hcm := allIn_mem h1
      refine awp_skip ?_
      show AWp cx _ _ _
      refine awp_seq ?_
      refine rg ?_
      refine qv m_as ?_
      show AWp cx _ _ _
      refine awp_seq ?_
      refine awp_seq ?_
      refine rg ?_
      refine qv m_as ?_
      show AWp cx _ _ _
      refine awp_block ?_
      refine awp_loop (ι := Nat) (fun i => ⟨lk [(1, .dv (ints (m))), (2, .dv (ints (c))), (3, .pt 3 0 0), (10, .dv (i64 ((c.take i).sum))), (11, .dv (i64 (i : Nat)))], mkM [(3, 0, some ⟨[.dv (i64 (y.places)), .dv (.list ((y.steps).map dStp))], 0, 24, 0, false⟩)]⟩) (fun i => i ≤ c.length) (fun i => c.length - i) 0 (by simp) (tl [(3, 3)]) ?_
      intro i hφ0
      refine awp_seq ?_
      refine awp_seq ?_
      refine rg ?_
      refine qv m_mv ?_
      refine qv m_mv ?_
      refine qv (m_len il25) ?_
      refine qv m_lss ?_
      show AWp cx _ _ _
      refine cd (fun hc2 => ?_) (fun hc2 => ?_)
      · try simp at hc2
        refine awp_skip ?_
        show AWp cx _ _ _
        refine awp_seq ?_
        refine awp_block ?_
        refine rg ?_
        have hin : i < c.length := by omega
        have hgc := sg_get hin
        have hts := sum_snoc hin
        have hb := sum_bd (c := c.take i) fun x hx => hcm x (List.mem_of_mem_take hx)
        have hb2 := hcm _ (List.mem_of_getElem? hgc)
        have hbl : (c.take i).length ≤ 6 := by simp; omega
        refine qv m_mv ?_
        refine qv m_mv ?_
        refine qv m_mv ?_
        first | refine qv (m_ixN el25 sz3) ?_ | refine qv (m_ix el25 sz3) ?_
        refine qv (m_ld sz3 ag3) ?_
        refine qv m_add ?_
        refine qv m_as ?_
        show AWp cx _ _ _
        refine rg ?_
        refine qv m_mv ?_
        refine qv m_add ?_
        refine qv m_as ?_
        exact ⟨i + 1, hin, (by simp only; omega), (tl [(3, 3)] (hF := by simp [FLe, svLe, lk, mkM, isLive, tauL, hts]) (hM := by simp [MLe, blkLe, svLe, svLes, lk, mkM, isLive, tauL, svLes_ints, svLes_self, isDvs, isDvs_map, isDvs_app, isDvs_take, isDvs_set, isDvs_repl, hts]))⟩
      · try simp at hc2
        refine awp_exit ?_
        show AWp cx _ _ _
        refine awp_seq ?_
        refine awp_seq ?_
        refine rg ?_
        have hse : (c.take i).sum = c.sum := by rw [List.take_of_length_le (by omega)]
        rw [hse]
        refine qv m_mv ?_
        refine qv m_gtr ?_
        show AWp cx _ _ _
        refine cd (fun hc3 => ?_) (fun hc3 => ?_)
        · skip
          have h2 : 8 < c.sum := by simpa using hc3
          refine awp_seq ?_
          refine rg ?_
          refine qv m_as ?_
          refine qv m_as ?_
          refine qv m_as ?_
          show AWp cx _ _ _
          refine awp_ret ?_
          rw [ordR_c h0 h1 h2]
          exact x3 (hr := (rN_)) (hr' := (rB_)) (hr'' := (rI_))
        · skip
          have h2 : ¬ 8 < c.sum := by simpa using hc3
          refine awp_skip ?_
          show AWp cx _ _ _
          refine awp_seq ?_
          refine rg ?_
          refine qv (m_ldpa sz24 ag24) ?_
          refine qv m_mv ?_
          refine qv m_mv ?_
          refine qqF (f88 y hv 8 m c hm (by omega) hcm (by omega)) ?_
          refine qv m_mv ?_
          refine qv m_ext ?_
          refine qv m_ext ?_
          refine qv m_as ?_
          refine qv m_as ?_
          show AWp cx _ _ _
          refine awp_seq ?_
          refine rg ?_
          refine qv m_mv ?_
          refine qv m_mv ?_
          refine qv m_as ?_
          refine qv m_as ?_
          refine qv m_as ?_
          show AWp cx _ _ _
          refine awp_ret ?_
          rw [ordR_d h0 h1 h2]
          exact x3 (hr := (by first | exact rN_ | exact rR_)) (hr' := (rB_)) (hr'' := (rI_))
end Go.Ab.Try
set_option linter.all false
namespace Go.Ab.Try
open Go Go.Ab Go.Proofs
structure Wk where
  m : List Int
  c : List Int
abbrev dWk (w : Wk) : DV := .agg [ints w.m, ints w.c]
theorem x2c {P : Program} {okd : DV → Prop} {S : St} {rv : List ResultVar} {x : Exit} {s0 s1 : SV} {d0 d1 : DV} (he : x = .normal ∨ x = .ret) (h : resSV P S rv = some [s0, s1]) (h0 : RetOk okd S.M s0 (.dv d0)) (h1 : RetOk okd S.M s1 (.dv d1)) : EndK P okd rv (.many [.dv d0, .dv d1]) x S :=
  ⟨he, [s0, s1], [.dv d0, .dv d1], h, ⟨h0, h1, trivial⟩, ra_d (by simp [AllDv1]), rfl⟩
def nextW (y : Yd) (w : Wk) (i : Nat) : Wk × Bool := if sg w.c i = 0 then (⟨[], []⟩, false) else (⟨(afterR (stepAt y i) w.m).1, w.c.set i (sg w.c i - 1)⟩, decide ((afterR (stepAt y i) w.m).2 = 0))
theorem f85 (x : Int) : ACallsF Try.prog 85 [i64 x] (.one (.dv (.bool (decide (0 < x))))) := by
  refine callsF_of Try.func85 rfl rfl (by rw [Try.ntmps85]; simp) fun cx hP hn hg => ?_
  rw [Try.ntmps85] at hn
  rw [startF_lk, none_mkM]
  simp only [List.nil_append, List.append_nil, List.cons_append, zipSV, Nat.reduceAdd]
  refine awp_seq ?_
  refine rg ?_
  refine qv m_as ?_
  show AWp cx _ _ _
  refine awp_seq ?_
  refine rg ?_
  refine qv m_mv ?_
  refine qv m_gtr ?_
  refine qv m_as ?_
  show AWp cx _ _ _
  refine awp_ret ?_
  exact x1 (hr := (rB_))
theorem f83 (w : Wk) (hl : w.c.length < 1000000) : ACallsF Try.prog 83 [dWk w] (.one (.dv (.bool (!w.c.any fun x => decide (0 < x))))) := by
  refine callsF_of Try.func83 rfl rfl (by rw [Try.ntmps83]; simp) fun cx hP hn hg => ?_
  rw [Try.ntmps83] at hn
  rw [startF_lk, none_mkM]
  simp only [List.nil_append, List.append_nil, List.cons_append, zipSV, Nat.reduceAdd]
  refine awp_seq ?_
  refine rg ?_
  refine qp m_box ?_
  refine qv m_as ?_
  show AWp cx _ _ _
  refine awp_seq ?_
  refine rg ?_
  refine qv (m_fdp fd80_1) ?_
  refine qv (m_ldp sz25 ag25) ?_
  refine qqF (f84 w.c 85 [] [] (fun x => decide (0 < x)) (fun x _ => f85 x) hl) ?_
  refine qv m_not ?_
  refine qv m_as ?_
  show AWp cx _ _ _
  refine awp_ret ?_
  exact x1 (hr := (rB_))
set_option maxHeartbeats 4000000 in
theorem f86 (y : Yd) (hv : VYd y) (w : Wk) (i : Nat) (hm : VM y w.m) (hl : w.c.length = y.steps.length) (hc : ∀ x ∈ w.c, 0 ≤ x ∧ x ≤ 40) (hi : i < w.c.length) : ACalls Try.prog 86 [dWk w, i64 (i : Int), .cptr [i64 y.places, .list (y.steps.map dStp)]] (.many [.dv (dWk (nextW y w i).1), .dv (.bool (nextW y w i).2)]) := by
  obtain ⟨v1, v2, v3, v4⟩ := validate_ok hv
  obtain ⟨hft, hst⟩ := fits_of hv hm (s := (i : Int)) (by omega) (by omega)
  have hgc := sg_get hi
  have hbc := hc _ (List.mem_of_getElem? hgc)
  refine callsA_of Try.func86 rfl rfl (by rw [Try.ntmps86]; simp) fun cx hP hn hg => ?_
  rw [Try.ntmps86] at hn
  rw [startF_lk, none_mkM]
  simp only [List.nil_append, List.append_nil, List.cons_append, zipSV, Nat.reduceAdd]
  refine awp_seq ?_
  refine rg ?_
  refine qp m_box ?_
  refine qp (m_al ze80) ?_
  refine qv m_as ?_
  show AWp cx _ _ _
  refine awp_seq ?_
  refine awp_seq ?_
  refine rg ?_
  refine qv (m_fdp fd80_1) ?_
  refine qv (m_ldp sz25 ag25) ?_
  refine qv m_mv ?_
  first | refine qv (m_ixN el25 sz3) ?_ | refine qv (m_ix el25 sz3) ?_
  refine qv (m_ld sz3 ag3) ?_
  refine qv m_eql ?_
  show AWp cx _ _ _
  refine cd (fun hc0 => ?_) (fun hc0 => ?_)
  · try simp at hc0
    refine awp_seq ?_
    refine rg ?_
    refine qv (m_bld pl80 ze80) ?_
    refine qs (m_st sz80) ?_
    refine qv m_as ?_
    show AWp cx _ _ _
    refine awp_ret ?_
    rw [nextW, if_pos hc0]
    exact x2c (rv := [.cell 5 80, .tmp 6]) (s0 := .agg [.nils, .nils]) (s1 := .dv (.bool false)) (.inr rfl) (by simp only [resSV, loadSV, St.look, St.ev, lk, mkM, blkOf, svOf, svOfCell, sz80, ag80, reduceIte, Nat.reduceEqDiff]; rfl) (.agg _ _ rfl fun j s c hs hd => by match j, hs, hd with | 0, hs, hd => cases hs; cases hd; exact .nils | 1, hs, hd => cases hs; cases hd; exact .nils) (retOk_dv (.dv _ trivial))
  · try simp at hc0
    refine awp_skip ?_
    show AWp cx _ _ _
    refine awp_seq ?_
    refine rd mixed ?_
    refine zv (m_fd fd24_1) ?_
    refine zv (m_ld sz22 ag22) ?_
    refine zv m_mv ?_
    first | refine zv (m_ixN el22 sz55) ?_ | refine zv (m_ix el22 sz55) ?_
    refine zv (m_lda sz55 ag55) ?_
    refine zv (m_fdp fd80_0) ?_
    refine zv (m_ldp sz25 ag25) ?_
    refine zqF (R := []) (f69 (stepAt y i) w.m hft) ?_
    refine zv m_mv ?_
    refine zv m_ext ?_
    refine zv m_ext ?_
    refine zv m_as ?_
    refine zv m_as ?_
    refine ⟨by rfl, ?_⟩
    show AWp cx _ _ _
    refine awp_seq ?_
    refine rg ?_
    refine qv (m_fdp fd80_1) ?_
    refine qv (m_ldp sz25 ag25) ?_
    refine qqF (f76 w.c (by omega)) ?_
    refine qv m_as ?_
    show AWp cx _ _ _
    refine awp_seq ?_
    refine rg ?_
    refine qv m_mv ?_
    refine qv m_mv ?_
    refine qv (m_ixR el25 sz3) ?_
    first | refine qv (m_ldI sz3 ag3) ?_ | refine qv (m_ldp sz3 ag3) ?_
    refine qv m_sub ?_
    refine qv (m_ixR el25 sz3) ?_
    first | refine qs (m_stI sz3) ?_ | refine qs (m_st sz3) ?_
    show AWp cx _ _ _
    refine awp_seq ?_
    refine awp_frz 25 ?_
    refine awp_frz 30 ?_
    refine awp_sink 7 (d := ints (afterR (stepAt y i) w.m).1) (data_ints (by simp only [mkM, reduceIte, Nat.reduceEqDiff] <;> rfl) rfl (by first | rfl | simp) rfl rfl (fun _ => trivial)) hg ?_
    refine awp_sink 9 (d := ints (w.c.set i (sg w.c i - 1))) (data_ints (by simp only [mkM, reduceIte, Nat.reduceEqDiff] <;> rfl) rfl (by first | rfl | simp) rfl rfl (fun _ => trivial)) hg ?_
    refine rg ?_
    refine qv m_mv ?_
    refine qv m_mv ?_
    refine qv (m_bld pl80 ze80) ?_
    refine qv m_mv ?_
    refine qv m_eql ?_
    refine qs (m_st sz80) ?_
    refine qv m_as ?_
    show AWp cx _ _ _
    refine awp_ret ?_
    rw [nextW, if_neg hc0]
    exact x2c (rv := [.cell 5 80, .tmp 6]) (s0 := .dv (.agg [ints (afterR (stepAt y i) w.m).1, ints (w.c.set i (sg w.c i - 1))])) (s1 := .dv (.bool (decide ((afterR (stepAt y i) w.m).2 = 0)))) (.inr rfl) (by simp only [resSV, loadSV, St.look, St.ev, lk, mkM, blkOf, svOf, svOfCell, sz80, ag80, reduceIte, Nat.reduceEqDiff]; rfl) (retOk_dv (.dv _ trivial)) (retOk_dv (.dv _ trivial))
end Go.Ab.Try
