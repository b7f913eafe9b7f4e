/- Sets of squares as bits: the lowest bit, and a set as a list. -/
import Derived.Test.YtjipgkhfbfpacaaDoorMossL0
set_option linter.all false
namespace Go.Ab.Moss
open Go.Ab

/-- The smallest number of a set; the set as a list. -/
def tz (x : Nat) : Nat := ((List.range 64).find? fun i => x.testBit i).getD 0
def bl (x : Nat) : List Nat := (List.range 64).filter fun i => x.testBit i

theorem mem_bl {x i : Nat} (hx : x < 2 ^ 64) : i ∈ bl x ↔ x.testBit i = true := by
  simp only [bl, List.mem_filter, List.mem_range]
  constructor
  · exact fun h => h.2
  · intro h
    refine ⟨?_, h⟩
    rcases Nat.lt_or_ge i 64 with h1 | h1
    · exact h1
    · rw [testBit_high hx h1] at h; cases h
theorem bl_length {x : Nat} : (bl x).length = popc x := by simp [bl, pc, List.countP_eq_length_filter]
theorem bl_zero : bl 0 = [] := by decide

theorem tz_spec {x : Nat} (h0 : x ≠ 0) (hx : x < 2 ^ 64) : tz x < 64 ∧ x.testBit (tz x) = true ∧ ∀ j, j < tz x → x.testBit j = false := by
  obtain ⟨i, hi⟩ := Nat.exists_testBit_of_ne_zero h0
  have hi64 : i < 64 := by
    rcases Nat.lt_or_ge i 64 with h1 | h1
    · exact h1
    · rw [testBit_high hx h1] at hi; cases hi
  unfold tz
  cases hf : (List.range 64).find? fun i => x.testBit i with
  | none =>
    have := List.find?_eq_none.1 hf i (List.mem_range.2 hi64)
    simp [hi] at this
  | some t =>
    have h1 := List.find?_some hf
    have h2 := List.mem_range.1 (List.mem_of_find?_eq_some hf)
    refine ⟨h2, h1, fun j hj => ?_⟩
    simp only [Option.getD_some] at hj
    rw [List.find?_range_eq_some] at hf
    have := hf.2.2 j hj
    simpa using this

theorem tz_form {x : Nat} (h0 : x ≠ 0) (hx : x < 2 ^ 64) : ∃ q, x = 2 ^ (tz x + 1) * q + 2 ^ tz x := by
  obtain ⟨_, h1, h2⟩ := tz_spec h0 hx
  generalize tz x = t at *
  refine ⟨x / 2 ^ (t + 1), ?_⟩
  apply Nat.eq_of_testBit_eq
  intro i
  rw [Nat.testBit_two_pow_mul_add _ (Nat.pow_lt_pow_right (by decide) (Nat.lt_succ_self t))]
  split
  · rename_i hi
    rw [Nat.testBit_two_pow]
    by_cases e : t = i
    · subst e; simp [h1]
    · rw [h2 i (by omega)]; simp [e]
  · rename_i hi
    rw [Nat.testBit_div_two_pow, Nat.sub_add_cancel (by omega)]

theorem bit_x {t q i : Nat} : (2 ^ (t + 1) * q + 2 ^ t).testBit i = if i < t + 1 then decide (i = t) else q.testBit (i - (t + 1)) := by
  rw [Nat.testBit_two_pow_mul_add _ (Nat.pow_lt_pow_right (by decide) (Nat.lt_succ_self t))]
  split
  · rw [Nat.testBit_two_pow]; simp [eq_comm]
  · rfl
theorem bit_pred {t q i : Nat} : (2 ^ (t + 1) * q + 2 ^ t - 1).testBit i = if i < t + 1 then decide (i < t) else q.testBit (i - (t + 1)) := by
  have h1 : 0 < 2 ^ t := Nat.two_pow_pos t
  have e : 2 ^ (t + 1) * q + 2 ^ t - 1 = 2 ^ (t + 1) * q + (2 ^ t - 1) := by omega
  have h2 : 2 ^ t - 1 < 2 ^ (t + 1) := by rw [Nat.pow_succ]; omega
  rw [e, Nat.testBit_two_pow_mul_add _ h2]
  split
  · rw [Nat.testBit_two_pow_sub_one]
  · rfl

theorem and_pred {x : Nat} (h0 : x ≠ 0) (hx : x < 2 ^ 64) (i : Nat) : (x &&& (x - 1)).testBit i = (x.testBit i && decide (i ≠ tz x)) := by
  obtain ⟨q, hq⟩ := tz_form h0 hx
  generalize tz x = t at *
  subst hq
  rw [Nat.testBit_and, bit_x, bit_pred]
  by_cases h : i < t + 1
  · simp only [h, if_true]
    by_cases e : i = t
    · subst e; simp
    · simp [e]
  · have : i ≠ t := by omega
    simp [h, this]
theorem and_neg {x : Nat} (h0 : x ≠ 0) (hx : x < 2 ^ 64) : x &&& (18446744073709551616 - x) = 2 ^ tz x := by
  have ht := (tz_spec h0 hx).1
  obtain ⟨q, hq⟩ := tz_form h0 hx
  generalize tz x = t at *
  have hqb : q < 2 ^ (63 - t) := by
    have e : 2 ^ 64 = 2 ^ (t + 1) * 2 ^ (63 - t) := by rw [← Nat.pow_add]; congr 1; omega
    rcases Nat.lt_or_ge q (2 ^ (63 - t)) with h | h
    · exact h
    · have := Nat.mul_le_mul_left (2 ^ (t + 1)) h
      rw [← e] at this
      have := Nat.two_pow_pos t
      omega
  have e : 18446744073709551616 - x = 2 ^ (t + 1) * (2 ^ (63 - t) - (q + 1)) + 2 ^ t := by
    have e1 : 2 ^ (t + 1) * 2 ^ (63 - t) = 18446744073709551616 := by rw [← Nat.pow_add, show t + 1 + (63 - t) = 64 by omega]
    have e2 : 2 ^ (t + 1) = 2 * 2 ^ t := by rw [Nat.pow_succ]; omega
    rw [Nat.mul_sub, e1, Nat.mul_add, Nat.mul_one]
    have := Nat.mul_le_mul_left (2 ^ (t + 1)) (Nat.succ_le_of_lt hqb)
    rw [e1, Nat.mul_succ] at this
    omega
  apply Nat.eq_of_testBit_eq
  intro i
  rw [e, Nat.testBit_and, hq, bit_x, bit_x, Nat.testBit_two_pow]
  by_cases h : i < t + 1
  · simp [h, eq_comm]
  · have hn : ¬ t = i := by omega
    simp only [h, if_false, hn, decide_false]
    rw [Nat.testBit_two_pow_sub_succ hqb]
    cases q.testBit (i - (t + 1)) <;> simp
theorem and_pred_lt {x : Nat} (h0 : x ≠ 0) : x &&& (x - 1) < x := Nat.lt_of_le_of_lt Nat.and_le_right (by omega)
theorem bl_step {x : Nat} (h0 : x ≠ 0) (hx : x < 2 ^ 64) : bl x = tz x :: bl (x &&& (x - 1)) := by
  obtain ⟨ht, h1, h2⟩ := tz_spec h0 hx
  have h3 := and_pred h0 hx
  generalize tz x = t at *
  unfold bl
  have e : List.range 64 = List.range t ++ (t :: (List.range (63 - t)).map (fun i => t + 1 + i)) := by
    have e1 : (64 : Nat) = t + (1 + (63 - t)) := by omega
    rw [e1, List.range_add, List.range_add]
    simp [Nat.add_assoc]
  rw [e, List.filter_append, List.filter_append, List.filter_cons, List.filter_cons]
  have f1 : (List.range t).filter (fun i => x.testBit i) = [] := List.filter_eq_nil_iff.2 fun i hi => by simp [h2 i (List.mem_range.1 hi)]
  have f2 : (List.range t).filter (fun i => (x &&& (x - 1)).testBit i) = [] := List.filter_eq_nil_iff.2 fun i hi => by rw [h3]; simp [h2 i (List.mem_range.1 hi)]
  have f3 : (x &&& (x - 1)).testBit t = false := by rw [h3]; simp
  rw [f1, f2, h1, f3]
  simp only [if_true, List.nil_append, Bool.false_eq_true, if_false]
  congr 1
  apply List.filter_congr
  intro i hi
  obtain ⟨j, _, rfl⟩ := List.mem_map.1 hi
  have : ¬ t + 1 + j = t := by omega
  rw [h3]
  simp [this]

/-- The table by which the lowest bit is found. -/
def deBruijn : List Nat := [0, 1, 56, 2, 57, 49, 28, 3, 61, 58, 42, 50, 38, 29, 17, 4, 62, 47, 59, 36, 45, 43, 51, 22, 53, 39, 33, 30, 24, 18, 12, 5, 63, 55, 48, 27, 60, 41, 37, 16, 46, 35, 44, 21, 52, 32, 23, 11, 54, 26, 40, 15, 34, 20, 31, 10, 25, 14, 19, 9, 13, 8, 7, 6]
def tzIx (x : Nat) : Nat := x * 285870213051353865 % 18446744073709551616 / 2 ^ 58
set_option maxRecDepth 100000 in
theorem deBruijn_ok : ∀ t < 64, tzIx (2 ^ t) < 64 ∧ deBruijn[tzIx (2 ^ t)]? = some t := by decide +kernel
end Go.Ab.Moss
