/- Neighbors: the code's and the document's. -/
import Derived.Test.YtjipgkhfbfpacaaDoorMossT
set_option linter.all false
namespace Go.Ab.Moss
open Go Go.Ab

theorem sq_bd {a : Int} (h : -36 ≤ a ∧ a ≤ 36) : 0 ≤ a * a ∧ a * a ≤ 1296 := by
  have e : a * a = ((a.natAbs * a.natAbs : Nat) : Int) := (Int.natAbs_mul_self (a := a)).symm
  have h1 : a.natAbs ≤ 36 := by omega
  have h2 : a.natAbs * a.natAbs ≤ 36 * 36 := Nat.mul_le_mul h1 h1
  rw [e]; omega
theorem sq_one {a b : Int} : a * a + b * b = 1 ↔ (a = 0 ∧ (b = 1 ∨ b = -1)) ∨ (b = 0 ∧ (a = 1 ∨ a = -1)) := by
  constructor
  · intro h
    have ea : a * a = ((a.natAbs * a.natAbs : Nat) : Int) := (Int.natAbs_mul_self (a := a)).symm
    have eb : b * b = ((b.natAbs * b.natAbs : Nat) : Int) := (Int.natAbs_mul_self (a := b)).symm
    rw [ea, eb] at h
    have h' : a.natAbs * a.natAbs + b.natAbs * b.natAbs = 1 := by omega
    have ha : a.natAbs ≤ 1 := by
      rcases Nat.lt_or_ge 1 a.natAbs with h1 | h1
      · have := Nat.mul_le_mul h1 h1; omega
      · exact h1
    have hb : b.natAbs ≤ 1 := by
      rcases Nat.lt_or_ge 1 b.natAbs with h1 | h1
      · have := Nat.mul_le_mul h1 h1; omega
      · exact h1
    have ha2 : a.natAbs = 0 ∨ a.natAbs = 1 := by omega
    have hb2 : b.natAbs = 0 ∨ b.natAbs = 1 := by omega
    rcases ha2 with h1 | h1 <;> rcases hb2 with h2 | h2 <;> rw [h1, h2] at h' <;> omega
  · rintro (⟨rfl, rfl | rfl⟩ | ⟨rfl, rfl | rfl⟩) <;> rfl

/-- Whether squares are neighbors. -/
def dr (n : Mn) (j k : Nat) : Int := ((j / n.c : Nat) : Int) - ((k / n.c : Nat) : Int)
def dc (n : Mn) (j k : Nat) : Int := ((j % n.c : Nat) : Int) - ((k % n.c : Nat) : Int)
def adjB (n : Mn) (k j : Nat) : Bool := decide (dr n j k * dr n j k + dc n j k * dc n j k = 1)
def nbL (n : Mn) (k : Nat) : List Nat := (List.range (n.r * n.c)).filter (adjB n k)
def cntR (n : Mn) (w k : Nat) : Nat := (nbL n k).countP fun j => w.testBit j

theorem arN_bit {n : Mn} (ok : n.Ok) {k : Nat} (hk : k < n.r * n.c) (j : Nat) : (arN n k).testBit j = (decide (j < n.r * n.c) && adjB n k j) := by
  have e : (arN n k).testBit j = ((decide (0 < k / n.c) && decide (k - n.c = j)) || (decide (0 < k % n.c) && decide (k - 1 = j)) || (decide (k % n.c + 1 < n.c) && decide (k + 1 = j)) || (decide (k / n.c + 1 < n.r) && decide (k + n.c = j))) := by
    unfold arN ar3 ar2 ar1
    by_cases h0 : 0 < k / n.c <;> by_cases h1 : 0 < k % n.c <;> by_cases h2 : k % n.c + 1 < n.c <;> by_cases h3 : k / n.c + 1 < n.r <;> simp only [h0, h1, h2, h3, if_true, if_false, Nat.testBit_or, Nat.testBit_two_pow, Nat.zero_testBit, decide_true, decide_false, Bool.true_and, Bool.false_and, Bool.false_or, Bool.or_false]
  rw [e, Bool.eq_iff_iff]
  simp only [Bool.or_eq_true, Bool.and_eq_true, decide_eq_true_eq, adjB, sq_one, dr, dc]
  obtain ⟨r, c, nd⟩ := n
  obtain ⟨r1, r2, c1, c2, n1, n2⟩ := ok
  simp only at *
  have hc : c = 1 ∨ c = 2 ∨ c = 3 ∨ c = 4 ∨ c = 5 ∨ c = 6 := by omega
  rcases hc with rfl | rfl | rfl | rfl | rfl | rfl <;> omega

theorem pc_cut {k x : Nat} (hx : x < 2 ^ k) (hk : k ≤ 64) : popc x = pc k x := by
  have e : (64 : Nat) = k + (64 - k) := by omega
  show pc 64 x = _
  rw [e, pc_add, Nat.div_eq_of_lt hx]
  have : pc (64 - k) 0 = 0 := by simp [pc]
  omega
theorem popc_and {n : Mn} (ok : n.Ok) {k : Nat} (hk : k < n.r * n.c) (w : Nat) : popc (arN n k &&& w) = cntR n w k := by
  have hlt : arN n k < 2 ^ (n.r * n.c) := by
    apply Nat.lt_pow_two_of_testBit
    intro i hi
    rw [arN_bit ok hk]
    simp; omega
  rw [pc_cut (Nat.lt_of_le_of_lt Nat.and_le_left hlt) (Nat.le_trans ok.N2 (by decide))]
  unfold pc cntR nbL
  rw [List.countP_filter]
  apply List.countP_congr
  intro i hi
  have := List.mem_range.1 hi
  rw [Nat.testBit_and, arN_bit ok hk]
  simp [this, Bool.and_comm]
theorem bl_arN {n : Mn} (ok : n.Ok) {k : Nat} (hk : k < n.r * n.c) : bl (arN n k) = nbL n k := by
  unfold bl nbL
  have e : (64 : Nat) = n.r * n.c + (64 - n.r * n.c) := by have := ok.N2; omega
  rw [e, List.range_add, List.filter_append]
  have h2 : ((List.range (64 - n.r * n.c)).map (n.r * n.c + ·)).filter (fun i => (arN n k).testBit i) = [] := by
    rw [List.filter_eq_nil_iff]
    intro i hi
    obtain ⟨j, _, rfl⟩ := List.mem_map.1 hi
    rw [arN_bit ok hk]
    have : ¬ n.r * n.c + j < n.r * n.c := by omega
    simp [this]
  rw [h2, List.append_nil]
  apply List.filter_congr
  intro i hi
  rw [arN_bit ok hk]
  simp [List.mem_range.1 hi]
theorem nb_lt {n : Mn} {k j : Nat} (h : j ∈ nbL n k) : j < n.r * n.c := List.mem_range.1 (List.mem_filter.1 h).1
theorem nb_len {n : Mn} {k : Nat} : (nbL n k).length ≤ n.r * n.c := by
  have := List.length_filter_le (adjB n k) (List.range (n.r * n.c))
  simpa [nbL] using this
/-- The document's step. -/
def stB (n : Mn) (w k : Nat) : Bool := decide (n.nd ≤ cntR n w k)
def stN (n : Mn) (w : Nat) : Nat := w ||| bset (stB n w) (n.r * n.c)
theorem stN_eq {n : Mn} (ok : n.Ok) (w : Nat) : stN n w = w ||| rdN n w := by
  apply Nat.eq_of_testBit_eq
  intro i
  unfold stN rdN
  rw [Nat.testBit_or, Nat.testBit_or, testBit_bset, testBit_bset]
  by_cases hi : i < n.r * n.c
  · simp only [hi, decide_true, Bool.true_and, stB, rdB, popc_and ok hi]
    cases w.testBit i <;> simp
  · simp [hi]
end Go.Ab.Moss
