/- Meadows as plain data; what the functions compute. -/
import Derived.Test.YtjipgkhfbfpacaaDoorAbI
import Derived.Test.YtjipgkhfbfpacaaDoorMossL1
set_option linter.all false
namespace Go.Ab.Moss
open Go Go.Ab

/-- A meadow; a right one. -/
structure Mw where
  rows : Int
  cols : Int
  need : Int
abbrev dMw (m : Mw) : DV := .agg [i64 m.rows, i64 m.cols, i64 m.need]
structure Mn where
  r : Nat
  c : Nat
  nd : Nat
abbrev dMn (n : Mn) : DV := .agg [i64 (n.r : Int), i64 (n.c : Int), i64 (n.nd : Int)]
structure Mn.Ok (n : Mn) : Prop where
  r1 : 1 ≤ n.r
  r2 : n.r ≤ 6
  c1 : 1 ≤ n.c
  c2 : n.c ≤ 6
  n1 : 1 ≤ n.nd
  n2 : n.nd ≤ 3
abbrev Mn.w (n : Mn) : Mw := ⟨n.r, n.c, n.nd⟩
def Mn.N (n : Mn) : Nat := n.r * n.c
theorem Mn.Ok.N1 {n : Mn} (h : n.Ok) : 1 ≤ n.r * n.c := Nat.mul_le_mul h.r1 h.c1
theorem Mn.Ok.N2 {n : Mn} (h : n.Ok) : n.r * n.c ≤ 36 := Nat.mul_le_mul h.r2 h.c2
def full (n : Mn) : Nat := 2 ^ (n.r * n.c) - 1
theorem full_lt {n : Mn} (h : n.Ok) : full n < 68719476736 := by
  have h1 : 2 ^ (n.r * n.c) ≤ 2 ^ 36 := Nat.pow_le_pow_right (by decide) h.N2
  have h2 : 0 < 2 ^ (n.r * n.c) := Nat.two_pow_pos _
  unfold full
  omega

def fromB (n lo hi : Int) : Bool := decide (lo ≤ n) && decide (n ≤ hi)
def validB (m : Mw) : Bool := fromB m.rows 1 6 && fromB m.cols 1 6 && fromB m.need 1 3
def valid (m : Mw) : Int := if validB m then 0 else 1
theorem valid_n {m : Mw} (h : validB m = true) : ∃ n : Mn, n.Ok ∧ m = n.w := by
  obtain ⟨r, c, d⟩ := m
  simp only [validB, fromB, Bool.and_eq_true, decide_eq_true_eq] at h
  refine ⟨⟨r.toNat, c.toNat, d.toNat⟩, ⟨?_, ?_, ?_, ?_, ?_, ?_⟩, ?_⟩ <;> simp only [Mw.mk.injEq] <;> omega
theorem n_valid {n : Mn} (h : n.Ok) : validB n.w = true := by
  obtain ⟨h1, h2, h3, h4, h5, h6⟩ := h
  simp only [validB, fromB, Bool.and_eq_true, decide_eq_true_eq]
  omega

/-- The bset at which p is true, among the first k. -/
def bset (p : Nat → Bool) : Nat → Nat
  | 0 => 0
  | k + 1 => if p k then bset p k ||| 2 ^ k else bset p k
theorem testBit_bset (p : Nat → Bool) : ∀ k i, (bset p k).testBit i = (decide (i < k) && p i)
  | 0, i => by simp [bset]
  | k + 1, i => by
    simp only [bset]
    have e : (decide (i < k + 1)) = (decide (i < k) || decide (i = k)) := by
      rw [Bool.eq_iff_iff]; simp; omega
    split
    · rename_i h
      rw [Nat.testBit_or, testBit_bset p k, Nat.testBit_two_pow, e]
      by_cases hi : k = i
      · subst hi; simp [h]
      · have : ¬ i = k := fun h => hi h.symm
        simp [hi, this]
    · rename_i h
      rw [testBit_bset p k, e]
      by_cases hi : i = k
      · subst hi; simp [h]
      · simp [hi]
theorem bset_lt (p : Nat → Bool) (k : Nat) : bset p k < 2 ^ k := by
  apply Nat.lt_pow_two_of_testBit
  intro i hi
  rw [testBit_bset]
  simp; omega
theorem bset_lt36 {p : Nat → Bool} {k : Nat} (h : k ≤ 36) : bset p k < 68719476736 := Nat.lt_of_lt_of_le (bset_lt p k) (Nat.pow_le_pow_right (n := 2) (by decide) h)

/-- The neighbors of a square, as the code makes them. -/
def ar1 (n : Mn) (k : Nat) : Nat := if 0 < k / n.c then 0 ||| 2 ^ (k - n.c) else 0
def ar2 (n : Mn) (k : Nat) : Nat := if 0 < k % n.c then ar1 n k ||| 2 ^ (k - 1) else ar1 n k
def ar3 (n : Mn) (k : Nat) : Nat := if k % n.c + 1 < n.c then ar2 n k ||| 2 ^ (k + 1) else ar2 n k
def arN (n : Mn) (k : Nat) : Nat := if k / n.c + 1 < n.r then ar3 n k ||| 2 ^ (k + n.c) else ar3 n k
theorem row_lt {n : Mn} {k : Nat} (hk : k < n.r * n.c) (hc : 0 < n.c) : k / n.c < n.r := Nat.div_lt_of_lt_mul (by rw [Nat.mul_comm]; exact hk)
theorem down_lt {n : Mn} {k : Nat} (hc : 0 < n.c) (h : k / n.c + 1 < n.r) : k + n.c < n.r * n.c := by
  have h1 := Nat.div_add_mod k n.c
  have h2 := Nat.mod_lt k hc
  have h3 := Nat.mul_le_mul_left n.c (show k / n.c + 2 ≤ n.r by omega)
  rw [Nat.mul_comm n.r, Nat.mul_add] at *
  omega
theorem right_lt {n : Mn} {k : Nat} (hk : k < n.r * n.c) (hc : 0 < n.c) (h : k % n.c + 1 < n.c) : k + 1 < n.r * n.c := by
  have h1 := Nat.div_add_mod k n.c
  have h3 := Nat.mul_le_mul_left n.c (show k / n.c + 1 ≤ n.r from row_lt hk hc)
  rw [Nat.mul_comm n.r, Nat.mul_add] at *
  omega
theorem up_le {n : Mn} {k : Nat} (h : 0 < k / n.c) : n.c ≤ k := (Nat.div_pos_iff.1 h).2
theorem left_le {n : Mn} {k : Nat} (h : 0 < k % n.c) : 1 ≤ k := by
  rcases Nat.eq_zero_or_pos k with h1 | h1
  · subst h1; simp at h
  · exact h1
theorem ar1_lt {n : Mn} (h : n.Ok) {k : Nat} (hk : k < n.r * n.c) : ar1 n k < 68719476736 := by
  have := h.N2
  unfold ar1; split
  · exact or36 (by decide) (two36 (by omega))
  · decide
theorem ar2_lt {n : Mn} (h : n.Ok) {k : Nat} (hk : k < n.r * n.c) : ar2 n k < 68719476736 := by
  have := h.N2
  unfold ar2; split
  · exact or36 (ar1_lt h hk) (two36 (by omega))
  · exact ar1_lt h hk
theorem ar3_lt {n : Mn} (h : n.Ok) {k : Nat} (hk : k < n.r * n.c) : ar3 n k < 68719476736 := by
  have := h.N2
  unfold ar3; split
  · rename_i h1
    have := right_lt hk h.c1 h1
    exact or36 (ar2_lt h hk) (two36 (by omega))
  · exact ar2_lt h hk
theorem arN_lt {n : Mn} (h : n.Ok) {k : Nat} (hk : k < n.r * n.c) : arN n k < 68719476736 := by
  have := h.N2
  unfold arN; split
  · rename_i h1
    have := down_lt (k := k) h.c1 h1
    exact or36 (ar3_lt h hk) (two36 (by omega))
  · exact ar3_lt h hk

/-- The dry squares that have enough wet neighbors. -/
def rdB (n : Mn) (w k : Nat) : Bool := !w.testBit k && decide (n.nd ≤ popc (arN n k &&& w))
def rdN (n : Mn) (w : Nat) : Nat := bset (rdB n w) (n.r * n.c)
theorem rdN_lt {n : Mn} (h : n.Ok) {w : Nat} : rdN n w < 68719476736 := bset_lt36 h.N2
/-- What has spread, and in how many steps, if there are at most so many. -/
def sprF (n : Mn) : Nat → Nat → Nat × Nat
  | 0, w => (w, 0)
  | f + 1, w => if rdN n w = 0 then (w, 0) else ((sprF n f (w ||| rdN n w)).1, (sprF n f (w ||| rdN n w)).2 + 1)
def wetOk (n : Mn) (w : Int) : Bool := fromB w 0 (full n)
def wettedR (m : Mw) (w : Int) : Int := if validB m then (if fromB w 0 (2 ^ (m.rows * m.cols).toNat - 1) then 0 else 1) else 1
end Go.Ab.Moss
namespace Go.Ab.Moss
open Go Go.Ab
/-- A list of numbers, as the code has it. -/
def ns (l : List Nat) : List Int := l.map fun (j : Nat) => (j : Int)
theorem ns_len (l : List Nat) : (ns l).length = l.length := by simp [ns]
theorem ns_snoc (l : List Nat) (j : Nat) : ns (l ++ [j]) = ns l ++ [(j : Int)] := by simp [ns]
/-- What is left of a set when so many of its smallest numbers are taken. -/
def rem (x : Nat) : Nat → Nat
  | 0 => x
  | k + 1 => rem x k &&& (rem x k - 1)
theorem rem_le (x : Nat) : ∀ k, rem x k ≤ x
  | 0 => Nat.le_refl _
  | k + 1 => Nat.le_trans Nat.and_le_left (rem_le x k)
theorem bl_rem {x : Nat} (hx : x < 2 ^ 64) : ∀ k, bl (rem x k) = (bl x).drop k
  | 0 => rfl
  | k + 1 => by
    have ih := bl_rem hx k
    have hlt : rem x k < 2 ^ 64 := Nat.lt_of_le_of_lt (rem_le x k) hx
    simp only [rem]
    by_cases h0 : rem x k = 0
    · rw [h0] at ih ⊢
      have : (bl x).length ≤ k := by
        have h1 := congrArg List.length ih
        rw [bl_zero, List.length_drop] at h1
        simp only [List.length_nil] at h1
        omega
      rw [List.drop_eq_nil_of_le (by omega)]
      exact bl_zero
    · rw [bl_step h0 hlt] at ih
      rw [← List.tail_drop, ← ih, List.tail_cons]
theorem rem_zero {x : Nat} (hx : x < 2 ^ 64) {k : Nat} : rem x k = 0 ↔ (bl x).length ≤ k := by
  have h := bl_rem hx k
  have hlt : rem x k < 2 ^ 64 := Nat.lt_of_le_of_lt (rem_le x k) hx
  constructor
  · intro h0
    rw [h0, bl_zero] at h
    have h1 := congrArg List.length h
    rw [List.length_drop] at h1
    simp only [List.length_nil] at h1
    omega
  · intro hk
    rcases Nat.eq_zero_or_pos (rem x k) with h0 | h0
    · exact h0
    · rw [List.drop_eq_nil_of_le hk, bl_step (by omega) hlt] at h
      cases h
theorem bl_get {x : Nat} (hx : x < 2 ^ 64) {k : Nat} (h0 : rem x k ≠ 0) : (bl x)[k]? = some (tz (rem x k)) := by
  have h := bl_rem hx k
  have hlt : rem x k < 2 ^ 64 := Nat.lt_of_le_of_lt (rem_le x k) hx
  rw [bl_step h0 hlt] at h
  have := congrArg List.head? h
  simpa [List.head?_drop] using this.symm
theorem bl_take {x : Nat} (hx : x < 2 ^ 64) {k : Nat} (h0 : rem x k ≠ 0) : ns ((bl x).take (k + 1)) = ns ((bl x).take k) ++ [(tz (rem x k) : Int)] := by
  rw [← ns_snoc, List.take_succ, bl_get hx h0]; rfl
theorem bl_len {x : Nat} : (bl x).length ≤ 64 := by rw [bl_length]; exact Nat.le_trans List.countP_le_length (by simp)
end Go.Ab.Moss
