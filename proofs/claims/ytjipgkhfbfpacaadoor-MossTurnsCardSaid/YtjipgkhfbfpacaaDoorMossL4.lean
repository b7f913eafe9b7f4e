/- The plain laws of moss: what a turn does to what spreads. -/
import Derived.Test.YtjipgkhfbfpacaaDoorMoss28
set_option linter.all false
namespace Go.Ab.Tryd
open Go Go.Ab Go.Proofs Go.Ab.Moss

theorem sumN_ind {f : Nat → Int} {a : Nat} : ∀ {N : Nat}, sumN (fun k => if k = a then f k else 0) N = if a < N then f a else 0
  | 0 => by simp [sumN]
  | N + 1 => by
    simp only [sumN]
    rw [sumN_ind]
    by_cases h1 : N = a
    · subst h1; simp
    · rw [if_neg h1]
      by_cases h2 : a < N
      · rw [if_pos h2, if_pos (by omega)]; omega
      · rw [if_neg h2, if_neg (by omega)]; omega
/-- A renaming of squares that keeps neighbors. -/
structure Ren (n n' : Mn) (g h : Nat → Nat) : Prop where
  ok : n.Ok
  ok' : n'.Ok
  gN : ∀ k, k < n.r * n.c → g k < n'.r * n'.c
  hN : ∀ j, j < n'.r * n'.c → h j < n.r * n.c
  gh : ∀ j, j < n'.r * n'.c → g (h j) = j
  hg : ∀ k, k < n.r * n.c → h (g k) = k
  adj : ∀ k j, k < n.r * n.c → j < n.r * n.c → adjB n' (g k) (g j) = adjB n k j
  nd : n'.nd = n.nd
section
variable {n n' : Mn} {g h : Nat → Nat} {v : Nat}
theorem mov_bit {j : Nat} : ∀ {K : Nat}, (movF v g K).testBit j = true ↔ ∃ k, k < K ∧ v.testBit k = true ∧ g k = j
  | 0 => by simp [movF]
  | K + 1 => by
    simp only [movF]
    by_cases hv : v.testBit K = true
    · rw [if_pos hv, Nat.testBit_or, Bool.or_eq_true, mov_bit, Nat.testBit_two_pow, decide_eq_true_eq]
      constructor
      · rintro (⟨k, h1, h2, h3⟩ | h1)
        · exact ⟨k, by omega, h2, h3⟩
        · exact ⟨K, by omega, hv, h1⟩
      · rintro ⟨k, h1, h2, h3⟩
        by_cases hk : k < K
        · exact .inl ⟨k, hk, h2, h3⟩
        · obtain rfl : k = K := by omega
          exact .inr h3
    · rw [if_neg hv, mov_bit]
      constructor
      · rintro ⟨k, h1, h2, h3⟩; exact ⟨k, by omega, h2, h3⟩
      · rintro ⟨k, h1, h2, h3⟩
        by_cases hk : k < K
        · exact ⟨k, hk, h2, h3⟩
        · obtain rfl : k = K := by omega
          exact absurd h2 hv
theorem Ren.bit (R : Ren n n' g h) {k : Nat} (hk : k < n.r * n.c) : (movF v g (n.r * n.c)).testBit (g k) = v.testBit k := by
  rw [Bool.eq_iff_iff, mov_bit]
  constructor
  · rintro ⟨i, h1, h2, h3⟩
    have := R.hg i h1
    rw [h3, R.hg k hk] at this
    rw [this]; exact h2
  · exact fun h1 => ⟨k, hk, h1, rfl⟩
theorem Ren.full (R : Ren n n' g h) : movF v g (n.r * n.c) ≤ full n' := le_full_iff.2 fun j hj => by
  obtain ⟨k, h1, _, rfl⟩ := mov_bit.1 hj
  exact R.gN k h1
theorem Ren.sum (R : Ren n n' g h) (f : Nat → Int) : sumN f (n'.r * n'.c) = sumN (fun k => f (g k)) (n.r * n.c) := by
  have e1 : sumN f (n'.r * n'.c) = sumN (fun j => sumN (fun k => if k = h j then f j else 0) (n.r * n.c)) (n'.r * n'.c) := sumN_congr fun j hj => by
    rw [sumN_ind (f := fun _ => f j), if_pos (R.hN j hj)]
  rw [e1, sumN_swap]
  refine sumN_congr fun k hk => ?_
  have e2 : sumN (fun j => if k = h j then f j else 0) (n'.r * n'.c) = sumN (fun j => if j = g k then f j else 0) (n'.r * n'.c) := sumN_congr fun j hj => by
    have e : (k = h j) ↔ (j = g k) := by
      constructor
      · rintro rfl; exact (R.gh j hj).symm
      · rintro rfl; exact (R.hg k hk).symm
    simp only [e]
  rw [e2, sumN_ind, if_pos (R.gN k hk)]
theorem Ren.cnt (R : Ren n n' g h) {k : Nat} (hk : k < n.r * n.c) : cntR n' (movF v g (n.r * n.c)) (g k) = cntR n v k := by
  have e : (cntR n' (movF v g (n.r * n.c)) (g k) : Int) = (cntR n v k : Int) := by
    rw [cnt_sum, cnt_sum, R.sum]
    exact sumN_congr fun i hi => by rw [R.bit hi, R.adj k i hk hi]
  omega
theorem Ren.rd (R : Ren n n' g h) {k : Nat} (hk : k < n.r * n.c) : rdB n' (movF v g (n.r * n.c)) (g k) = rdB n v k := by
  rw [rdB_eq R.ok' (R.gN k hk), rdB_eq R.ok hk, R.bit hk, R.cnt hk, R.nd]
theorem Ren.step (R : Ren n n' g h) : movF v g (n.r * n.c) ||| rdN n' (movF v g (n.r * n.c)) = movF (v ||| rdN n v) g (n.r * n.c) := by
  apply Nat.eq_of_testBit_eq
  intro j
  by_cases hj : j < n'.r * n'.c
  · have h1 := R.hN j hj
    rw [← R.gh j hj, R.bit h1, Nat.testBit_or, R.bit h1, Nat.testBit_or, rdN_bit, rdN_bit, R.rd h1, R.gh j hj]
    simp [hj, h1]
  · have z : ∀ x, x ≤ Moss.full n' → x.testBit j = false := fun x hx => by
      cases hb : x.testBit j with
      | false => rfl
      | true => exact absurd (bit_lt hx hb) hj
    rw [z _ (or_full R.full rd_full), z _ R.full]
end
abbrev tn (n : Mn) : Mn := ⟨n.c, n.r, n.nd⟩
theorem turn_div {n : Mn} (ok : n.Ok) {k : Nat} (hk : k < n.r * n.c) : turnK n k / n.r = k % n.c ∧ turnK n k % n.r = n.r - 1 - k / n.c := by
  have h1 := row_lt hk ok.c1
  have hb : n.r - 1 - k / n.c < n.r := by have := ok.r1; generalize k / n.c = a at *; omega
  unfold turnK
  have hp : 0 < n.r := ok.r1
  constructor
  · rw [Nat.mul_comm, Nat.mul_add_div hp, Nat.div_eq_of_lt hb, Nat.add_zero]
  · rw [Nat.mul_comm, Nat.mul_add_mod, Nat.mod_eq_of_lt hb]
theorem mir_div {n : Mn} (ok : n.Ok) {k : Nat} (hk : k < n.r * n.c) : mirK n k / n.c = k / n.c ∧ mirK n k % n.c = n.c - 1 - k % n.c := by
  have h1 := Nat.mod_lt k ok.c1
  have hb : n.c - 1 - k % n.c < n.c := by have := ok.c1; generalize k % n.c = a at *; omega
  unfold mirK
  have hp : 0 < n.c := ok.c1
  constructor
  · rw [Nat.mul_comm, Nat.mul_add_div hp, Nat.div_eq_of_lt hb, Nat.add_zero]
  · rw [Nat.mul_comm, Nat.mul_add_mod, Nat.mod_eq_of_lt hb]
theorem ren_mir {n : Mn} (ok : n.Ok) : Ren n n (mirK n) (mirK n) := by
  have inv : ∀ k, k < n.r * n.c → mirK n (mirK n k) = k := fun k hk => by
    obtain ⟨h1, h2⟩ := mir_div ok hk
    have h3 := Nat.mod_lt k ok.c1
    have h4 := Nat.div_add_mod k n.c
    have e : mirK n (mirK n k) = mirK n k / n.c * n.c + (n.c - 1 - mirK n k % n.c) := rfl
    rw [e, h1, h2, Nat.mul_comm]
    generalize k % n.c = a at *
    generalize n.c * (k / n.c) = b at *
    omega
  refine ⟨ok, ok, fun k hk => mirK_lt ok hk, fun k hk => mirK_lt ok hk, inv, inv, fun k j hk hj => ?_, rfl⟩
  obtain ⟨a1, a2⟩ := mir_div ok hk
  obtain ⟨b1, b2⟩ := mir_div ok hj
  have h3 := Nat.mod_lt k ok.c1
  have h4 := Nat.mod_lt j ok.c1
  have e1 : dr n (mirK n j) (mirK n k) = dr n j k := by unfold dr; rw [a1, b1]
  have e2 : dc n (mirK n j) (mirK n k) = -dc n j k := by
    unfold dc; rw [a2, b2]
    generalize k % n.c = a at *
    generalize j % n.c = b at *
    omega
  unfold adjB
  rw [e1, e2]
  simp only [Int.neg_mul_neg]
def turnH (n : Mn) (j : Nat) : Nat := (n.r - 1 - j % n.r) * n.c + j / n.r
theorem ren_turn {n : Mn} (ok : n.Ok) : Ren n (tn n) (turnK n) (turnH n) := by
  have ok' : (tn n).Ok := ⟨ok.c1, ok.c2, ok.r1, ok.r2, ok.n1, ok.n2⟩
  have hh : ∀ j, j < n.c * n.r → turnH n j / n.c = n.r - 1 - j % n.r ∧ turnH n j % n.c = j / n.r ∧ j / n.r < n.c := fun j hj => by
    have h1 : j / n.r < n.c := Nat.div_lt_of_lt_mul (by rw [Nat.mul_comm]; exact hj)
    unfold turnH
    refine ⟨?_, ?_, h1⟩
    · rw [Nat.mul_comm, Nat.mul_add_div ok.c1, Nat.div_eq_of_lt h1, Nat.add_zero]
    · rw [Nat.mul_comm, Nat.mul_add_mod, Nat.mod_eq_of_lt h1]
  refine ⟨ok, ok', fun k hk => by have := turnK_lt ok hk; rw [Nat.mul_comm] at this; exact this, fun j hj => ?_, fun j hj => ?_, fun k hk => ?_, fun k j hk hj => ?_, rfl⟩
  · obtain ⟨_, _, h3⟩ := hh j hj
    have h4 := Nat.mod_lt j ok.r1
    have h5 : (n.r - 1 - j % n.r + 1) * n.c ≤ n.r * n.c := Nat.mul_le_mul_right _ (by generalize j % n.r = a at *; omega)
    rw [Nat.succ_mul] at h5
    unfold turnH
    generalize (n.r - 1 - j % n.r) * n.c = a at *
    generalize j / n.r = b at *
    omega
  · obtain ⟨h1, h2, h3⟩ := hh j hj
    have h4 := Nat.mod_lt j ok.r1
    have h5 := Nat.div_add_mod j n.r
    show turnH n j % n.c * n.r + (n.r - 1 - turnH n j / n.c) = j
    rw [h1, h2, Nat.mul_comm]
    generalize j % n.r = a at *
    generalize n.r * (j / n.r) = b at *
    omega
  · obtain ⟨h1, h2⟩ := turn_div ok hk
    have h3 := row_lt hk ok.c1
    have h5 := Nat.div_add_mod k n.c
    show (n.r - 1 - turnK n k % n.r) * n.c + turnK n k / n.r = k
    rw [h1, h2]
    have e : n.r - 1 - (n.r - 1 - k / n.c) = k / n.c := by generalize k / n.c = a at *; omega
    rw [e, Nat.mul_comm]; exact h5
  · obtain ⟨a1, a2⟩ := turn_div ok hk
    obtain ⟨b1, b2⟩ := turn_div ok hj
    have h3 := row_lt hk ok.c1
    have h4 := row_lt hj ok.c1
    have e1 : dr (tn n) (turnK n j) (turnK n k) = dc n j k := by show ((turnK n j / n.r : Nat) : Int) - ((turnK n k / n.r : Nat) : Int) = _; rw [a1, b1]; rfl
    have e2 : dc (tn n) (turnK n j) (turnK n k) = -dr n j k := by
      show ((turnK n j % n.r : Nat) : Int) - ((turnK n k % n.r : Nat) : Int) = _
      rw [a2, b2]; unfold dr
      generalize k / n.c = a at *
      generalize j / n.c = b at *
      omega
    unfold adjB
    rw [e1, e2]
    simp only [Int.neg_mul_neg]
    rw [Int.add_comm]
end Go.Ab.Tryd
