/- The dry laws in plain data: what a list of steps makes of a filling. -/
import Derived.Test.YtjlfgobbieljoaaDry12
set_option linter.all false
namespace Go.Ab.Try
open Go Go.Ab Go.Proofs
theorem runR_ok {y : Yd} {m l : List Int} (h : (runR y m l).2.2 = 0) : VYd y ∧ VM y m ∧ l.length ≤ 40 ∧ (∀ x ∈ l, 0 ≤ x ∧ x < y.steps.length) ∧ filledE y [m] = 0 ∧ listedE y l = 0 ∧ runR y m l = runFrom y m l 0 := by
  have e : runR y m l = if filledE y [m] ≠ 0 then ([], 0, filledE y [m]) else if listedE y l ≠ 0 then ([], 0, listedE y l) else runFrom y m l 0 := rfl
  by_cases h1 : filledE y [m] = 0
  · rw [if_neg (by simp [h1])] at e
    by_cases h2 : listedE y l = 0
    · rw [if_neg (by simp [h2])] at e
      obtain ⟨hv, hm⟩ := filled_ok h1
      obtain ⟨h3, h4⟩ := listed_ok h2
      exact ⟨hv, hm, h3, h4, h1, h2, e⟩
    · rw [if_pos h2] at e; rw [e] at h; exact absurd h h2
  · rw [if_pos h1] at e; rw [e] at h; exact absurd h h1
theorem moved_getD {s : Stp} {m : List Int} {p : Nat} (h : p < m.length) : (moved s m).getD p 0 = m.getD p 0 + dAt s p := by
  simp [moved, dAt, h]
def sumD (y : Yd) : List Int → Nat → Int
  | [], _ => 0
  | s :: l, p => dAt (stepAt y s) p + sumD y l p
theorem run_pt {y : Yd} (hv : VYd y) : ∀ (l m : List Int) (i : Nat), VM y m → (∀ x ∈ l, 0 ≤ x ∧ x < y.steps.length) → (runFrom y m l i).2.2 = 0 →
    VM y (runFrom y m l i).1 ∧ ∀ p, p < m.length → (runFrom y m l i).1.getD p 0 = m.getD p 0 + sumD y l p
  | [], m, i, hm, _, _ => by simp [runFrom, hm, sumD]
  | s :: l, m, i, hm, hl, h => by
    obtain ⟨s0, s1⟩ := hl s (by simp)
    simp only [runFrom] at h ⊢
    split at h
    · rename_i h1; exact absurd h h1
    · rename_i h1
      rw [if_neg h1]
      obtain ⟨a1, a2, a3⟩ := after_vm hv hm s0 s1 (by simpa using h1)
      obtain ⟨r1, r2⟩ := run_pt hv l _ (i + 1) a1 (fun x hx => hl x (by simp [hx])) h
      refine ⟨r1, fun p hp => ?_⟩
      have e1 := allIn_len hm
      have e2 := allIn_len a1
      rw [r2 p (by omega), a2, moved_getD hp]
      simp only [sumD]
      omega
def mx (a b : Int) : Int := if b > a then b else a
theorem take_snoc {α : Type} {l : List α} {i : Nat} {v : α} (h : l[i]? = some v) : l.take (i + 1) = l.take i ++ [v] := by
  rw [List.take_add_one, h]; rfl
theorem filledE_of {y : Yd} {m : List Int} (hv : VYd y) (hm : VM y m) : filledE y [m] = 0 := by
  have hv' : validate y = 0 := hv
  have hm' : allIn m y.places 0 50 = true := hm
  simp [filledE, hv', hm']
end Go.Ab.Try
