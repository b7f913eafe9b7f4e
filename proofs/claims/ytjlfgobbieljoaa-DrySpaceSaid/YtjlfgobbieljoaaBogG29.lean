/- Dry22, Dry23, Dry24, DryL4. -/
import Derived.Test.YtjlfgobbieljoaaBogG28
import Derived.Test.YtjlfgobbieljoaaBogG26
import Derived.Test.YtjlfgobbieljoaaBogG10
import Derived.Test.YtjlfgobbieljoaaBogG28
import Derived.Test.YtjlfgobbieljoaaBogG23
set_option linter.all false
set_option linter.all false
namespace Go.Ab.Try
open Go Go.Ab Go.Proofs
end Go.Ab.Try
set_option linter.all false
namespace Go.Ab.Try
open Go Go.Ab Go.Proofs
end Go.Ab.Try
set_option linter.all false
namespace Go.Ab.Try
open Go Go.Ab Go.Proofs
structure Wk where
  m : List Int
  c : List Int
end Go.Ab.Try
set_option linter.all false
namespace Go.Ab.Try
open Go Go.Ab Go.Proofs
structure Sk where
  p : List Int
  m : List Int
  c : List Int
theorem turn_len {y : Yd} : (turnY y).steps.length = y.steps.length := by simp [turnY]
theorem turn_valid {y : Yd} (hv : VYd y) : VYd (turnY y) := by
  have h : validate y = 0 := hv
  show validate (turnY y) = 0
  unfold validate at h ⊢
  have e : (turnY y).places = y.places := rfl
  rw [e, turn_len]
  split at h
  · cases h
  · rename_i h1
    rw [if_neg h1]
    split at h
    · cases h
    · rename_i h2
      rw [if_neg h2]
      split at h
      · rename_i h3
        rw [if_pos]
        rw [List.all_eq_true] at h3 ⊢
        intro s hs
        obtain ⟨t, ht, rfl⟩ := List.mem_map.1 hs
        have := h3 t ht
        simp only [okStp, turnS, Bool.and_eq_true] at this ⊢
        exact ⟨this.2, this.1⟩
      · cases h
end Go.Ab.Try
