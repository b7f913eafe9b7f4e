/- The functions of the dry laws, part 30. The walks are written by wip/gen/gw.py. -/
import Derived.Test.YtjlfgobbieljoaaDry29
import Derived.Test.YtjlfgobbieljoaaAb46
import Derived.Test.YtjlfgobbieljoaaDryT
set_option linter.all false
namespace Go.Ab.Try
open Go Go.Ab Go.Proofs
def rwT (l : List Int) (n : Nat) : List Int := l.reverse.take (l.length - n)
theorem rwT_all {l : List Int} : rwT l l.length = [] := by simp [rwT]
theorem rwT_nil {l : List Int} : rwT l 0 = l.reverse := List.take_of_length_le (by simp)
theorem rwT_len {l : List Int} {n : Nat} : (rwT l n).length = l.length - n := by simp [rwT]
theorem rwT_next {l : List Int} {k : Nat} (hk : k < l.length) : rwT l k = rwT l (k + 1) ++ [sg l k] := by
  unfold rwT
  have e : l.length - k = (l.length - (k + 1)) + 1 := by omega
  rw [e, take_snoc]
  rw [List.getElem?_reverse (by omega), show l.length - 1 - (l.length - (k + 1)) = k by omega]
  exact sg_get hk
theorem f40v (y : Yd) (hv : VYd y) : ACalls Try.prog 40 [dYd y] (.many [.dv (dYd (turnY y)), .dv (i64 0)]) := by
  have h := f40 y
  rw [turn_ok hv] at h
  exact h
theorem turn_turn (y : Yd) : turnY (turnY y) = y := by
  cases y with
  | mk pl l =>
    show (⟨pl, (l.map turnS).map turnS⟩ : Yd) = ⟨pl, l⟩
    rw [List.map_map]
    have : (turnS ∘ turnS) = id := by funext s; rfl
    rw [this, List.map_id]
theorem turn_sets {y : Yd} (hv : VYd y) (g : List Int) : isTrapR (turnY y) g = isSiphR y g := by
  have hp : placedE (turnY y) g = placedE y g := by
    have h1 : validate y = 0 := hv
    have h2 : validate (turnY y) = 0 := turn_valid hv
    unfold placedE
    rw [h1, h2]; rfl
  unfold isTrapR isSiphR
  rw [hp, ← srt_turn, turn_turn]
theorem turn_run {y : Yd} {m l : List Int} (h : (runR y m l).2.2 = 0) : (runR (turnY y) (runR y m l).1 l.reverse).2.2 = 0 ∧ (runR (turnY y) (runR y m l).1 l.reverse).1 = m ∧ m.length ≤ 6 := by
  obtain ⟨hv, hm, _⟩ := runR_ok h
  have := allIn_len hm
  have := (validate_ok hv).2.1
  exact ⟨(back_top h).1, (back_top h).2, by omega⟩
end Go.Ab.Try
