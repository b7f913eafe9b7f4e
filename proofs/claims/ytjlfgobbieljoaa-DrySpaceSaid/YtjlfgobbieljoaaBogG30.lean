/- Dry29, Ab45, Ab46, Dry30. -/
import Derived.Test.YtjlfgobbieljoaaBogG28
import Derived.Test.YtjlfgobbieljoaaBogG29
import Derived.Test.YtjlfgobbieljoaaBogG10
import Derived.Test.YtjlfgobbieljoaaBogG26
set_option linter.all false
set_option linter.all false
namespace Go.Ab.Try
open Go Go.Ab Go.Proofs
structure Shr (y : Yd) : Prop where
  n : y.steps.length ≤ 100
  r : ∀ s ∈ y.steps, s.take.length ≤ 100 ∧ s.give.length ≤ 100
theorem Shr.of {y : Yd} (h : Long y = false) : Shr y := by
  simp only [Long, Bool.or_eq_false_iff, decide_eq_false_iff_not, List.any_eq_false, Bool.or_eq_true, decide_eq_true_eq, not_or] at h
  exact ⟨by omega, fun s hs => by have := h.2 s hs; omega⟩
end Go.Ab.Try
set_option linter.all false
set_option linter.unusedSimpArgs false
namespace Go.Ab
open Go.RowKit
abbrev i64 (n : Int) : DV := .int .i64 n
abbrev u64 (n : Int) : DV := .int .u64 n
abbrev rowI (L : List Int) : Blk := rowK .i64 3 L
abbrev rI (L : List Int) : R1 := rK .i64 3 L
abbrev ints (l : List Int) : DV := .list (l.map (DV.int .i64))
section
variable {F : Fence} {n : Nat} {P : Program} {Q : Exit → Act → World → Prop} {a : Act} {w : World}
end
section
variable {cx : Cx} {S S0 : St}
end
section
variable {cx : Cx} {S : St} {a : Act} {w : World} {o : Oper}
theorem SimU.noViews {μ : Nat → Option (Nat × Nat)} (h : SimU cx S a w μ) : SimU cx ⟨S.F, noViews S.M⟩ a w μ := h.weak (fun i => .inr rfl) fun t => by
  show Ab.noViews S.M t = S.M t ∨ Ab.noViews S.M t = ((S.M t).1, none)
  unfold Ab.noViews
  cases hq : (S.M t).2 with
  | none => exact .inl rfl
  | some b' =>
    simp only
    split
    · exact .inr rfl
    · exact .inl rfl
end
end Go.Ab
set_option linter.all false
set_option linter.unusedVariables false
namespace Go.Ab
open Go.RowKit
section
variable {cx : Cx} {S : St} {a : Act} {w : World} {o : Oper}
end
section
variable {cx : Cx} {P : Program} {N : Nat} {ops : Array Oper} {rest : List Oper} {l : List (Nat × SV)} {m m' : List (Nat × Nat × Option Blk)} {K : St → Prop} {KD : List It → St → Prop} {its : List It}
  {d : Nat} {ty ty' : TypeId} {p : String} {af : Array Edge} {gd : Option (Nat × Bool)} {x y lo hi mx : Operand} {t e ey : TypeId} {tg g n st : Nat} {k : IntKind} {L L0 : List Int}
end
end Go.Ab
set_option linter.all false
namespace Go.Ab.Try
open Go Go.Ab Go.Proofs
end Go.Ab.Try
