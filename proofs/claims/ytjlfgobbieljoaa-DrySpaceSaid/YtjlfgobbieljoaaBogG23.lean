/- Dry12, DryL1. -/
import Derived.Test.YtjlfgobbieljoaaBogG22
import Derived.Test.YtjlfgobbieljoaaBogG13
set_option linter.all false
set_option linter.all false
namespace Go.Ab.Try
open Go Go.Ab Go.Proofs
end Go.Ab.Try
set_option linter.all false
namespace Go.Ab.Try
open Go Go.Ab Go.Proofs
def mx (a b : Int) : Int := if b > a then b else a
theorem take_snoc {α : Type} {l : List α} {i : Nat} {v : α} (h : l[i]? = some v) : l.take (i + 1) = l.take i ++ [v] := by
  rw [List.take_add_one, h]; rfl
end Go.Ab.Try
