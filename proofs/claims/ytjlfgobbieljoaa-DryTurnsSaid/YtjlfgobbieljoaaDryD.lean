/- Dry22, Dry23, Dry24. -/
import Derived.Test.YtjlfgobbieljoaaDryC
import Derived.Test.YtjlfgobbieljoaaAbH
import Derived.Test.YtjlfgobbieljoaaDryT
set_option linter.all false
set_option linter.all false
namespace Go.Ab.Try
open Go Go.Ab Go.Proofs
end Go.Ab.Try
set_option linter.all false
namespace Go.Ab.Try
open Go Go.Ab Go.Proofs
end Go.Ab.Try
set_option linter.all false
namespace Go.Ab.Try
open Go Go.Ab Go.Proofs
structure Wk where
  m : List Int
  c : List Int
end Go.Ab.Try
