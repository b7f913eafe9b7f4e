/- DryX0, DryX1. -/
import Derived.Test.YtjlfgobbieljoaaBogG30
import Derived.Test.YtjlfgobbieljoaaBogG30
import Derived.Test.YtjlfgobbieljoaaBogG10
set_option linter.all false
set_option linter.all false
namespace Go.Ab.Try
open Go Go.Ab Go.Proofs
end Go.Ab.Try
set_option linter.all false
namespace Go.Ab.Try
open Go Go.Ab Go.Proofs
end Go.Ab.Try
