/- Dry10, Dry11. -/
import Derived.Test.YtjlfgobbieljoaaBogG21
import Derived.Test.YtjlfgobbieljoaaBogG13
set_option linter.all false
set_option linter.all false
namespace Go.Ab.Try
open Go Go.Ab Go.Proofs
end Go.Ab.Try
set_option linter.all false
namespace Go.Ab.Try
open Go Go.Ab Go.Proofs
end Go.Ab.Try
