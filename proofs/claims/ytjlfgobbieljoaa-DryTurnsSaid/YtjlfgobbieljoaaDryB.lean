/- Dry17, Dry18, Dry19. -/
import Derived.Test.YtjlfgobbieljoaaDryA
import Derived.Test.YtjlfgobbieljoaaAbG
import Derived.Test.YtjlfgobbieljoaaDryT
import Derived.Test.YtjlfgobbieljoaaAbH
import Derived.Test.YtjlfgobbieljoaaAbH
set_option linter.all false
set_option linter.all false
namespace Go.Ab.Try
open Go Go.Ab Go.Proofs
end Go.Ab.Try
set_option linter.all false
namespace Go.Ab.Try
open Go Go.Ab Go.Proofs
end Go.Ab.Try
set_option linter.all false
namespace Go.Ab.Try
open Go Go.Ab Go.Proofs
end Go.Ab.Try
