/- The functions of the dry laws, part 14. The walks are written by wip/gen/gw.py. -/
import Derived.Test.YtjlfgobbieljoaaDry13
import Derived.Test.YtjlfgobbieljoaaAbG
set_option linter.all false
namespace Go.Ab.Try
open Go Go.Ab Go.Proofs
end Go.Ab.Try
