/- The functions of the dry laws, part 13. The walks are written by wip/gen/gw.py. -/
import Derived.Test.YtjlfgobbieljoaaDryL1
import Derived.Test.YtjlfgobbieljoaaAb26
import Derived.Test.YtjlfgobbieljoaaDryT
set_option linter.all false
namespace Go.Ab.Try
open Go Go.Ab Go.Proofs
end Go.Ab.Try
