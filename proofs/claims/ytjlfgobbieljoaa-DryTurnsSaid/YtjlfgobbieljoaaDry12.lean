/- The functions of the dry laws, part 12. The walks are written by wip/gen/gw.py. -/
import Derived.Test.YtjlfgobbieljoaaDry11
import Derived.Test.YtjlfgobbieljoaaAb26
set_option linter.all false
namespace Go.Ab.Try
open Go Go.Ab Go.Proofs
end Go.Ab.Try
