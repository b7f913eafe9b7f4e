/- The functions of the dry laws, part 11. The walks are written by wip/gen/gw.py. -/
import Derived.Test.YtjlfgobbieljoaaDry10
import Derived.Test.YtjlfgobbieljoaaAb26
set_option linter.all false
namespace Go.Ab.Try
open Go Go.Ab Go.Proofs
def dAt (s : Stp) (q : Nat) : Int := s.give.getD q 0 - s.take.getD q 0
end Go.Ab.Try
