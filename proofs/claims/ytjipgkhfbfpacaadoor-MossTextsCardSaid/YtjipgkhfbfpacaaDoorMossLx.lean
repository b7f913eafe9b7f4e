/- The library's functions, laid at the program. -/
import Derived.Test.YtjipgkhfbfpacaaDoorMossFacts
import Derived.Shelf.Lay
import Derived.Ground.NamesProg
import Derived.Shelf.Strings.Cut
import Derived.Shelf.Strings.Split
import Derived.Shelf.Strconv.AtoiAll
import Derived.Shelf.Strconv.Itoa3
set_option linter.all false
namespace Go.Proofs
open Go.Shelf Go.RowKit
shelf_lay Lays.n145 Nm 145 at Tryd as Tryd.laysCut
shelf_lay Lays.n146 Nm 146 at Tryd as Tryd.laysSplit
shelf_lay LaysC.n172 Nm 172 at Tryd as Tryd.laysAtoi
shelf_lay Lays.n171 Nm 171 at Tryd as Tryd.laysItoa
end Go.Proofs
