/- The abstract layer, part 41: a struct of three fields, read as plain data. -/
import Derived.Test.YtapabnafbfnjnaaAbF
import Derived.Deep.Strs
set_option linter.all false
namespace Go.Ab
open Go.ChangeShapes Go.WideShapes Go.ChangeAt Go.RowKit
variable {H : Type} {enc : TypeId × Value → H} {P : Program} {W : World} {t : TypeId} {α β γ : Type} {F : α → DV} {G : β → DV} {E : γ → DV}
end Go.Ab
