/- The abstract layer, part 46: moves for copy, for the append in place, for a cut with three bounds that nobody looks at. Written by wip/gen/ab46.py. -/
import Derived.Test.YtjlfgobbieljoaaAb45
set_option linter.all false
set_option linter.unusedVariables false
namespace Go.Ab
open Go.RowKit
section
variable {cx : Cx} {S : St} {a : Act} {w : World} {o : Oper}
end
section
variable {cx : Cx} {P : Program} {N : Nat} {ops : Array Oper} {rest : List Oper} {l : List (Nat × SV)} {m m' : List (Nat × Nat × Option Blk)} {K : St → Prop} {KD : List It → St → Prop} {its : List It}
  {d : Nat} {ty ty' : TypeId} {p : String} {af : Array Edge} {gd : Option (Nat × Bool)} {x y lo hi mx : Operand} {t e ey : TypeId} {tg g n st : Nat} {k : IntKind} {L L0 : List Int}
end
end Go.Ab
