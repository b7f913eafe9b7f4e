/- The abstract layer, part 44: a call in a region that draws, ahead of which a block is frozen. -/
import Derived.Test.YtjlfgobbieljoaaAbH
set_option linter.all false
set_option linter.unusedSimpArgs false
namespace Go.Ab
open Go.RowKit
section
variable {cx : Cx} {P : Program} {N : Nat} {ops : Array Oper} {rest : List Oper} {l : List (Nat × SV)} {m : List (Nat × Nat × Option Blk)} {KD : List It → St → Prop} {its : List It}
  {d : Nat} {ty : TypeId} {p : String} {af : Array Edge}
end
end Go.Ab
