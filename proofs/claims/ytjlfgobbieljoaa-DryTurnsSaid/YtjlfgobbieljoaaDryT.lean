/- The dry laws' arguments as plain data. -/
import Derived.Test.YtjlfgobbieljoaaDryPA
set_option linter.all false
namespace Go.Ab.Try
open Go Go.Ab Go.Proofs
structure Pr where
  m : List Int
  goal : List Int
abbrev dPr (x : Pr) : DV := .agg [ints x.m, ints x.goal]
structure Pl where
  counts : List Int
  most : Int
structure Mv where
  list : List Int
  weights : List Int
  set : List Int
end Go.Ab.Try
