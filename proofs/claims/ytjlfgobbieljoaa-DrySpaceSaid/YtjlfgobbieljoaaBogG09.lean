/- DryFacts. -/
import Derived.Test.YtjlfgobbieljoaaBogG08
import Derived.Test.YtjlfgobbieljoaaProg
set_option linter.all false
set_option linter.all false
namespace Go.Ab.Try
open Go Go.Ab Go.Proofs
theorem sz3 : szP Try.prog 3 = some 1 := by kernel_rfl
theorem by3 : bytesP Try.prog 3 = some 8 := by kernel_rfl
theorem ag3 : aggP Try.prog 3 = some false := by kernel_rfl
theorem kd3 : kindP Try.prog 3 = some IntKind.i64 := by kernel_rfl
theorem ze3 : zeroP Try.prog 3 = some [SV.dv (DV.int IntKind.i64 0)] := by kernel_rfl
theorem sz22 : szP Try.prog 22 = some 1 := by kernel_rfl
theorem ag22 : aggP Try.prog 22 = some false := by kernel_rfl
theorem el22 : elemP Try.prog 22 = some 55 := by kernel_rfl
theorem il22 : isSliceP Try.prog 22 = true := by kernel_rfl
theorem sz24 : szP Try.prog 24 = some 2 := by kernel_rfl
theorem ag24 : aggP Try.prog 24 = some true := by kernel_rfl
theorem pl24 : placesP Try.prog 24 = some [(0, 1), (1, 1)] := by kernel_rfl
theorem fd24_0 : fieldP Try.prog 24 0 = some 0 := by kernel_rfl
theorem fd24_1 : fieldP Try.prog 24 1 = some 1 := by kernel_rfl
theorem ze24 : zeroP Try.prog 24 = some [SV.dv (DV.int IntKind.i64 0), SV.nils] := by kernel_rfl
theorem sz25 : szP Try.prog 25 = some 1 := by kernel_rfl
theorem by25 : bytesP Try.prog 25 = some 24 := by kernel_rfl
theorem ag25 : aggP Try.prog 25 = some false := by kernel_rfl
theorem el25 : elemP Try.prog 25 = some 3 := by kernel_rfl
theorem ze25 : zeroP Try.prog 25 = some [SV.nils] := by kernel_rfl
theorem il25 : isSliceP Try.prog 25 = true := by kernel_rfl
theorem sz55 : szP Try.prog 55 = some 2 := by kernel_rfl
theorem by55 : bytesP Try.prog 55 = some 48 := by kernel_rfl
theorem ag55 : aggP Try.prog 55 = some true := by kernel_rfl
theorem pl55 : placesP Try.prog 55 = some [(0, 1), (1, 1)] := by kernel_rfl
theorem fd55_0 : fieldP Try.prog 55 0 = some 0 := by kernel_rfl
theorem fd55_1 : fieldP Try.prog 55 1 = some 1 := by kernel_rfl
theorem ze55 : zeroP Try.prog 55 = some [SV.nils, SV.nils] := by kernel_rfl
theorem el91 : elemP Try.prog 91 = some 25 := by kernel_rfl
theorem il91 : isSliceP Try.prog 91 = true := by kernel_rfl
theorem kd100 : kindP Try.prog 100 = some IntKind.u64 := by kernel_rfl
theorem mixed : Try.prog.follows .mixedOrders = true := by kernel_rfl
end Go.Ab.Try
