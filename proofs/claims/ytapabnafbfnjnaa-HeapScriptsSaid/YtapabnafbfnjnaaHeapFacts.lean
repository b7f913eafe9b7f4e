/- What the program says of its types: written by wip/gen/facts.py. -/
import Derived.Test.YtapabnafbfnjnaaAbF
import Derived.Test.YtapabnafbfnjnaaProg
set_option linter.all false
namespace Go.Ab.Try
open Go Go.Ab Go.Proofs
theorem sz3 : szP Try.prog 3 = some 1 := by kernel_rfl
theorem by3 : bytesP Try.prog 3 = some 8 := by kernel_rfl
theorem ag3 : aggP Try.prog 3 = some false := by kernel_rfl
theorem ze3 : zeroP Try.prog 3 = some [SV.dv (DV.int IntKind.i64 0)] := by kernel_rfl
theorem sz4 : szP Try.prog 4 = some 1 := by kernel_rfl
theorem by4 : bytesP Try.prog 4 = some 1 := by kernel_rfl
theorem ag4 : aggP Try.prog 4 = some false := by kernel_rfl
theorem ze4 : zeroP Try.prog 4 = some [SV.dv (DV.bool false)] := by kernel_rfl
theorem ib4 : isBoolP Try.prog 4 = true := by kernel_rfl
theorem sz22 : szP Try.prog 22 = some 1 := by kernel_rfl
theorem ag22 : aggP Try.prog 22 = some false := by kernel_rfl
theorem el22 : elemP Try.prog 22 = some 23 := by kernel_rfl
theorem il22 : isSliceP Try.prog 22 = true := by kernel_rfl
theorem sz23 : szP Try.prog 23 = some 1 := by kernel_rfl
theorem by23 : bytesP Try.prog 23 = some 24 := by kernel_rfl
theorem ag23 : aggP Try.prog 23 = some false := by kernel_rfl
theorem el23 : elemP Try.prog 23 = some 3 := by kernel_rfl
theorem ze23 : zeroP Try.prog 23 = some [SV.nils] := by kernel_rfl
theorem il23 : isSliceP Try.prog 23 = true := by kernel_rfl
theorem sz25 : szP Try.prog 25 = some 2 := by kernel_rfl
theorem ag25 : aggP Try.prog 25 = some true := by kernel_rfl
theorem pl25 : placesP Try.prog 25 = some [(0, 1), (1, 1)] := by kernel_rfl
theorem fd25_0 : fieldP Try.prog 25 0 = some 0 := by kernel_rfl
theorem fd25_1 : fieldP Try.prog 25 1 = some 1 := by kernel_rfl
theorem ze25 : zeroP Try.prog 25 = some [SV.nils, SV.nils] := by kernel_rfl
theorem el72 : elemP Try.prog 72 = some 4 := by kernel_rfl
theorem il72 : isSliceP Try.prog 72 = true := by kernel_rfl
theorem mixed : Try.prog.follows .mixedOrders = true := by kernel_rfl
end Go.Ab.Try
