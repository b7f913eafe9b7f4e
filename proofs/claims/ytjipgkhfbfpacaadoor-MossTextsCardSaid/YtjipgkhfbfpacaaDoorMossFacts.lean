/- What the program says of its types: written by wip/gen/facts.py. -/
import Derived.Test.YtjipgkhfbfpacaaDoorAbF
import Derived.Test.YtjipgkhfbfpacaaDoorProg
set_option linter.all false
namespace Go.Ab.Tryd
open Go Go.Ab Go.Proofs
theorem sz3 : szP Tryd.prog 3 = some 1 := by kernel_rfl
theorem by3 : bytesP Tryd.prog 3 = some 8 := by kernel_rfl
theorem ag3 : aggP Tryd.prog 3 = some false := by kernel_rfl
theorem kd3 : kindP Tryd.prog 3 = some IntKind.i64 := by kernel_rfl
theorem ze3 : zeroP Tryd.prog 3 = some [SV.dv (DV.int IntKind.i64 0)] := by kernel_rfl
theorem sz5 : szP Tryd.prog 5 = some 1 := by kernel_rfl
theorem by5 : bytesP Tryd.prog 5 = some 1 := by kernel_rfl
theorem ag5 : aggP Tryd.prog 5 = some false := by kernel_rfl
theorem kd5 : kindP Tryd.prog 5 = some IntKind.u8 := by kernel_rfl
theorem ze5 : zeroP Tryd.prog 5 = some [SV.dv (DV.int IntKind.u8 0)] := by kernel_rfl
theorem sz9 : szP Tryd.prog 9 = some 1 := by kernel_rfl
theorem ag9 : aggP Tryd.prog 9 = some false := by kernel_rfl
theorem ze9 : zeroP Tryd.prog 9 = some [SV.dv (DV.str { data := { toList := [] } })] := by kernel_rfl
theorem is9 : isStrP Tryd.prog 9 = true := by kernel_rfl
theorem sz23 : szP Tryd.prog 23 = some 3 := by kernel_rfl
theorem ag23 : aggP Tryd.prog 23 = some true := by kernel_rfl
theorem pl23 : placesP Tryd.prog 23 = some [(0, 1), (1, 1), (2, 1)] := by kernel_rfl
theorem fd23_0 : fieldP Tryd.prog 23 0 = some 0 := by kernel_rfl
theorem fd23_1 : fieldP Tryd.prog 23 1 = some 1 := by kernel_rfl
theorem fd23_2 : fieldP Tryd.prog 23 2 = some 2 := by kernel_rfl
theorem ze23 : zeroP Tryd.prog 23 = some [SV.dv (DV.int IntKind.i64 0), SV.dv (DV.int IntKind.i64 0), SV.dv (DV.int IntKind.i64 0)] := by kernel_rfl
theorem el32 : elemP Tryd.prog 32 = some 3 := by kernel_rfl
theorem il32 : isSliceP Tryd.prog 32 = true := by kernel_rfl
theorem kd41 : kindP Tryd.prog 41 = some IntKind.u64 := by kernel_rfl
theorem kd67 : kindP Tryd.prog 67 = some IntKind.u64 := by kernel_rfl
theorem el77 : elemP Tryd.prog 77 = some 9 := by kernel_rfl
theorem il77 : isSliceP Tryd.prog 77 = true := by kernel_rfl
theorem sz86 : szP Tryd.prog 86 = some 2 := by kernel_rfl
theorem ze86 : zeroP Tryd.prog 86 = some [SV.dv (DV.int IntKind.i64 0), SV.dv (DV.int IntKind.i64 0)] := by kernel_rfl
theorem sz91 : szP Tryd.prog 91 = some 1 := by kernel_rfl
theorem ag91 : aggP Tryd.prog 91 = some false := by kernel_rfl
theorem el91 : elemP Tryd.prog 91 = some 5 := by kernel_rfl
theorem ze91 : zeroP Tryd.prog 91 = some [SV.nils] := by kernel_rfl
theorem mixed : Tryd.prog.follows .mixedOrders = true := by kernel_rfl
end Go.Ab.Tryd
