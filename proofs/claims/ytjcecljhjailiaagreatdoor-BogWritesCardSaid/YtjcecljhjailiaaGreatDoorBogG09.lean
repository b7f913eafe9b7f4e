/- BogFacts. -/
import Derived.Test.YtjcecljhjailiaaGreatDoorBogG08
import Derived.Test.YtjcecljhjailiaaGreatDoorProg
set_option linter.all false
namespace Go.Ab.Tryz
open Go Go.Ab Go.Proofs
theorem sz3 : szP Tryz.prog 3 = some 1 := by kernel_rfl
theorem by3 : bytesP Tryz.prog 3 = some 8 := by kernel_rfl
theorem ag3 : aggP Tryz.prog 3 = some false := by kernel_rfl
theorem kd3 : kindP Tryz.prog 3 = some IntKind.i64 := by kernel_rfl
theorem ze3 : zeroP Tryz.prog 3 = some [SV.dv (DV.int IntKind.i64 0)] := by kernel_rfl
theorem sz4 : szP Tryz.prog 4 = some 1 := by kernel_rfl
theorem by4 : bytesP Tryz.prog 4 = some 1 := by kernel_rfl
theorem ag4 : aggP Tryz.prog 4 = some false := by kernel_rfl
theorem ze4 : zeroP Tryz.prog 4 = some [SV.dv (DV.bool false)] := by kernel_rfl
theorem ib4 : isBoolP Tryz.prog 4 = true := by kernel_rfl
theorem kd5 : kindP Tryz.prog 5 = some IntKind.u8 := by kernel_rfl
theorem sz9 : szP Tryz.prog 9 = some 1 := by kernel_rfl
theorem by9 : bytesP Tryz.prog 9 = some 16 := by kernel_rfl
theorem ag9 : aggP Tryz.prog 9 = some false := by kernel_rfl
theorem ze9 : zeroP Tryz.prog 9 = some [SV.dv (DV.str { data := { toList := [] } })] := by kernel_rfl
theorem is9 : isStrP Tryz.prog 9 = true := by kernel_rfl
theorem sz22 : szP Tryz.prog 22 = some 1 := by kernel_rfl
theorem ag22 : aggP Tryz.prog 22 = some false := by kernel_rfl
theorem el22 : elemP Tryz.prog 22 = some 25 := by kernel_rfl
theorem il22 : isSliceP Tryz.prog 22 = true := by kernel_rfl
theorem sz24 : szP Tryz.prog 24 = some 1 := by kernel_rfl
theorem ag24 : aggP Tryz.prog 24 = some true := by kernel_rfl
theorem pl24 : placesP Tryz.prog 24 = some [(0, 1)] := by kernel_rfl
theorem fd24_0 : fieldP Tryz.prog 24 0 = some 0 := by kernel_rfl
theorem ze24 : zeroP Tryz.prog 24 = some [SV.nils] := by kernel_rfl
theorem sz25 : szP Tryz.prog 25 = some 1 := by kernel_rfl
theorem by25 : bytesP Tryz.prog 25 = some 24 := by kernel_rfl
theorem ag25 : aggP Tryz.prog 25 = some false := by kernel_rfl
theorem el25 : elemP Tryz.prog 25 = some 3 := by kernel_rfl
theorem ze25 : zeroP Tryz.prog 25 = some [SV.nils] := by kernel_rfl
theorem il25 : isSliceP Tryz.prog 25 = true := by kernel_rfl
theorem sz27 : szP Tryz.prog 27 = some 2 := by kernel_rfl
theorem ag27 : aggP Tryz.prog 27 = some true := by kernel_rfl
theorem pl27 : placesP Tryz.prog 27 = some [(0, 1), (1, 1)] := by kernel_rfl
theorem fd27_0 : fieldP Tryz.prog 27 0 = some 0 := by kernel_rfl
theorem fd27_1 : fieldP Tryz.prog 27 1 = some 1 := by kernel_rfl
theorem ze27 : zeroP Tryz.prog 27 = some [SV.nils, SV.nils] := by kernel_rfl
theorem sz29 : szP Tryz.prog 29 = some 4 := by kernel_rfl
theorem ag29 : aggP Tryz.prog 29 = some true := by kernel_rfl
theorem pl29 : placesP Tryz.prog 29 = some [(0, 1), (1, 2), (3, 1)] := by kernel_rfl
theorem fd29_0 : fieldP Tryz.prog 29 0 = some 0 := by kernel_rfl
theorem fd29_1 : fieldP Tryz.prog 29 1 = some 1 := by kernel_rfl
theorem fd29_2 : fieldP Tryz.prog 29 2 = some 3 := by kernel_rfl
theorem ze29 : zeroP Tryz.prog 29 = some [SV.nils, SV.nils, SV.nils, SV.dv (DV.int IntKind.i64 0)] := by kernel_rfl
theorem sz30 : szP Tryz.prog 30 = some 1 := by kernel_rfl
theorem ag30 : aggP Tryz.prog 30 = some false := by kernel_rfl
theorem el30 : elemP Tryz.prog 30 = some 9 := by kernel_rfl
theorem il30 : isSliceP Tryz.prog 30 = true := by kernel_rfl
theorem kd61 : kindP Tryz.prog 61 = some IntKind.u64 := by kernel_rfl
theorem sz65 : szP Tryz.prog 65 = some 3 := by kernel_rfl
theorem ag65 : aggP Tryz.prog 65 = some true := by kernel_rfl
theorem pl65 : placesP Tryz.prog 65 = some [(0, 1), (1, 1), (2, 1)] := by kernel_rfl
theorem fd65_0 : fieldP Tryz.prog 65 0 = some 0 := by kernel_rfl
theorem fd65_1 : fieldP Tryz.prog 65 1 = some 1 := by kernel_rfl
theorem fd65_2 : fieldP Tryz.prog 65 2 = some 2 := by kernel_rfl
theorem ze65 : zeroP Tryz.prog 65 = some [SV.dv (DV.int IntKind.i64 0), SV.dv (DV.int IntKind.i64 0), SV.dv (DV.int IntKind.i64 0)] := by kernel_rfl
theorem sz98 : szP Tryz.prog 98 = some 9 := by kernel_rfl
theorem ag98 : aggP Tryz.prog 98 = some true := by kernel_rfl
theorem pl98 : placesP Tryz.prog 98 = some [(0, 1), (1, 1), (2, 1), (3, 1), (4, 1), (5, 1), (6, 1), (7, 1), (8, 1)] := by kernel_rfl
theorem fd98_0 : fieldP Tryz.prog 98 0 = some 0 := by kernel_rfl
theorem fd98_1 : fieldP Tryz.prog 98 1 = some 1 := by kernel_rfl
theorem fd98_2 : fieldP Tryz.prog 98 2 = some 2 := by kernel_rfl
theorem fd98_3 : fieldP Tryz.prog 98 3 = some 3 := by kernel_rfl
theorem fd98_4 : fieldP Tryz.prog 98 4 = some 4 := by kernel_rfl
theorem fd98_5 : fieldP Tryz.prog 98 5 = some 5 := by kernel_rfl
theorem fd98_6 : fieldP Tryz.prog 98 6 = some 6 := by kernel_rfl
theorem fd98_7 : fieldP Tryz.prog 98 7 = some 7 := by kernel_rfl
theorem fd98_8 : fieldP Tryz.prog 98 8 = some 8 := by kernel_rfl
theorem ze98 : zeroP Tryz.prog 98 = some [SV.dv (DV.int IntKind.i64 0), SV.nils, SV.nils, SV.dv (DV.int IntKind.i64 0), SV.dv (DV.int IntKind.i64 0), SV.dv (DV.int IntKind.i64 0), SV.dv (DV.int IntKind.i64 0), SV.dv (DV.bool false), SV.nils] := by kernel_rfl
theorem pl100 : placesP Tryz.prog 100 = some [(0, 2), (2, 1), (3, 2), (5, 3), (8, 9)] := by kernel_rfl
theorem fd100_0 : fieldP Tryz.prog 100 0 = some 0 := by kernel_rfl
theorem fd100_1 : fieldP Tryz.prog 100 1 = some 2 := by kernel_rfl
theorem fd100_2 : fieldP Tryz.prog 100 2 = some 3 := by kernel_rfl
theorem fd100_3 : fieldP Tryz.prog 100 3 = some 5 := by kernel_rfl
theorem fd100_4 : fieldP Tryz.prog 100 4 = some 8 := by kernel_rfl
theorem ze100 : zeroP Tryz.prog 100 = some [SV.dv (DV.int IntKind.i32 0), SV.dv (DV.int IntKind.u32 0), SV.nils, SV.nils, SV.nils, SV.dv (DV.int IntKind.i64 0), SV.dv (DV.int IntKind.i64 0), SV.dv (DV.int IntKind.i64 0), SV.dv (DV.int IntKind.i64 0), SV.nils, SV.nils, SV.dv (DV.int IntKind.i64 0), SV.dv (DV.int IntKind.i64 0), SV.dv (DV.int IntKind.i64 0), SV.dv (DV.int IntKind.i64 0), SV.dv (DV.bool false), SV.nils] := by kernel_rfl
theorem pl133 : placesP Tryz.prog 133 = some [(0, 1)] := by kernel_rfl
theorem ze133 : zeroP Tryz.prog 133 = some [SV.dv (DV.int IntKind.i64 0)] := by kernel_rfl
theorem sz136 : szP Tryz.prog 136 = some 1 := by kernel_rfl
theorem ag136 : aggP Tryz.prog 136 = some false := by kernel_rfl
theorem sz138 : szP Tryz.prog 138 = some 2 := by kernel_rfl
theorem ag138 : aggP Tryz.prog 138 = some true := by kernel_rfl
theorem pl138 : placesP Tryz.prog 138 = some [(0, 1), (1, 1)] := by kernel_rfl
theorem fd138_0 : fieldP Tryz.prog 138 0 = some 0 := by kernel_rfl
theorem fd138_1 : fieldP Tryz.prog 138 1 = some 1 := by kernel_rfl
theorem ze138 : zeroP Tryz.prog 138 = some [SV.dv (DV.int IntKind.i64 0), SV.nils] := by kernel_rfl
theorem el160 : elemP Tryz.prog 160 = some 4 := by kernel_rfl
theorem il160 : isSliceP Tryz.prog 160 = true := by kernel_rfl
theorem sz190 : szP Tryz.prog 190 = some 2 := by kernel_rfl
theorem fd190_0 : fieldP Tryz.prog 190 0 = some 0 := by kernel_rfl
theorem fd190_1 : fieldP Tryz.prog 190 1 = some 1 := by kernel_rfl
theorem ze190 : zeroP Tryz.prog 190 = some [SV.dv (DV.int IntKind.i64 0), SV.dv (DV.int IntKind.i64 0)] := by kernel_rfl
theorem kd232 : kindP Tryz.prog 232 = some IntKind.u64 := by kernel_rfl
theorem mixed : Tryz.prog.follows .mixedOrders = true := by kernel_rfl
end Go.Ab.Tryz
