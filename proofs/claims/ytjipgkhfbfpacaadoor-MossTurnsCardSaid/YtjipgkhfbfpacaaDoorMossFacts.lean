/- What the program says of its types: written by wip/gen/facts.py. -/
import Derived.Test.YtjipgkhfbfpacaaDoorAbF
import Derived.Test.YtjipgkhfbfpacaaDoorProg
set_option linter.all false
namespace Go.Ab.Tryd
open Go Go.Ab Go.Proofs
theorem sz0 : szP Tryd.prog 0 = some 1 := by kernel_rfl
theorem by0 : bytesP Tryd.prog 0 = some 0 := by kernel_rfl
theorem ag0 : aggP Tryd.prog 0 = some false := by kernel_rfl
theorem ze0 : zeroP Tryd.prog 0 = some [SV.dead] := by kernel_rfl
theorem sz1 : szP Tryd.prog 1 = some 1 := by kernel_rfl
theorem by1 : bytesP Tryd.prog 1 = some 8 := by kernel_rfl
theorem ag1 : aggP Tryd.prog 1 = some false := by kernel_rfl
theorem ze1 : zeroP Tryd.prog 1 = some [SV.dv DV.nilfn] := by kernel_rfl
theorem sz2 : szP Tryd.prog 2 = some 1 := by kernel_rfl
theorem by2 : bytesP Tryd.prog 2 = some 8 := by kernel_rfl
theorem ag2 : aggP Tryd.prog 2 = some false := by kernel_rfl
theorem kd2 : kindP Tryd.prog 2 = some IntKind.i64 := by kernel_rfl
theorem ze2 : zeroP Tryd.prog 2 = some [SV.dv (DV.int IntKind.i64 0)] := by kernel_rfl
theorem sz3 : szP Tryd.prog 3 = some 1 := by kernel_rfl
theorem by3 : bytesP Tryd.prog 3 = some 8 := by kernel_rfl
theorem ag3 : aggP Tryd.prog 3 = some false := by kernel_rfl
theorem kd3 : kindP Tryd.prog 3 = some IntKind.i64 := by kernel_rfl
theorem ze3 : zeroP Tryd.prog 3 = some [SV.dv (DV.int IntKind.i64 0)] := by kernel_rfl
theorem sz4 : szP Tryd.prog 4 = some 1 := by kernel_rfl
theorem by4 : bytesP Tryd.prog 4 = some 1 := by kernel_rfl
theorem ag4 : aggP Tryd.prog 4 = some false := by kernel_rfl
theorem ze4 : zeroP Tryd.prog 4 = some [SV.dv (DV.bool false)] := by kernel_rfl
theorem ib4 : isBoolP Tryd.prog 4 = true := by kernel_rfl
theorem sz5 : szP Tryd.prog 5 = some 1 := by kernel_rfl
theorem by5 : bytesP Tryd.prog 5 = some 1 := by kernel_rfl
theorem ag5 : aggP Tryd.prog 5 = some false := by kernel_rfl
theorem kd5 : kindP Tryd.prog 5 = some IntKind.u8 := by kernel_rfl
theorem ze5 : zeroP Tryd.prog 5 = some [SV.dv (DV.int IntKind.u8 0)] := by kernel_rfl
theorem sz6 : szP Tryd.prog 6 = some 1 := by kernel_rfl
theorem by6 : bytesP Tryd.prog 6 = some 1 := by kernel_rfl
theorem ag6 : aggP Tryd.prog 6 = some false := by kernel_rfl
theorem kd6 : kindP Tryd.prog 6 = some IntKind.u8 := by kernel_rfl
theorem ze6 : zeroP Tryd.prog 6 = some [SV.dv (DV.int IntKind.u8 0)] := by kernel_rfl
theorem sz7 : szP Tryd.prog 7 = some 4 := by kernel_rfl
theorem by7 : bytesP Tryd.prog 7 = some 24 := by kernel_rfl
theorem ag7 : aggP Tryd.prog 7 = some true := by kernel_rfl
theorem pl7 : placesP Tryd.prog 7 = some [(0, 1), (1, 1), (2, 1), (3, 1)] := by kernel_rfl
theorem fd7_0 : fieldP Tryd.prog 7 0 = some 0 := by kernel_rfl
theorem fd7_1 : fieldP Tryd.prog 7 1 = some 1 := by kernel_rfl
theorem fd7_2 : fieldP Tryd.prog 7 2 = some 2 := by kernel_rfl
theorem fd7_3 : fieldP Tryd.prog 7 3 = some 3 := by kernel_rfl
theorem ze7 : zeroP Tryd.prog 7 = some [SV.dv (DV.int IntKind.i64 0), SV.dv (DV.int IntKind.i64 0), SV.dv (DV.bool false), SV.dv (DV.int IntKind.u8 0)] := by kernel_rfl
theorem sz8 : szP Tryd.prog 8 = some 4 := by kernel_rfl
theorem by8 : bytesP Tryd.prog 8 = some 24 := by kernel_rfl
theorem ag8 : aggP Tryd.prog 8 = some true := by kernel_rfl
theorem pl8 : placesP Tryd.prog 8 = some [(0, 1), (1, 1), (2, 1), (3, 1)] := by kernel_rfl
theorem fd8_0 : fieldP Tryd.prog 8 0 = some 0 := by kernel_rfl
theorem fd8_1 : fieldP Tryd.prog 8 1 = some 1 := by kernel_rfl
theorem fd8_2 : fieldP Tryd.prog 8 2 = some 2 := by kernel_rfl
theorem fd8_3 : fieldP Tryd.prog 8 3 = some 3 := by kernel_rfl
theorem ze8 : zeroP Tryd.prog 8 = some [SV.dv (DV.int IntKind.i64 0), SV.dv (DV.int IntKind.i64 0), SV.dv (DV.bool false), SV.dv (DV.int IntKind.u8 0)] := by kernel_rfl
theorem sz9 : szP Tryd.prog 9 = some 1 := by kernel_rfl
theorem by9 : bytesP Tryd.prog 9 = some 16 := by kernel_rfl
theorem ag9 : aggP Tryd.prog 9 = some false := by kernel_rfl
theorem ze9 : zeroP Tryd.prog 9 = some [SV.dv (DV.str { data := { toList := [] } })] := by kernel_rfl
theorem is9 : isStrP Tryd.prog 9 = true := by kernel_rfl
theorem sz10 : szP Tryd.prog 10 = some 1 := by kernel_rfl
theorem by10 : bytesP Tryd.prog 10 = some 16 := by kernel_rfl
theorem ag10 : aggP Tryd.prog 10 = some false := by kernel_rfl
theorem ze10 : zeroP Tryd.prog 10 = some [SV.dv (DV.str { data := { toList := [] } })] := by kernel_rfl
theorem is10 : isStrP Tryd.prog 10 = true := by kernel_rfl
theorem sz11 : szP Tryd.prog 11 = some 1 := by kernel_rfl
theorem by11 : bytesP Tryd.prog 11 = some 16 := by kernel_rfl
theorem ag11 : aggP Tryd.prog 11 = some false := by kernel_rfl
theorem ze11 : zeroP Tryd.prog 11 = some [SV.dv (DV.str { data := { toList := [] } })] := by kernel_rfl
theorem is11 : isStrP Tryd.prog 11 = true := by kernel_rfl
theorem sz12 : szP Tryd.prog 12 = some 1 := by kernel_rfl
theorem by12 : bytesP Tryd.prog 12 = some 8 := by kernel_rfl
theorem ag12 : aggP Tryd.prog 12 = some false := by kernel_rfl
theorem kd12 : kindP Tryd.prog 12 = some IntKind.u64 := by kernel_rfl
theorem ze12 : zeroP Tryd.prog 12 = some [SV.dv (DV.int IntKind.u64 0)] := by kernel_rfl
theorem sz13 : szP Tryd.prog 13 = some 2 := by kernel_rfl
theorem by13 : bytesP Tryd.prog 13 = some 24 := by kernel_rfl
theorem ag13 : aggP Tryd.prog 13 = some true := by kernel_rfl
theorem pl13 : placesP Tryd.prog 13 = some [(0, 1), (1, 1)] := by kernel_rfl
theorem fd13_0 : fieldP Tryd.prog 13 0 = some 0 := by kernel_rfl
theorem fd13_1 : fieldP Tryd.prog 13 1 = some 1 := by kernel_rfl
theorem ze13 : zeroP Tryd.prog 13 = some [SV.dv (DV.str { data := { toList := [] } }), SV.dv (DV.int IntKind.u64 0)] := by kernel_rfl
theorem sz14 : szP Tryd.prog 14 = some 2 := by kernel_rfl
theorem by14 : bytesP Tryd.prog 14 = some 24 := by kernel_rfl
theorem ag14 : aggP Tryd.prog 14 = some true := by kernel_rfl
theorem pl14 : placesP Tryd.prog 14 = some [(0, 1), (1, 1)] := by kernel_rfl
theorem fd14_0 : fieldP Tryd.prog 14 0 = some 0 := by kernel_rfl
theorem fd14_1 : fieldP Tryd.prog 14 1 = some 1 := by kernel_rfl
theorem ze14 : zeroP Tryd.prog 14 = some [SV.dv (DV.str { data := { toList := [] } }), SV.dv (DV.int IntKind.u64 0)] := by kernel_rfl
theorem sz15 : szP Tryd.prog 15 = some 1 := by kernel_rfl
theorem by15 : bytesP Tryd.prog 15 = some 8 := by kernel_rfl
theorem ag15 : aggP Tryd.prog 15 = some false := by kernel_rfl
theorem ze15 : zeroP Tryd.prog 15 = some [SV.dv DV.nilptr] := by kernel_rfl
theorem sz16 : szP Tryd.prog 16 = some 1 := by kernel_rfl
theorem by16 : bytesP Tryd.prog 16 = some 8 := by kernel_rfl
theorem ag16 : aggP Tryd.prog 16 = some false := by kernel_rfl
theorem ze16 : zeroP Tryd.prog 16 = some [SV.dv DV.nilptr] := by kernel_rfl
theorem sz17 : szP Tryd.prog 17 = some 1 := by kernel_rfl
theorem by17 : bytesP Tryd.prog 17 = some 8 := by kernel_rfl
theorem ag17 : aggP Tryd.prog 17 = some false := by kernel_rfl
theorem ze17 : zeroP Tryd.prog 17 = some [SV.dv DV.nilptr] := by kernel_rfl
theorem sz18 : szP Tryd.prog 18 = some 1 := by kernel_rfl
theorem by18 : bytesP Tryd.prog 18 = some 8 := by kernel_rfl
theorem ag18 : aggP Tryd.prog 18 = some true := by kernel_rfl
theorem pl18 : placesP Tryd.prog 18 = some [(0, 1)] := by kernel_rfl
theorem fd18_0 : fieldP Tryd.prog 18 0 = some 0 := by kernel_rfl
theorem ze18 : zeroP Tryd.prog 18 = some [SV.dv DV.nilptr] := by kernel_rfl
theorem sz19 : szP Tryd.prog 19 = some 1 := by kernel_rfl
theorem by19 : bytesP Tryd.prog 19 = some 8 := by kernel_rfl
theorem ag19 : aggP Tryd.prog 19 = some true := by kernel_rfl
theorem pl19 : placesP Tryd.prog 19 = some [(0, 1)] := by kernel_rfl
theorem fd19_0 : fieldP Tryd.prog 19 0 = some 0 := by kernel_rfl
theorem ze19 : zeroP Tryd.prog 19 = some [SV.dv DV.nilptr] := by kernel_rfl
theorem sz20 : szP Tryd.prog 20 = some 1 := by kernel_rfl
theorem by20 : bytesP Tryd.prog 20 = some 16 := by kernel_rfl
theorem ag20 : aggP Tryd.prog 20 = some false := by kernel_rfl
theorem ze20 : zeroP Tryd.prog 20 = some [SV.dv DV.nilIface] := by kernel_rfl
theorem sz21 : szP Tryd.prog 21 = some 1 := by kernel_rfl
theorem by21 : bytesP Tryd.prog 21 = some 4 := by kernel_rfl
theorem ag21 : aggP Tryd.prog 21 = some false := by kernel_rfl
theorem kd21 : kindP Tryd.prog 21 = some IntKind.i32 := by kernel_rfl
theorem ze21 : zeroP Tryd.prog 21 = some [SV.dv (DV.int IntKind.i32 0)] := by kernel_rfl
theorem sz22 : szP Tryd.prog 22 = some 3 := by kernel_rfl
theorem by22 : bytesP Tryd.prog 22 = some 24 := by kernel_rfl
theorem ag22 : aggP Tryd.prog 22 = some true := by kernel_rfl
theorem pl22 : placesP Tryd.prog 22 = some [(0, 1), (1, 1), (2, 1)] := by kernel_rfl
theorem fd22_0 : fieldP Tryd.prog 22 0 = some 0 := by kernel_rfl
theorem fd22_1 : fieldP Tryd.prog 22 1 = some 1 := by kernel_rfl
theorem fd22_2 : fieldP Tryd.prog 22 2 = some 2 := by kernel_rfl
theorem ze22 : zeroP Tryd.prog 22 = some [SV.dv (DV.int IntKind.i64 0), SV.dv (DV.int IntKind.i64 0), SV.dv (DV.int IntKind.i64 0)] := by kernel_rfl
theorem sz23 : szP Tryd.prog 23 = some 3 := by kernel_rfl
theorem by23 : bytesP Tryd.prog 23 = some 24 := by kernel_rfl
theorem ag23 : aggP Tryd.prog 23 = some true := by kernel_rfl
theorem pl23 : placesP Tryd.prog 23 = some [(0, 1), (1, 1), (2, 1)] := by kernel_rfl
theorem fd23_0 : fieldP Tryd.prog 23 0 = some 0 := by kernel_rfl
theorem fd23_1 : fieldP Tryd.prog 23 1 = some 1 := by kernel_rfl
theorem fd23_2 : fieldP Tryd.prog 23 2 = some 2 := by kernel_rfl
theorem ze23 : zeroP Tryd.prog 23 = some [SV.dv (DV.int IntKind.i64 0), SV.dv (DV.int IntKind.i64 0), SV.dv (DV.int IntKind.i64 0)] := by kernel_rfl
theorem sz24 : szP Tryd.prog 24 = some 1 := by kernel_rfl
theorem by24 : bytesP Tryd.prog 24 = some 8 := by kernel_rfl
theorem ag24 : aggP Tryd.prog 24 = some false := by kernel_rfl
theorem kd24 : kindP Tryd.prog 24 = some IntKind.i64 := by kernel_rfl
theorem ze24 : zeroP Tryd.prog 24 = some [SV.dv (DV.int IntKind.i64 0)] := by kernel_rfl
theorem sz25 : szP Tryd.prog 25 = some 1 := by kernel_rfl
theorem by25 : bytesP Tryd.prog 25 = some 0 := by kernel_rfl
theorem ag25 : aggP Tryd.prog 25 = some false := by kernel_rfl
theorem ze25 : zeroP Tryd.prog 25 = some [SV.dead] := by kernel_rfl
theorem sz26 : szP Tryd.prog 26 = some 1 := by kernel_rfl
theorem by26 : bytesP Tryd.prog 26 = some 8 := by kernel_rfl
theorem ag26 : aggP Tryd.prog 26 = some false := by kernel_rfl
theorem ze26 : zeroP Tryd.prog 26 = some [SV.dv DV.nilfn] := by kernel_rfl
theorem sz27 : szP Tryd.prog 27 = some 1 := by kernel_rfl
theorem by27 : bytesP Tryd.prog 27 = some 8 := by kernel_rfl
theorem ag27 : aggP Tryd.prog 27 = some false := by kernel_rfl
theorem ze27 : zeroP Tryd.prog 27 = some [SV.dv DV.nilfn] := by kernel_rfl
theorem sz28 : szP Tryd.prog 28 = some 1 := by kernel_rfl
theorem by28 : bytesP Tryd.prog 28 = some 8 := by kernel_rfl
theorem ag28 : aggP Tryd.prog 28 = some false := by kernel_rfl
theorem ze28 : zeroP Tryd.prog 28 = some [SV.dv DV.nilfn] := by kernel_rfl
theorem sz29 : szP Tryd.prog 29 = some 1 := by kernel_rfl
theorem by29 : bytesP Tryd.prog 29 = some 0 := by kernel_rfl
theorem ag29 : aggP Tryd.prog 29 = some false := by kernel_rfl
theorem ze29 : zeroP Tryd.prog 29 = some [SV.dead] := by kernel_rfl
theorem sz30 : szP Tryd.prog 30 = some 1 := by kernel_rfl
theorem by30 : bytesP Tryd.prog 30 = some 8 := by kernel_rfl
theorem ag30 : aggP Tryd.prog 30 = some false := by kernel_rfl
theorem ze30 : zeroP Tryd.prog 30 = some [SV.dv DV.nilfn] := by kernel_rfl
theorem sz31 : szP Tryd.prog 31 = some 1 := by kernel_rfl
theorem by31 : bytesP Tryd.prog 31 = some 8 := by kernel_rfl
theorem ag31 : aggP Tryd.prog 31 = some false := by kernel_rfl
theorem ze31 : zeroP Tryd.prog 31 = some [SV.dv DV.nilfn] := by kernel_rfl
theorem sz32 : szP Tryd.prog 32 = some 1 := by kernel_rfl
theorem by32 : bytesP Tryd.prog 32 = some 24 := by kernel_rfl
theorem ag32 : aggP Tryd.prog 32 = some false := by kernel_rfl
theorem el32 : elemP Tryd.prog 32 = some 3 := by kernel_rfl
theorem ze32 : zeroP Tryd.prog 32 = some [SV.nils] := by kernel_rfl
theorem il32 : isSliceP Tryd.prog 32 = true := by kernel_rfl
theorem sz33 : szP Tryd.prog 33 = some 1 := by kernel_rfl
theorem by33 : bytesP Tryd.prog 33 = some 0 := by kernel_rfl
theorem ag33 : aggP Tryd.prog 33 = some false := by kernel_rfl
theorem ze33 : zeroP Tryd.prog 33 = some [SV.dead] := by kernel_rfl
theorem sz34 : szP Tryd.prog 34 = some 1 := by kernel_rfl
theorem by34 : bytesP Tryd.prog 34 = some 8 := by kernel_rfl
theorem ag34 : aggP Tryd.prog 34 = some false := by kernel_rfl
theorem ze34 : zeroP Tryd.prog 34 = some [SV.dv DV.nilfn] := by kernel_rfl
theorem sz35 : szP Tryd.prog 35 = some 1 := by kernel_rfl
theorem by35 : bytesP Tryd.prog 35 = some 8 := by kernel_rfl
theorem ag35 : aggP Tryd.prog 35 = some false := by kernel_rfl
theorem ze35 : zeroP Tryd.prog 35 = some [SV.dv DV.nilfn] := by kernel_rfl
theorem sz36 : szP Tryd.prog 36 = some 1 := by kernel_rfl
theorem by36 : bytesP Tryd.prog 36 = some 8 := by kernel_rfl
theorem ag36 : aggP Tryd.prog 36 = some false := by kernel_rfl
theorem ze36 : zeroP Tryd.prog 36 = some [SV.dv DV.nilfn] := by kernel_rfl
theorem sz37 : szP Tryd.prog 37 = some 1 := by kernel_rfl
theorem by37 : bytesP Tryd.prog 37 = some 0 := by kernel_rfl
theorem ag37 : aggP Tryd.prog 37 = some false := by kernel_rfl
theorem ze37 : zeroP Tryd.prog 37 = some [SV.dead] := by kernel_rfl
theorem sz38 : szP Tryd.prog 38 = some 1 := by kernel_rfl
theorem by38 : bytesP Tryd.prog 38 = some 8 := by kernel_rfl
theorem ag38 : aggP Tryd.prog 38 = some false := by kernel_rfl
theorem ze38 : zeroP Tryd.prog 38 = some [SV.dv DV.nilfn] := by kernel_rfl
theorem sz39 : szP Tryd.prog 39 = some 1 := by kernel_rfl
theorem by39 : bytesP Tryd.prog 39 = some 8 := by kernel_rfl
theorem ag39 : aggP Tryd.prog 39 = some false := by kernel_rfl
theorem ze39 : zeroP Tryd.prog 39 = some [SV.dv DV.nilfn] := by kernel_rfl
theorem sz40 : szP Tryd.prog 40 = some 1 := by kernel_rfl
theorem by40 : bytesP Tryd.prog 40 = some 8 := by kernel_rfl
theorem ag40 : aggP Tryd.prog 40 = some false := by kernel_rfl
theorem ze40 : zeroP Tryd.prog 40 = some [SV.dv DV.nilfn] := by kernel_rfl
theorem sz41 : szP Tryd.prog 41 = some 1 := by kernel_rfl
theorem by41 : bytesP Tryd.prog 41 = some 8 := by kernel_rfl
theorem ag41 : aggP Tryd.prog 41 = some false := by kernel_rfl
theorem kd41 : kindP Tryd.prog 41 = some IntKind.u64 := by kernel_rfl
theorem ze41 : zeroP Tryd.prog 41 = some [SV.dv (DV.int IntKind.u64 0)] := by kernel_rfl
theorem sz42 : szP Tryd.prog 42 = some 1 := by kernel_rfl
theorem by42 : bytesP Tryd.prog 42 = some 8 := by kernel_rfl
theorem ag42 : aggP Tryd.prog 42 = some false := by kernel_rfl
theorem ze42 : zeroP Tryd.prog 42 = some [SV.dv DV.nilfn] := by kernel_rfl
theorem sz43 : szP Tryd.prog 43 = some 1 := by kernel_rfl
theorem by43 : bytesP Tryd.prog 43 = some 8 := by kernel_rfl
theorem ag43 : aggP Tryd.prog 43 = some false := by kernel_rfl
theorem ze43 : zeroP Tryd.prog 43 = some [SV.dv DV.nilfn] := by kernel_rfl
theorem sz44 : szP Tryd.prog 44 = some 1 := by kernel_rfl
theorem by44 : bytesP Tryd.prog 44 = some 0 := by kernel_rfl
theorem ag44 : aggP Tryd.prog 44 = some false := by kernel_rfl
theorem ze44 : zeroP Tryd.prog 44 = some [SV.dead] := by kernel_rfl
theorem sz45 : szP Tryd.prog 45 = some 1 := by kernel_rfl
theorem by45 : bytesP Tryd.prog 45 = some 8 := by kernel_rfl
theorem ag45 : aggP Tryd.prog 45 = some false := by kernel_rfl
theorem ze45 : zeroP Tryd.prog 45 = some [SV.dv DV.nilfn] := by kernel_rfl
theorem sz46 : szP Tryd.prog 46 = some 1 := by kernel_rfl
theorem by46 : bytesP Tryd.prog 46 = some 8 := by kernel_rfl
theorem ag46 : aggP Tryd.prog 46 = some false := by kernel_rfl
theorem ze46 : zeroP Tryd.prog 46 = some [SV.dv DV.nilfn] := by kernel_rfl
theorem sz47 : szP Tryd.prog 47 = some 1 := by kernel_rfl
theorem by47 : bytesP Tryd.prog 47 = some 8 := by kernel_rfl
theorem ag47 : aggP Tryd.prog 47 = some false := by kernel_rfl
theorem ze47 : zeroP Tryd.prog 47 = some [SV.dv DV.nilfn] := by kernel_rfl
theorem sz48 : szP Tryd.prog 48 = some 1 := by kernel_rfl
theorem by48 : bytesP Tryd.prog 48 = some 0 := by kernel_rfl
theorem ag48 : aggP Tryd.prog 48 = some false := by kernel_rfl
theorem ze48 : zeroP Tryd.prog 48 = some [SV.dead] := by kernel_rfl
theorem sz49 : szP Tryd.prog 49 = some 1 := by kernel_rfl
theorem by49 : bytesP Tryd.prog 49 = some 8 := by kernel_rfl
theorem ag49 : aggP Tryd.prog 49 = some false := by kernel_rfl
theorem ze49 : zeroP Tryd.prog 49 = some [SV.dv DV.nilfn] := by kernel_rfl
theorem sz50 : szP Tryd.prog 50 = some 1 := by kernel_rfl
theorem by50 : bytesP Tryd.prog 50 = some 0 := by kernel_rfl
theorem ag50 : aggP Tryd.prog 50 = some false := by kernel_rfl
theorem ze50 : zeroP Tryd.prog 50 = some [SV.dead] := by kernel_rfl
theorem sz51 : szP Tryd.prog 51 = some 1 := by kernel_rfl
theorem by51 : bytesP Tryd.prog 51 = some 8 := by kernel_rfl
theorem ag51 : aggP Tryd.prog 51 = some false := by kernel_rfl
theorem ze51 : zeroP Tryd.prog 51 = some [SV.dv DV.nilfn] := by kernel_rfl
theorem sz52 : szP Tryd.prog 52 = some 1 := by kernel_rfl
theorem by52 : bytesP Tryd.prog 52 = some 8 := by kernel_rfl
theorem ag52 : aggP Tryd.prog 52 = some false := by kernel_rfl
theorem ze52 : zeroP Tryd.prog 52 = some [SV.dv DV.nilfn] := by kernel_rfl
theorem sz53 : szP Tryd.prog 53 = some 1 := by kernel_rfl
theorem by53 : bytesP Tryd.prog 53 = some 8 := by kernel_rfl
theorem ag53 : aggP Tryd.prog 53 = some false := by kernel_rfl
theorem ze53 : zeroP Tryd.prog 53 = some [SV.dv DV.nilfn] := by kernel_rfl
theorem sz54 : szP Tryd.prog 54 = some 1 := by kernel_rfl
theorem by54 : bytesP Tryd.prog 54 = some 0 := by kernel_rfl
theorem ag54 : aggP Tryd.prog 54 = some false := by kernel_rfl
theorem ze54 : zeroP Tryd.prog 54 = some [SV.dead] := by kernel_rfl
theorem sz55 : szP Tryd.prog 55 = some 1 := by kernel_rfl
theorem by55 : bytesP Tryd.prog 55 = some 8 := by kernel_rfl
theorem ag55 : aggP Tryd.prog 55 = some false := by kernel_rfl
theorem ze55 : zeroP Tryd.prog 55 = some [SV.dv DV.nilfn] := by kernel_rfl
theorem sz56 : szP Tryd.prog 56 = some 1 := by kernel_rfl
theorem by56 : bytesP Tryd.prog 56 = some 8 := by kernel_rfl
theorem ag56 : aggP Tryd.prog 56 = some false := by kernel_rfl
theorem ze56 : zeroP Tryd.prog 56 = some [SV.dv DV.nilfn] := by kernel_rfl
theorem sz57 : szP Tryd.prog 57 = some 1 := by kernel_rfl
theorem by57 : bytesP Tryd.prog 57 = some 8 := by kernel_rfl
theorem ag57 : aggP Tryd.prog 57 = some false := by kernel_rfl
theorem ze57 : zeroP Tryd.prog 57 = some [SV.dv DV.nilfn] := by kernel_rfl
theorem sz58 : szP Tryd.prog 58 = some 1 := by kernel_rfl
theorem by58 : bytesP Tryd.prog 58 = some 8 := by kernel_rfl
theorem ag58 : aggP Tryd.prog 58 = some false := by kernel_rfl
theorem ze58 : zeroP Tryd.prog 58 = some [SV.dv DV.nilfn] := by kernel_rfl
theorem sz59 : szP Tryd.prog 59 = some 1 := by kernel_rfl
theorem by59 : bytesP Tryd.prog 59 = some 8 := by kernel_rfl
theorem ag59 : aggP Tryd.prog 59 = some false := by kernel_rfl
theorem ze59 : zeroP Tryd.prog 59 = some [SV.dv DV.nilfn] := by kernel_rfl
theorem sz60 : szP Tryd.prog 60 = some 1 := by kernel_rfl
theorem by60 : bytesP Tryd.prog 60 = some 8 := by kernel_rfl
theorem ag60 : aggP Tryd.prog 60 = some false := by kernel_rfl
theorem ze60 : zeroP Tryd.prog 60 = some [SV.dv DV.nilfn] := by kernel_rfl
theorem sz61 : szP Tryd.prog 61 = some 1 := by kernel_rfl
theorem by61 : bytesP Tryd.prog 61 = some 8 := by kernel_rfl
theorem ag61 : aggP Tryd.prog 61 = some false := by kernel_rfl
theorem ze61 : zeroP Tryd.prog 61 = some [SV.dv DV.nilfn] := by kernel_rfl
theorem sz62 : szP Tryd.prog 62 = some 1 := by kernel_rfl
theorem by62 : bytesP Tryd.prog 62 = some 8 := by kernel_rfl
theorem ag62 : aggP Tryd.prog 62 = some false := by kernel_rfl
theorem ze62 : zeroP Tryd.prog 62 = some [SV.dv DV.nilfn] := by kernel_rfl
theorem sz63 : szP Tryd.prog 63 = some 1 := by kernel_rfl
theorem by63 : bytesP Tryd.prog 63 = some 8 := by kernel_rfl
theorem ag63 : aggP Tryd.prog 63 = some false := by kernel_rfl
theorem ze63 : zeroP Tryd.prog 63 = some [SV.dv DV.nilfn] := by kernel_rfl
theorem sz64 : szP Tryd.prog 64 = some 1 := by kernel_rfl
theorem by64 : bytesP Tryd.prog 64 = some 8 := by kernel_rfl
theorem ag64 : aggP Tryd.prog 64 = some false := by kernel_rfl
theorem ze64 : zeroP Tryd.prog 64 = some [SV.dv DV.nilfn] := by kernel_rfl
theorem sz65 : szP Tryd.prog 65 = some 1 := by kernel_rfl
theorem by65 : bytesP Tryd.prog 65 = some 8 := by kernel_rfl
theorem ag65 : aggP Tryd.prog 65 = some false := by kernel_rfl
theorem ze65 : zeroP Tryd.prog 65 = some [SV.dv DV.nilfn] := by kernel_rfl
theorem sz66 : szP Tryd.prog 66 = some 1 := by kernel_rfl
theorem by66 : bytesP Tryd.prog 66 = some 8 := by kernel_rfl
theorem ag66 : aggP Tryd.prog 66 = some false := by kernel_rfl
theorem ze66 : zeroP Tryd.prog 66 = some [SV.dv DV.nilfn] := by kernel_rfl
theorem sz67 : szP Tryd.prog 67 = some 1 := by kernel_rfl
theorem by67 : bytesP Tryd.prog 67 = some 8 := by kernel_rfl
theorem ag67 : aggP Tryd.prog 67 = some false := by kernel_rfl
theorem kd67 : kindP Tryd.prog 67 = some IntKind.u64 := by kernel_rfl
theorem ze67 : zeroP Tryd.prog 67 = some [SV.dv (DV.int IntKind.u64 0)] := by kernel_rfl
theorem sz68 : szP Tryd.prog 68 = some 1 := by kernel_rfl
theorem by68 : bytesP Tryd.prog 68 = some 8 := by kernel_rfl
theorem ag68 : aggP Tryd.prog 68 = some false := by kernel_rfl
theorem ze68 : zeroP Tryd.prog 68 = some [SV.dv DV.nilfn] := by kernel_rfl
theorem sz69 : szP Tryd.prog 69 = some 1 := by kernel_rfl
theorem by69 : bytesP Tryd.prog 69 = some 8 := by kernel_rfl
theorem ag69 : aggP Tryd.prog 69 = some false := by kernel_rfl
theorem ze69 : zeroP Tryd.prog 69 = some [SV.dv DV.nilfn] := by kernel_rfl
theorem sz70 : szP Tryd.prog 70 = some 1 := by kernel_rfl
theorem by70 : bytesP Tryd.prog 70 = some 8 := by kernel_rfl
theorem ag70 : aggP Tryd.prog 70 = some false := by kernel_rfl
theorem ze70 : zeroP Tryd.prog 70 = some [SV.dv DV.nilfn] := by kernel_rfl
theorem sz71 : szP Tryd.prog 71 = some 1 := by kernel_rfl
theorem by71 : bytesP Tryd.prog 71 = some 8 := by kernel_rfl
theorem ag71 : aggP Tryd.prog 71 = some false := by kernel_rfl
theorem ze71 : zeroP Tryd.prog 71 = some [SV.dv DV.nilfn] := by kernel_rfl
theorem sz72 : szP Tryd.prog 72 = some 1 := by kernel_rfl
theorem by72 : bytesP Tryd.prog 72 = some 8 := by kernel_rfl
theorem ag72 : aggP Tryd.prog 72 = some false := by kernel_rfl
theorem ze72 : zeroP Tryd.prog 72 = some [SV.dv DV.nilfn] := by kernel_rfl
theorem sz73 : szP Tryd.prog 73 = some 1 := by kernel_rfl
theorem by73 : bytesP Tryd.prog 73 = some 8 := by kernel_rfl
theorem ag73 : aggP Tryd.prog 73 = some false := by kernel_rfl
theorem ze73 : zeroP Tryd.prog 73 = some [SV.dv DV.nilfn] := by kernel_rfl
theorem sz74 : szP Tryd.prog 74 = some 1 := by kernel_rfl
theorem by74 : bytesP Tryd.prog 74 = some 8 := by kernel_rfl
theorem ag74 : aggP Tryd.prog 74 = some false := by kernel_rfl
theorem ze74 : zeroP Tryd.prog 74 = some [SV.dv DV.nilfn] := by kernel_rfl
theorem sz75 : szP Tryd.prog 75 = some 1 := by kernel_rfl
theorem by75 : bytesP Tryd.prog 75 = some 0 := by kernel_rfl
theorem ag75 : aggP Tryd.prog 75 = some false := by kernel_rfl
theorem ze75 : zeroP Tryd.prog 75 = some [SV.dead] := by kernel_rfl
theorem sz76 : szP Tryd.prog 76 = some 1 := by kernel_rfl
theorem by76 : bytesP Tryd.prog 76 = some 8 := by kernel_rfl
theorem ag76 : aggP Tryd.prog 76 = some false := by kernel_rfl
theorem ze76 : zeroP Tryd.prog 76 = some [SV.dv DV.nilfn] := by kernel_rfl
theorem sz77 : szP Tryd.prog 77 = some 1 := by kernel_rfl
theorem by77 : bytesP Tryd.prog 77 = some 24 := by kernel_rfl
theorem ag77 : aggP Tryd.prog 77 = some false := by kernel_rfl
theorem el77 : elemP Tryd.prog 77 = some 9 := by kernel_rfl
theorem ze77 : zeroP Tryd.prog 77 = some [SV.nils] := by kernel_rfl
theorem il77 : isSliceP Tryd.prog 77 = true := by kernel_rfl
theorem sz78 : szP Tryd.prog 78 = some 1 := by kernel_rfl
theorem by78 : bytesP Tryd.prog 78 = some 8 := by kernel_rfl
theorem ag78 : aggP Tryd.prog 78 = some false := by kernel_rfl
theorem ze78 : zeroP Tryd.prog 78 = some [SV.dv DV.nilfn] := by kernel_rfl
theorem sz79 : szP Tryd.prog 79 = some 1 := by kernel_rfl
theorem by79 : bytesP Tryd.prog 79 = some 16 := by kernel_rfl
theorem ag79 : aggP Tryd.prog 79 = some false := by kernel_rfl
theorem ze79 : zeroP Tryd.prog 79 = some [SV.dv DV.nilIface] := by kernel_rfl
theorem sz80 : szP Tryd.prog 80 = some 1 := by kernel_rfl
theorem by80 : bytesP Tryd.prog 80 = some 16 := by kernel_rfl
theorem ag80 : aggP Tryd.prog 80 = some false := by kernel_rfl
theorem ze80 : zeroP Tryd.prog 80 = some [SV.dv DV.nilIface] := by kernel_rfl
theorem sz81 : szP Tryd.prog 81 = some 1 := by kernel_rfl
theorem by81 : bytesP Tryd.prog 81 = some 0 := by kernel_rfl
theorem ag81 : aggP Tryd.prog 81 = some false := by kernel_rfl
theorem ze81 : zeroP Tryd.prog 81 = some [SV.dead] := by kernel_rfl
theorem sz82 : szP Tryd.prog 82 = some 1 := by kernel_rfl
theorem by82 : bytesP Tryd.prog 82 = some 8 := by kernel_rfl
theorem ag82 : aggP Tryd.prog 82 = some false := by kernel_rfl
theorem ze82 : zeroP Tryd.prog 82 = some [SV.dv DV.nilfn] := by kernel_rfl
theorem sz83 : szP Tryd.prog 83 = some 1 := by kernel_rfl
theorem by83 : bytesP Tryd.prog 83 = some 8 := by kernel_rfl
theorem ag83 : aggP Tryd.prog 83 = some false := by kernel_rfl
theorem ze83 : zeroP Tryd.prog 83 = some [SV.dv DV.nilfn] := by kernel_rfl
theorem sz84 : szP Tryd.prog 84 = some 1 := by kernel_rfl
theorem by84 : bytesP Tryd.prog 84 = some 8 := by kernel_rfl
theorem ag84 : aggP Tryd.prog 84 = some false := by kernel_rfl
theorem ze84 : zeroP Tryd.prog 84 = some [SV.dv DV.nilfn] := by kernel_rfl
theorem sz85 : szP Tryd.prog 85 = some 1 := by kernel_rfl
theorem by85 : bytesP Tryd.prog 85 = some 8 := by kernel_rfl
theorem ag85 : aggP Tryd.prog 85 = some false := by kernel_rfl
theorem ze85 : zeroP Tryd.prog 85 = some [SV.dv DV.nilfn] := by kernel_rfl
theorem sz86 : szP Tryd.prog 86 = some 2 := by kernel_rfl
theorem by86 : bytesP Tryd.prog 86 = some 16 := by kernel_rfl
theorem ag86 : aggP Tryd.prog 86 = some true := by kernel_rfl
theorem ze86 : zeroP Tryd.prog 86 = some [SV.dv (DV.int IntKind.i64 0), SV.dv (DV.int IntKind.i64 0)] := by kernel_rfl
theorem sz87 : szP Tryd.prog 87 = some 1 := by kernel_rfl
theorem by87 : bytesP Tryd.prog 87 = some 0 := by kernel_rfl
theorem ag87 : aggP Tryd.prog 87 = some false := by kernel_rfl
theorem ze87 : zeroP Tryd.prog 87 = some [SV.dead] := by kernel_rfl
theorem sz88 : szP Tryd.prog 88 = some 1 := by kernel_rfl
theorem by88 : bytesP Tryd.prog 88 = some 8 := by kernel_rfl
theorem ag88 : aggP Tryd.prog 88 = some false := by kernel_rfl
theorem ze88 : zeroP Tryd.prog 88 = some [SV.dv DV.nilfn] := by kernel_rfl
theorem sz89 : szP Tryd.prog 89 = some 64 := by kernel_rfl
theorem by89 : bytesP Tryd.prog 89 = some 64 := by kernel_rfl
theorem ag89 : aggP Tryd.prog 89 = some true := by kernel_rfl
theorem sz90 : szP Tryd.prog 90 = some 1 := by kernel_rfl
theorem by90 : bytesP Tryd.prog 90 = some 8 := by kernel_rfl
theorem ag90 : aggP Tryd.prog 90 = some false := by kernel_rfl
theorem ze90 : zeroP Tryd.prog 90 = some [SV.dv DV.nilfn] := by kernel_rfl
theorem sz91 : szP Tryd.prog 91 = some 1 := by kernel_rfl
theorem by91 : bytesP Tryd.prog 91 = some 24 := by kernel_rfl
theorem ag91 : aggP Tryd.prog 91 = some false := by kernel_rfl
theorem el91 : elemP Tryd.prog 91 = some 5 := by kernel_rfl
theorem ze91 : zeroP Tryd.prog 91 = some [SV.nils] := by kernel_rfl
theorem il91 : isSliceP Tryd.prog 91 = true := by kernel_rfl
theorem sz92 : szP Tryd.prog 92 = some 1 := by kernel_rfl
theorem by92 : bytesP Tryd.prog 92 = some 8 := by kernel_rfl
theorem ag92 : aggP Tryd.prog 92 = some false := by kernel_rfl
theorem ze92 : zeroP Tryd.prog 92 = some [SV.dv DV.nilfn] := by kernel_rfl
theorem sz93 : szP Tryd.prog 93 = some 1 := by kernel_rfl
theorem by93 : bytesP Tryd.prog 93 = some 8 := by kernel_rfl
theorem ag93 : aggP Tryd.prog 93 = some false := by kernel_rfl
theorem ze93 : zeroP Tryd.prog 93 = some [SV.dv DV.nilfn] := by kernel_rfl
theorem sz94 : szP Tryd.prog 94 = some 1 := by kernel_rfl
theorem by94 : bytesP Tryd.prog 94 = some 8 := by kernel_rfl
theorem ag94 : aggP Tryd.prog 94 = some false := by kernel_rfl
theorem ze94 : zeroP Tryd.prog 94 = some [SV.dv DV.nilfn] := by kernel_rfl
theorem sz95 : szP Tryd.prog 95 = some 1 := by kernel_rfl
theorem by95 : bytesP Tryd.prog 95 = some 8 := by kernel_rfl
theorem ag95 : aggP Tryd.prog 95 = some false := by kernel_rfl
theorem ze95 : zeroP Tryd.prog 95 = some [SV.dv DV.nilfn] := by kernel_rfl
theorem sz96 : szP Tryd.prog 96 = some 1 := by kernel_rfl
theorem by96 : bytesP Tryd.prog 96 = some 8 := by kernel_rfl
theorem ag96 : aggP Tryd.prog 96 = some false := by kernel_rfl
theorem ze96 : zeroP Tryd.prog 96 = some [SV.dv DV.nilfn] := by kernel_rfl
theorem sz97 : szP Tryd.prog 97 = some 1 := by kernel_rfl
theorem by97 : bytesP Tryd.prog 97 = some 8 := by kernel_rfl
theorem ag97 : aggP Tryd.prog 97 = some false := by kernel_rfl
theorem ze97 : zeroP Tryd.prog 97 = some [SV.dv DV.nilfn] := by kernel_rfl
theorem sz98 : szP Tryd.prog 98 = some 1 := by kernel_rfl
theorem by98 : bytesP Tryd.prog 98 = some 8 := by kernel_rfl
theorem ag98 : aggP Tryd.prog 98 = some false := by kernel_rfl
theorem kd98 : kindP Tryd.prog 98 = some IntKind.i64 := by kernel_rfl
theorem ze98 : zeroP Tryd.prog 98 = some [SV.dv (DV.int IntKind.i64 0)] := by kernel_rfl
theorem sz99 : szP Tryd.prog 99 = some 1 := by kernel_rfl
theorem by99 : bytesP Tryd.prog 99 = some 0 := by kernel_rfl
theorem ag99 : aggP Tryd.prog 99 = some false := by kernel_rfl
theorem ze99 : zeroP Tryd.prog 99 = some [SV.dead] := by kernel_rfl
theorem mixed : Tryd.prog.follows .mixedOrders = true := by kernel_rfl
end Go.Ab.Tryd
