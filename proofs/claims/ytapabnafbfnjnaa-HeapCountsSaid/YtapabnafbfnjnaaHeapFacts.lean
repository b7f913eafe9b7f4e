/- What the program says of its types: written by wip/gen/facts.py. -/
import Derived.Test.YtapabnafbfnjnaaAbF
import Derived.Test.YtapabnafbfnjnaaProg
set_option linter.all false
namespace Go.Ab.Try
open Go Go.Ab Go.Proofs
theorem sz0 : szP Try.prog 0 = some 1 := by kernel_rfl
theorem by0 : bytesP Try.prog 0 = some 0 := by kernel_rfl
theorem ag0 : aggP Try.prog 0 = some false := by kernel_rfl
theorem ze0 : zeroP Try.prog 0 = some [SV.dead] := by kernel_rfl
theorem sz1 : szP Try.prog 1 = some 1 := by kernel_rfl
theorem by1 : bytesP Try.prog 1 = some 8 := by kernel_rfl
theorem ag1 : aggP Try.prog 1 = some false := by kernel_rfl
theorem ze1 : zeroP Try.prog 1 = some [SV.dv DV.nilfn] := by kernel_rfl
theorem sz2 : szP Try.prog 2 = some 1 := by kernel_rfl
theorem by2 : bytesP Try.prog 2 = some 8 := by kernel_rfl
theorem ag2 : aggP Try.prog 2 = some false := by kernel_rfl
theorem kd2 : kindP Try.prog 2 = some IntKind.i64 := by kernel_rfl
theorem ze2 : zeroP Try.prog 2 = some [SV.dv (DV.int IntKind.i64 0)] := by kernel_rfl
theorem sz3 : szP Try.prog 3 = some 1 := by kernel_rfl
theorem by3 : bytesP Try.prog 3 = some 8 := by kernel_rfl
theorem ag3 : aggP Try.prog 3 = some false := by kernel_rfl
theorem kd3 : kindP Try.prog 3 = some IntKind.i64 := by kernel_rfl
theorem ze3 : zeroP Try.prog 3 = some [SV.dv (DV.int IntKind.i64 0)] := by kernel_rfl
theorem sz4 : szP Try.prog 4 = some 1 := by kernel_rfl
theorem by4 : bytesP Try.prog 4 = some 1 := by kernel_rfl
theorem ag4 : aggP Try.prog 4 = some false := by kernel_rfl
theorem ze4 : zeroP Try.prog 4 = some [SV.dv (DV.bool false)] := by kernel_rfl
theorem ib4 : isBoolP Try.prog 4 = true := by kernel_rfl
theorem sz5 : szP Try.prog 5 = some 1 := by kernel_rfl
theorem by5 : bytesP Try.prog 5 = some 1 := by kernel_rfl
theorem ag5 : aggP Try.prog 5 = some false := by kernel_rfl
theorem kd5 : kindP Try.prog 5 = some IntKind.u8 := by kernel_rfl
theorem ze5 : zeroP Try.prog 5 = some [SV.dv (DV.int IntKind.u8 0)] := by kernel_rfl
theorem sz6 : szP Try.prog 6 = some 1 := by kernel_rfl
theorem by6 : bytesP Try.prog 6 = some 1 := by kernel_rfl
theorem ag6 : aggP Try.prog 6 = some false := by kernel_rfl
theorem kd6 : kindP Try.prog 6 = some IntKind.u8 := by kernel_rfl
theorem ze6 : zeroP Try.prog 6 = some [SV.dv (DV.int IntKind.u8 0)] := by kernel_rfl
theorem sz7 : szP Try.prog 7 = some 4 := by kernel_rfl
theorem by7 : bytesP Try.prog 7 = some 24 := by kernel_rfl
theorem ag7 : aggP Try.prog 7 = some true := by kernel_rfl
theorem pl7 : placesP Try.prog 7 = some [(0, 1), (1, 1), (2, 1), (3, 1)] := by kernel_rfl
theorem fd7_0 : fieldP Try.prog 7 0 = some 0 := by kernel_rfl
theorem fd7_1 : fieldP Try.prog 7 1 = some 1 := by kernel_rfl
theorem fd7_2 : fieldP Try.prog 7 2 = some 2 := by kernel_rfl
theorem fd7_3 : fieldP Try.prog 7 3 = some 3 := by kernel_rfl
theorem ze7 : zeroP Try.prog 7 = some [SV.dv (DV.int IntKind.i64 0), SV.dv (DV.int IntKind.i64 0), SV.dv (DV.bool false), SV.dv (DV.int IntKind.u8 0)] := by kernel_rfl
theorem sz8 : szP Try.prog 8 = some 4 := by kernel_rfl
theorem by8 : bytesP Try.prog 8 = some 24 := by kernel_rfl
theorem ag8 : aggP Try.prog 8 = some true := by kernel_rfl
theorem pl8 : placesP Try.prog 8 = some [(0, 1), (1, 1), (2, 1), (3, 1)] := by kernel_rfl
theorem fd8_0 : fieldP Try.prog 8 0 = some 0 := by kernel_rfl
theorem fd8_1 : fieldP Try.prog 8 1 = some 1 := by kernel_rfl
theorem fd8_2 : fieldP Try.prog 8 2 = some 2 := by kernel_rfl
theorem fd8_3 : fieldP Try.prog 8 3 = some 3 := by kernel_rfl
theorem ze8 : zeroP Try.prog 8 = some [SV.dv (DV.int IntKind.i64 0), SV.dv (DV.int IntKind.i64 0), SV.dv (DV.bool false), SV.dv (DV.int IntKind.u8 0)] := by kernel_rfl
theorem sz9 : szP Try.prog 9 = some 1 := by kernel_rfl
theorem by9 : bytesP Try.prog 9 = some 16 := by kernel_rfl
theorem ag9 : aggP Try.prog 9 = some false := by kernel_rfl
theorem ze9 : zeroP Try.prog 9 = some [SV.dv (DV.str { data := { toList := [] } })] := by kernel_rfl
theorem is9 : isStrP Try.prog 9 = true := by kernel_rfl
theorem sz10 : szP Try.prog 10 = some 1 := by kernel_rfl
theorem by10 : bytesP Try.prog 10 = some 16 := by kernel_rfl
theorem ag10 : aggP Try.prog 10 = some false := by kernel_rfl
theorem ze10 : zeroP Try.prog 10 = some [SV.dv (DV.str { data := { toList := [] } })] := by kernel_rfl
theorem is10 : isStrP Try.prog 10 = true := by kernel_rfl
theorem sz11 : szP Try.prog 11 = some 1 := by kernel_rfl
theorem by11 : bytesP Try.prog 11 = some 16 := by kernel_rfl
theorem ag11 : aggP Try.prog 11 = some false := by kernel_rfl
theorem ze11 : zeroP Try.prog 11 = some [SV.dv (DV.str { data := { toList := [] } })] := by kernel_rfl
theorem is11 : isStrP Try.prog 11 = true := by kernel_rfl
theorem sz12 : szP Try.prog 12 = some 1 := by kernel_rfl
theorem by12 : bytesP Try.prog 12 = some 8 := by kernel_rfl
theorem ag12 : aggP Try.prog 12 = some false := by kernel_rfl
theorem kd12 : kindP Try.prog 12 = some IntKind.u64 := by kernel_rfl
theorem ze12 : zeroP Try.prog 12 = some [SV.dv (DV.int IntKind.u64 0)] := by kernel_rfl
theorem sz13 : szP Try.prog 13 = some 2 := by kernel_rfl
theorem by13 : bytesP Try.prog 13 = some 24 := by kernel_rfl
theorem ag13 : aggP Try.prog 13 = some true := by kernel_rfl
theorem pl13 : placesP Try.prog 13 = some [(0, 1), (1, 1)] := by kernel_rfl
theorem fd13_0 : fieldP Try.prog 13 0 = some 0 := by kernel_rfl
theorem fd13_1 : fieldP Try.prog 13 1 = some 1 := by kernel_rfl
theorem ze13 : zeroP Try.prog 13 = some [SV.dv (DV.str { data := { toList := [] } }), SV.dv (DV.int IntKind.u64 0)] := by kernel_rfl
theorem sz14 : szP Try.prog 14 = some 2 := by kernel_rfl
theorem by14 : bytesP Try.prog 14 = some 24 := by kernel_rfl
theorem ag14 : aggP Try.prog 14 = some true := by kernel_rfl
theorem pl14 : placesP Try.prog 14 = some [(0, 1), (1, 1)] := by kernel_rfl
theorem fd14_0 : fieldP Try.prog 14 0 = some 0 := by kernel_rfl
theorem fd14_1 : fieldP Try.prog 14 1 = some 1 := by kernel_rfl
theorem ze14 : zeroP Try.prog 14 = some [SV.dv (DV.str { data := { toList := [] } }), SV.dv (DV.int IntKind.u64 0)] := by kernel_rfl
theorem sz15 : szP Try.prog 15 = some 1 := by kernel_rfl
theorem by15 : bytesP Try.prog 15 = some 8 := by kernel_rfl
theorem ag15 : aggP Try.prog 15 = some false := by kernel_rfl
theorem ze15 : zeroP Try.prog 15 = some [SV.dv DV.nilptr] := by kernel_rfl
theorem sz16 : szP Try.prog 16 = some 1 := by kernel_rfl
theorem by16 : bytesP Try.prog 16 = some 8 := by kernel_rfl
theorem ag16 : aggP Try.prog 16 = some false := by kernel_rfl
theorem ze16 : zeroP Try.prog 16 = some [SV.dv DV.nilptr] := by kernel_rfl
theorem sz17 : szP Try.prog 17 = some 1 := by kernel_rfl
theorem by17 : bytesP Try.prog 17 = some 8 := by kernel_rfl
theorem ag17 : aggP Try.prog 17 = some false := by kernel_rfl
theorem ze17 : zeroP Try.prog 17 = some [SV.dv DV.nilptr] := by kernel_rfl
theorem sz18 : szP Try.prog 18 = some 1 := by kernel_rfl
theorem by18 : bytesP Try.prog 18 = some 8 := by kernel_rfl
theorem ag18 : aggP Try.prog 18 = some true := by kernel_rfl
theorem pl18 : placesP Try.prog 18 = some [(0, 1)] := by kernel_rfl
theorem fd18_0 : fieldP Try.prog 18 0 = some 0 := by kernel_rfl
theorem ze18 : zeroP Try.prog 18 = some [SV.dv DV.nilptr] := by kernel_rfl
theorem sz19 : szP Try.prog 19 = some 1 := by kernel_rfl
theorem by19 : bytesP Try.prog 19 = some 8 := by kernel_rfl
theorem ag19 : aggP Try.prog 19 = some true := by kernel_rfl
theorem pl19 : placesP Try.prog 19 = some [(0, 1)] := by kernel_rfl
theorem fd19_0 : fieldP Try.prog 19 0 = some 0 := by kernel_rfl
theorem ze19 : zeroP Try.prog 19 = some [SV.dv DV.nilptr] := by kernel_rfl
theorem sz20 : szP Try.prog 20 = some 1 := by kernel_rfl
theorem by20 : bytesP Try.prog 20 = some 16 := by kernel_rfl
theorem ag20 : aggP Try.prog 20 = some false := by kernel_rfl
theorem ze20 : zeroP Try.prog 20 = some [SV.dv DV.nilIface] := by kernel_rfl
theorem sz21 : szP Try.prog 21 = some 1 := by kernel_rfl
theorem by21 : bytesP Try.prog 21 = some 4 := by kernel_rfl
theorem ag21 : aggP Try.prog 21 = some false := by kernel_rfl
theorem kd21 : kindP Try.prog 21 = some IntKind.i32 := by kernel_rfl
theorem ze21 : zeroP Try.prog 21 = some [SV.dv (DV.int IntKind.i32 0)] := by kernel_rfl
theorem sz22 : szP Try.prog 22 = some 1 := by kernel_rfl
theorem by22 : bytesP Try.prog 22 = some 24 := by kernel_rfl
theorem ag22 : aggP Try.prog 22 = some false := by kernel_rfl
theorem el22 : elemP Try.prog 22 = some 23 := by kernel_rfl
theorem ze22 : zeroP Try.prog 22 = some [SV.nils] := by kernel_rfl
theorem il22 : isSliceP Try.prog 22 = true := by kernel_rfl
theorem sz23 : szP Try.prog 23 = some 1 := by kernel_rfl
theorem by23 : bytesP Try.prog 23 = some 24 := by kernel_rfl
theorem ag23 : aggP Try.prog 23 = some false := by kernel_rfl
theorem el23 : elemP Try.prog 23 = some 3 := by kernel_rfl
theorem ze23 : zeroP Try.prog 23 = some [SV.nils] := by kernel_rfl
theorem il23 : isSliceP Try.prog 23 = true := by kernel_rfl
theorem sz24 : szP Try.prog 24 = some 2 := by kernel_rfl
theorem by24 : bytesP Try.prog 24 = some 48 := by kernel_rfl
theorem ag24 : aggP Try.prog 24 = some true := by kernel_rfl
theorem pl24 : placesP Try.prog 24 = some [(0, 1), (1, 1)] := by kernel_rfl
theorem fd24_0 : fieldP Try.prog 24 0 = some 0 := by kernel_rfl
theorem fd24_1 : fieldP Try.prog 24 1 = some 1 := by kernel_rfl
theorem ze24 : zeroP Try.prog 24 = some [SV.nils, SV.nils] := by kernel_rfl
theorem sz25 : szP Try.prog 25 = some 2 := by kernel_rfl
theorem by25 : bytesP Try.prog 25 = some 48 := by kernel_rfl
theorem ag25 : aggP Try.prog 25 = some true := by kernel_rfl
theorem pl25 : placesP Try.prog 25 = some [(0, 1), (1, 1)] := by kernel_rfl
theorem fd25_0 : fieldP Try.prog 25 0 = some 0 := by kernel_rfl
theorem fd25_1 : fieldP Try.prog 25 1 = some 1 := by kernel_rfl
theorem ze25 : zeroP Try.prog 25 = some [SV.nils, SV.nils] := by kernel_rfl
theorem sz26 : szP Try.prog 26 = some 3 := by kernel_rfl
theorem by26 : bytesP Try.prog 26 = some 72 := by kernel_rfl
theorem ag26 : aggP Try.prog 26 = some true := by kernel_rfl
theorem pl26 : placesP Try.prog 26 = some [(0, 1), (1, 1), (2, 1)] := by kernel_rfl
theorem fd26_0 : fieldP Try.prog 26 0 = some 0 := by kernel_rfl
theorem fd26_1 : fieldP Try.prog 26 1 = some 1 := by kernel_rfl
theorem fd26_2 : fieldP Try.prog 26 2 = some 2 := by kernel_rfl
theorem ze26 : zeroP Try.prog 26 = some [SV.nils, SV.nils, SV.nils] := by kernel_rfl
theorem sz27 : szP Try.prog 27 = some 3 := by kernel_rfl
theorem by27 : bytesP Try.prog 27 = some 72 := by kernel_rfl
theorem ag27 : aggP Try.prog 27 = some true := by kernel_rfl
theorem pl27 : placesP Try.prog 27 = some [(0, 1), (1, 1), (2, 1)] := by kernel_rfl
theorem fd27_0 : fieldP Try.prog 27 0 = some 0 := by kernel_rfl
theorem fd27_1 : fieldP Try.prog 27 1 = some 1 := by kernel_rfl
theorem fd27_2 : fieldP Try.prog 27 2 = some 2 := by kernel_rfl
theorem ze27 : zeroP Try.prog 27 = some [SV.nils, SV.nils, SV.nils] := by kernel_rfl
theorem sz28 : szP Try.prog 28 = some 1 := by kernel_rfl
theorem by28 : bytesP Try.prog 28 = some 8 := by kernel_rfl
theorem ag28 : aggP Try.prog 28 = some false := by kernel_rfl
theorem kd28 : kindP Try.prog 28 = some IntKind.i64 := by kernel_rfl
theorem ze28 : zeroP Try.prog 28 = some [SV.dv (DV.int IntKind.i64 0)] := by kernel_rfl
theorem sz29 : szP Try.prog 29 = some 1 := by kernel_rfl
theorem by29 : bytesP Try.prog 29 = some 0 := by kernel_rfl
theorem ag29 : aggP Try.prog 29 = some false := by kernel_rfl
theorem ze29 : zeroP Try.prog 29 = some [SV.dead] := by kernel_rfl
theorem sz30 : szP Try.prog 30 = some 1 := by kernel_rfl
theorem by30 : bytesP Try.prog 30 = some 8 := by kernel_rfl
theorem ag30 : aggP Try.prog 30 = some false := by kernel_rfl
theorem ze30 : zeroP Try.prog 30 = some [SV.dv DV.nilfn] := by kernel_rfl
theorem sz31 : szP Try.prog 31 = some 1 := by kernel_rfl
theorem by31 : bytesP Try.prog 31 = some 8 := by kernel_rfl
theorem ag31 : aggP Try.prog 31 = some false := by kernel_rfl
theorem ze31 : zeroP Try.prog 31 = some [SV.dv DV.nilfn] := by kernel_rfl
theorem sz32 : szP Try.prog 32 = some 1 := by kernel_rfl
theorem by32 : bytesP Try.prog 32 = some 8 := by kernel_rfl
theorem ag32 : aggP Try.prog 32 = some false := by kernel_rfl
theorem ze32 : zeroP Try.prog 32 = some [SV.dv DV.nilfn] := by kernel_rfl
theorem sz33 : szP Try.prog 33 = some 1 := by kernel_rfl
theorem by33 : bytesP Try.prog 33 = some 8 := by kernel_rfl
theorem ag33 : aggP Try.prog 33 = some false := by kernel_rfl
theorem ze33 : zeroP Try.prog 33 = some [SV.dv DV.nilfn] := by kernel_rfl
theorem sz34 : szP Try.prog 34 = some 1 := by kernel_rfl
theorem by34 : bytesP Try.prog 34 = some 0 := by kernel_rfl
theorem ag34 : aggP Try.prog 34 = some false := by kernel_rfl
theorem ze34 : zeroP Try.prog 34 = some [SV.dead] := by kernel_rfl
theorem sz35 : szP Try.prog 35 = some 1 := by kernel_rfl
theorem by35 : bytesP Try.prog 35 = some 8 := by kernel_rfl
theorem ag35 : aggP Try.prog 35 = some false := by kernel_rfl
theorem ze35 : zeroP Try.prog 35 = some [SV.dv DV.nilfn] := by kernel_rfl
theorem sz36 : szP Try.prog 36 = some 1 := by kernel_rfl
theorem by36 : bytesP Try.prog 36 = some 0 := by kernel_rfl
theorem ag36 : aggP Try.prog 36 = some false := by kernel_rfl
theorem ze36 : zeroP Try.prog 36 = some [SV.dead] := by kernel_rfl
theorem sz37 : szP Try.prog 37 = some 1 := by kernel_rfl
theorem by37 : bytesP Try.prog 37 = some 8 := by kernel_rfl
theorem ag37 : aggP Try.prog 37 = some false := by kernel_rfl
theorem ze37 : zeroP Try.prog 37 = some [SV.dv DV.nilfn] := by kernel_rfl
theorem sz38 : szP Try.prog 38 = some 1 := by kernel_rfl
theorem by38 : bytesP Try.prog 38 = some 8 := by kernel_rfl
theorem ag38 : aggP Try.prog 38 = some false := by kernel_rfl
theorem ze38 : zeroP Try.prog 38 = some [SV.dv DV.nilfn] := by kernel_rfl
theorem sz39 : szP Try.prog 39 = some 1 := by kernel_rfl
theorem by39 : bytesP Try.prog 39 = some 0 := by kernel_rfl
theorem ag39 : aggP Try.prog 39 = some false := by kernel_rfl
theorem ze39 : zeroP Try.prog 39 = some [SV.dead] := by kernel_rfl
theorem sz40 : szP Try.prog 40 = some 1 := by kernel_rfl
theorem by40 : bytesP Try.prog 40 = some 8 := by kernel_rfl
theorem ag40 : aggP Try.prog 40 = some false := by kernel_rfl
theorem ze40 : zeroP Try.prog 40 = some [SV.dv DV.nilfn] := by kernel_rfl
theorem sz41 : szP Try.prog 41 = some 1 := by kernel_rfl
theorem by41 : bytesP Try.prog 41 = some 8 := by kernel_rfl
theorem ag41 : aggP Try.prog 41 = some false := by kernel_rfl
theorem ze41 : zeroP Try.prog 41 = some [SV.dv DV.nilfn] := by kernel_rfl
theorem sz42 : szP Try.prog 42 = some 1 := by kernel_rfl
theorem by42 : bytesP Try.prog 42 = some 8 := by kernel_rfl
theorem ag42 : aggP Try.prog 42 = some false := by kernel_rfl
theorem ze42 : zeroP Try.prog 42 = some [SV.dv DV.nilfn] := by kernel_rfl
theorem sz43 : szP Try.prog 43 = some 1 := by kernel_rfl
theorem by43 : bytesP Try.prog 43 = some 8 := by kernel_rfl
theorem ag43 : aggP Try.prog 43 = some false := by kernel_rfl
theorem ze43 : zeroP Try.prog 43 = some [SV.dv DV.nilfn] := by kernel_rfl
theorem sz44 : szP Try.prog 44 = some 1 := by kernel_rfl
theorem by44 : bytesP Try.prog 44 = some 8 := by kernel_rfl
theorem ag44 : aggP Try.prog 44 = some false := by kernel_rfl
theorem ze44 : zeroP Try.prog 44 = some [SV.dv DV.nilfn] := by kernel_rfl
theorem sz45 : szP Try.prog 45 = some 1 := by kernel_rfl
theorem by45 : bytesP Try.prog 45 = some 8 := by kernel_rfl
theorem ag45 : aggP Try.prog 45 = some false := by kernel_rfl
theorem ze45 : zeroP Try.prog 45 = some [SV.dv DV.nilfn] := by kernel_rfl
theorem sz46 : szP Try.prog 46 = some 1 := by kernel_rfl
theorem by46 : bytesP Try.prog 46 = some 8 := by kernel_rfl
theorem ag46 : aggP Try.prog 46 = some false := by kernel_rfl
theorem ze46 : zeroP Try.prog 46 = some [SV.dv DV.nilfn] := by kernel_rfl
theorem sz47 : szP Try.prog 47 = some 1 := by kernel_rfl
theorem by47 : bytesP Try.prog 47 = some 8 := by kernel_rfl
theorem ag47 : aggP Try.prog 47 = some false := by kernel_rfl
theorem ze47 : zeroP Try.prog 47 = some [SV.dv DV.nilfn] := by kernel_rfl
theorem sz48 : szP Try.prog 48 = some 1 := by kernel_rfl
theorem by48 : bytesP Try.prog 48 = some 8 := by kernel_rfl
theorem ag48 : aggP Try.prog 48 = some false := by kernel_rfl
theorem ze48 : zeroP Try.prog 48 = some [SV.dv DV.nilfn] := by kernel_rfl
theorem sz49 : szP Try.prog 49 = some 1 := by kernel_rfl
theorem by49 : bytesP Try.prog 49 = some 8 := by kernel_rfl
theorem ag49 : aggP Try.prog 49 = some false := by kernel_rfl
theorem ze49 : zeroP Try.prog 49 = some [SV.dv DV.nilfn] := by kernel_rfl
theorem sz50 : szP Try.prog 50 = some 2 := by kernel_rfl
theorem by50 : bytesP Try.prog 50 = some 16 := by kernel_rfl
theorem ag50 : aggP Try.prog 50 = some true := by kernel_rfl
theorem pl50 : placesP Try.prog 50 = some [(0, 1), (1, 1)] := by kernel_rfl
theorem fd50_0 : fieldP Try.prog 50 0 = some 0 := by kernel_rfl
theorem fd50_1 : fieldP Try.prog 50 1 = some 1 := by kernel_rfl
theorem ze50 : zeroP Try.prog 50 = some [SV.dv (DV.int IntKind.i64 0), SV.dv (DV.int IntKind.i64 0)] := by kernel_rfl
theorem sz51 : szP Try.prog 51 = some 2 := by kernel_rfl
theorem by51 : bytesP Try.prog 51 = some 16 := by kernel_rfl
theorem ag51 : aggP Try.prog 51 = some true := by kernel_rfl
theorem pl51 : placesP Try.prog 51 = some [(0, 1), (1, 1)] := by kernel_rfl
theorem fd51_0 : fieldP Try.prog 51 0 = some 0 := by kernel_rfl
theorem fd51_1 : fieldP Try.prog 51 1 = some 1 := by kernel_rfl
theorem ze51 : zeroP Try.prog 51 = some [SV.dv (DV.int IntKind.i64 0), SV.dv (DV.int IntKind.i64 0)] := by kernel_rfl
theorem sz52 : szP Try.prog 52 = some 1 := by kernel_rfl
theorem by52 : bytesP Try.prog 52 = some 0 := by kernel_rfl
theorem ag52 : aggP Try.prog 52 = some false := by kernel_rfl
theorem ze52 : zeroP Try.prog 52 = some [SV.dead] := by kernel_rfl
theorem sz53 : szP Try.prog 53 = some 1 := by kernel_rfl
theorem by53 : bytesP Try.prog 53 = some 8 := by kernel_rfl
theorem ag53 : aggP Try.prog 53 = some false := by kernel_rfl
theorem ze53 : zeroP Try.prog 53 = some [SV.dv DV.nilfn] := by kernel_rfl
theorem sz54 : szP Try.prog 54 = some 1 := by kernel_rfl
theorem by54 : bytesP Try.prog 54 = some 8 := by kernel_rfl
theorem ag54 : aggP Try.prog 54 = some false := by kernel_rfl
theorem ze54 : zeroP Try.prog 54 = some [SV.dv DV.nilfn] := by kernel_rfl
theorem sz55 : szP Try.prog 55 = some 1 := by kernel_rfl
theorem by55 : bytesP Try.prog 55 = some 8 := by kernel_rfl
theorem ag55 : aggP Try.prog 55 = some false := by kernel_rfl
theorem ze55 : zeroP Try.prog 55 = some [SV.dv DV.nilfn] := by kernel_rfl
theorem sz56 : szP Try.prog 56 = some 1 := by kernel_rfl
theorem by56 : bytesP Try.prog 56 = some 0 := by kernel_rfl
theorem ag56 : aggP Try.prog 56 = some false := by kernel_rfl
theorem ze56 : zeroP Try.prog 56 = some [SV.dead] := by kernel_rfl
theorem sz57 : szP Try.prog 57 = some 1 := by kernel_rfl
theorem by57 : bytesP Try.prog 57 = some 8 := by kernel_rfl
theorem ag57 : aggP Try.prog 57 = some false := by kernel_rfl
theorem ze57 : zeroP Try.prog 57 = some [SV.dv DV.nilfn] := by kernel_rfl
theorem sz58 : szP Try.prog 58 = some 1 := by kernel_rfl
theorem by58 : bytesP Try.prog 58 = some 8 := by kernel_rfl
theorem ag58 : aggP Try.prog 58 = some false := by kernel_rfl
theorem ze58 : zeroP Try.prog 58 = some [SV.dv DV.nilfn] := by kernel_rfl
theorem sz59 : szP Try.prog 59 = some 1 := by kernel_rfl
theorem by59 : bytesP Try.prog 59 = some 8 := by kernel_rfl
theorem ag59 : aggP Try.prog 59 = some false := by kernel_rfl
theorem ze59 : zeroP Try.prog 59 = some [SV.dv DV.nilfn] := by kernel_rfl
theorem sz60 : szP Try.prog 60 = some 1 := by kernel_rfl
theorem by60 : bytesP Try.prog 60 = some 8 := by kernel_rfl
theorem ag60 : aggP Try.prog 60 = some false := by kernel_rfl
theorem ze60 : zeroP Try.prog 60 = some [SV.dv DV.nilfn] := by kernel_rfl
theorem sz61 : szP Try.prog 61 = some 1 := by kernel_rfl
theorem by61 : bytesP Try.prog 61 = some 8 := by kernel_rfl
theorem ag61 : aggP Try.prog 61 = some false := by kernel_rfl
theorem ze61 : zeroP Try.prog 61 = some [SV.dv DV.nilfn] := by kernel_rfl
theorem sz62 : szP Try.prog 62 = some 1 := by kernel_rfl
theorem by62 : bytesP Try.prog 62 = some 8 := by kernel_rfl
theorem ag62 : aggP Try.prog 62 = some false := by kernel_rfl
theorem ze62 : zeroP Try.prog 62 = some [SV.dv DV.nilfn] := by kernel_rfl
theorem sz63 : szP Try.prog 63 = some 3 := by kernel_rfl
theorem by63 : bytesP Try.prog 63 = some 72 := by kernel_rfl
theorem ag63 : aggP Try.prog 63 = some true := by kernel_rfl
theorem pl63 : placesP Try.prog 63 = some [(0, 1), (1, 1), (2, 1)] := by kernel_rfl
theorem fd63_0 : fieldP Try.prog 63 0 = some 0 := by kernel_rfl
theorem fd63_1 : fieldP Try.prog 63 1 = some 1 := by kernel_rfl
theorem fd63_2 : fieldP Try.prog 63 2 = some 2 := by kernel_rfl
theorem ze63 : zeroP Try.prog 63 = some [SV.nils, SV.nils, SV.nils] := by kernel_rfl
theorem sz64 : szP Try.prog 64 = some 3 := by kernel_rfl
theorem by64 : bytesP Try.prog 64 = some 72 := by kernel_rfl
theorem ag64 : aggP Try.prog 64 = some true := by kernel_rfl
theorem pl64 : placesP Try.prog 64 = some [(0, 1), (1, 1), (2, 1)] := by kernel_rfl
theorem fd64_0 : fieldP Try.prog 64 0 = some 0 := by kernel_rfl
theorem fd64_1 : fieldP Try.prog 64 1 = some 1 := by kernel_rfl
theorem fd64_2 : fieldP Try.prog 64 2 = some 2 := by kernel_rfl
theorem ze64 : zeroP Try.prog 64 = some [SV.nils, SV.nils, SV.nils] := by kernel_rfl
theorem sz65 : szP Try.prog 65 = some 1 := by kernel_rfl
theorem by65 : bytesP Try.prog 65 = some 8 := by kernel_rfl
theorem ag65 : aggP Try.prog 65 = some false := by kernel_rfl
theorem ze65 : zeroP Try.prog 65 = some [SV.dv DV.nilfn] := by kernel_rfl
theorem sz66 : szP Try.prog 66 = some 1 := by kernel_rfl
theorem by66 : bytesP Try.prog 66 = some 8 := by kernel_rfl
theorem ag66 : aggP Try.prog 66 = some false := by kernel_rfl
theorem ze66 : zeroP Try.prog 66 = some [SV.dv DV.nilfn] := by kernel_rfl
theorem sz67 : szP Try.prog 67 = some 1 := by kernel_rfl
theorem by67 : bytesP Try.prog 67 = some 8 := by kernel_rfl
theorem ag67 : aggP Try.prog 67 = some false := by kernel_rfl
theorem ze67 : zeroP Try.prog 67 = some [SV.dv DV.nilfn] := by kernel_rfl
theorem sz68 : szP Try.prog 68 = some 1 := by kernel_rfl
theorem by68 : bytesP Try.prog 68 = some 8 := by kernel_rfl
theorem ag68 : aggP Try.prog 68 = some false := by kernel_rfl
theorem ze68 : zeroP Try.prog 68 = some [SV.dv DV.nilfn] := by kernel_rfl
theorem sz69 : szP Try.prog 69 = some 1 := by kernel_rfl
theorem by69 : bytesP Try.prog 69 = some 8 := by kernel_rfl
theorem ag69 : aggP Try.prog 69 = some false := by kernel_rfl
theorem ze69 : zeroP Try.prog 69 = some [SV.dv DV.nilfn] := by kernel_rfl
theorem sz70 : szP Try.prog 70 = some 1 := by kernel_rfl
theorem by70 : bytesP Try.prog 70 = some 8 := by kernel_rfl
theorem ag70 : aggP Try.prog 70 = some false := by kernel_rfl
theorem ze70 : zeroP Try.prog 70 = some [SV.dv DV.nilfn] := by kernel_rfl
theorem sz71 : szP Try.prog 71 = some 1 := by kernel_rfl
theorem by71 : bytesP Try.prog 71 = some 8 := by kernel_rfl
theorem ag71 : aggP Try.prog 71 = some false := by kernel_rfl
theorem ze71 : zeroP Try.prog 71 = some [SV.dv DV.nilfn] := by kernel_rfl
theorem sz72 : szP Try.prog 72 = some 1 := by kernel_rfl
theorem by72 : bytesP Try.prog 72 = some 24 := by kernel_rfl
theorem ag72 : aggP Try.prog 72 = some false := by kernel_rfl
theorem el72 : elemP Try.prog 72 = some 4 := by kernel_rfl
theorem ze72 : zeroP Try.prog 72 = some [SV.nils] := by kernel_rfl
theorem il72 : isSliceP Try.prog 72 = true := by kernel_rfl
theorem sz73 : szP Try.prog 73 = some 1 := by kernel_rfl
theorem by73 : bytesP Try.prog 73 = some 8 := by kernel_rfl
theorem ag73 : aggP Try.prog 73 = some false := by kernel_rfl
theorem ze73 : zeroP Try.prog 73 = some [SV.dv DV.nilfn] := by kernel_rfl
theorem sz74 : szP Try.prog 74 = some 1 := by kernel_rfl
theorem by74 : bytesP Try.prog 74 = some 0 := by kernel_rfl
theorem ag74 : aggP Try.prog 74 = some false := by kernel_rfl
theorem ze74 : zeroP Try.prog 74 = some [SV.dead] := by kernel_rfl
theorem sz75 : szP Try.prog 75 = some 1 := by kernel_rfl
theorem by75 : bytesP Try.prog 75 = some 8 := by kernel_rfl
theorem ag75 : aggP Try.prog 75 = some false := by kernel_rfl
theorem ze75 : zeroP Try.prog 75 = some [SV.dv DV.nilfn] := by kernel_rfl
theorem sz76 : szP Try.prog 76 = some 1 := by kernel_rfl
theorem by76 : bytesP Try.prog 76 = some 8 := by kernel_rfl
theorem ag76 : aggP Try.prog 76 = some false := by kernel_rfl
theorem ze76 : zeroP Try.prog 76 = some [SV.dv DV.nilfn] := by kernel_rfl
theorem sz77 : szP Try.prog 77 = some 1 := by kernel_rfl
theorem by77 : bytesP Try.prog 77 = some 8 := by kernel_rfl
theorem ag77 : aggP Try.prog 77 = some false := by kernel_rfl
theorem ze77 : zeroP Try.prog 77 = some [SV.dv DV.nilfn] := by kernel_rfl
theorem sz78 : szP Try.prog 78 = some 1 := by kernel_rfl
theorem by78 : bytesP Try.prog 78 = some 8 := by kernel_rfl
theorem ag78 : aggP Try.prog 78 = some false := by kernel_rfl
theorem ze78 : zeroP Try.prog 78 = some [SV.dv DV.nilfn] := by kernel_rfl
theorem sz79 : szP Try.prog 79 = some 1 := by kernel_rfl
theorem by79 : bytesP Try.prog 79 = some 8 := by kernel_rfl
theorem ag79 : aggP Try.prog 79 = some false := by kernel_rfl
theorem ze79 : zeroP Try.prog 79 = some [SV.dv DV.nilfn] := by kernel_rfl
theorem sz80 : szP Try.prog 80 = some 1 := by kernel_rfl
theorem by80 : bytesP Try.prog 80 = some 8 := by kernel_rfl
theorem ag80 : aggP Try.prog 80 = some false := by kernel_rfl
theorem ze80 : zeroP Try.prog 80 = some [SV.dv DV.nilfn] := by kernel_rfl
theorem sz81 : szP Try.prog 81 = some 1 := by kernel_rfl
theorem by81 : bytesP Try.prog 81 = some 8 := by kernel_rfl
theorem ag81 : aggP Try.prog 81 = some false := by kernel_rfl
theorem ze81 : zeroP Try.prog 81 = some [SV.dv DV.nilfn] := by kernel_rfl
theorem sz82 : szP Try.prog 82 = some 1 := by kernel_rfl
theorem by82 : bytesP Try.prog 82 = some 0 := by kernel_rfl
theorem ag82 : aggP Try.prog 82 = some false := by kernel_rfl
theorem ze82 : zeroP Try.prog 82 = some [SV.dead] := by kernel_rfl
theorem sz83 : szP Try.prog 83 = some 1 := by kernel_rfl
theorem by83 : bytesP Try.prog 83 = some 8 := by kernel_rfl
theorem ag83 : aggP Try.prog 83 = some false := by kernel_rfl
theorem ze83 : zeroP Try.prog 83 = some [SV.dv DV.nilfn] := by kernel_rfl
theorem sz84 : szP Try.prog 84 = some 1 := by kernel_rfl
theorem by84 : bytesP Try.prog 84 = some 8 := by kernel_rfl
theorem ag84 : aggP Try.prog 84 = some false := by kernel_rfl
theorem ze84 : zeroP Try.prog 84 = some [SV.dv DV.nilfn] := by kernel_rfl
theorem sz85 : szP Try.prog 85 = some 1 := by kernel_rfl
theorem by85 : bytesP Try.prog 85 = some 8 := by kernel_rfl
theorem ag85 : aggP Try.prog 85 = some false := by kernel_rfl
theorem ze85 : zeroP Try.prog 85 = some [SV.dv DV.nilfn] := by kernel_rfl
theorem sz86 : szP Try.prog 86 = some 1 := by kernel_rfl
theorem by86 : bytesP Try.prog 86 = some 0 := by kernel_rfl
theorem ag86 : aggP Try.prog 86 = some false := by kernel_rfl
theorem ze86 : zeroP Try.prog 86 = some [SV.dead] := by kernel_rfl
theorem sz87 : szP Try.prog 87 = some 1 := by kernel_rfl
theorem by87 : bytesP Try.prog 87 = some 8 := by kernel_rfl
theorem ag87 : aggP Try.prog 87 = some false := by kernel_rfl
theorem ze87 : zeroP Try.prog 87 = some [SV.dv DV.nilfn] := by kernel_rfl
theorem sz88 : szP Try.prog 88 = some 1 := by kernel_rfl
theorem by88 : bytesP Try.prog 88 = some 8 := by kernel_rfl
theorem ag88 : aggP Try.prog 88 = some false := by kernel_rfl
theorem ze88 : zeroP Try.prog 88 = some [SV.dv DV.nilfn] := by kernel_rfl
theorem sz89 : szP Try.prog 89 = some 1 := by kernel_rfl
theorem by89 : bytesP Try.prog 89 = some 8 := by kernel_rfl
theorem ag89 : aggP Try.prog 89 = some false := by kernel_rfl
theorem ze89 : zeroP Try.prog 89 = some [SV.dv DV.nilfn] := by kernel_rfl
theorem sz90 : szP Try.prog 90 = some 1 := by kernel_rfl
theorem by90 : bytesP Try.prog 90 = some 8 := by kernel_rfl
theorem ag90 : aggP Try.prog 90 = some false := by kernel_rfl
theorem ze90 : zeroP Try.prog 90 = some [SV.dv DV.nilfn] := by kernel_rfl
theorem sz91 : szP Try.prog 91 = some 1 := by kernel_rfl
theorem by91 : bytesP Try.prog 91 = some 8 := by kernel_rfl
theorem ag91 : aggP Try.prog 91 = some false := by kernel_rfl
theorem ze91 : zeroP Try.prog 91 = some [SV.dv DV.nilfn] := by kernel_rfl
theorem sz92 : szP Try.prog 92 = some 1 := by kernel_rfl
theorem by92 : bytesP Try.prog 92 = some 8 := by kernel_rfl
theorem ag92 : aggP Try.prog 92 = some false := by kernel_rfl
theorem ze92 : zeroP Try.prog 92 = some [SV.dv DV.nilfn] := by kernel_rfl
theorem sz93 : szP Try.prog 93 = some 1 := by kernel_rfl
theorem by93 : bytesP Try.prog 93 = some 8 := by kernel_rfl
theorem ag93 : aggP Try.prog 93 = some false := by kernel_rfl
theorem ze93 : zeroP Try.prog 93 = some [SV.dv DV.nilfn] := by kernel_rfl
theorem sz94 : szP Try.prog 94 = some 1 := by kernel_rfl
theorem by94 : bytesP Try.prog 94 = some 8 := by kernel_rfl
theorem ag94 : aggP Try.prog 94 = some false := by kernel_rfl
theorem ze94 : zeroP Try.prog 94 = some [SV.dv DV.nilfn] := by kernel_rfl
theorem sz95 : szP Try.prog 95 = some 1 := by kernel_rfl
theorem by95 : bytesP Try.prog 95 = some 8 := by kernel_rfl
theorem ag95 : aggP Try.prog 95 = some false := by kernel_rfl
theorem ze95 : zeroP Try.prog 95 = some [SV.dv DV.nilfn] := by kernel_rfl
theorem sz96 : szP Try.prog 96 = some 1 := by kernel_rfl
theorem by96 : bytesP Try.prog 96 = some 8 := by kernel_rfl
theorem ag96 : aggP Try.prog 96 = some false := by kernel_rfl
theorem ze96 : zeroP Try.prog 96 = some [SV.dv DV.nilfn] := by kernel_rfl
theorem sz97 : szP Try.prog 97 = some 1 := by kernel_rfl
theorem by97 : bytesP Try.prog 97 = some 8 := by kernel_rfl
theorem ag97 : aggP Try.prog 97 = some false := by kernel_rfl
theorem ze97 : zeroP Try.prog 97 = some [SV.dv DV.nilfn] := by kernel_rfl
theorem sz98 : szP Try.prog 98 = some 4 := by kernel_rfl
theorem by98 : bytesP Try.prog 98 = some 40 := by kernel_rfl
theorem ag98 : aggP Try.prog 98 = some true := by kernel_rfl
theorem pl98 : placesP Try.prog 98 = some [(0, 1), (1, 1), (2, 1), (3, 1)] := by kernel_rfl
theorem fd98_0 : fieldP Try.prog 98 0 = some 0 := by kernel_rfl
theorem fd98_1 : fieldP Try.prog 98 1 = some 1 := by kernel_rfl
theorem fd98_2 : fieldP Try.prog 98 2 = some 2 := by kernel_rfl
theorem fd98_3 : fieldP Try.prog 98 3 = some 3 := by kernel_rfl
theorem ze98 : zeroP Try.prog 98 = some [SV.dv DV.nilptr, SV.dv DV.nilptr, SV.dv DV.nilptr, SV.dv (DV.str { data := { toList := [] } })] := by kernel_rfl
theorem sz99 : szP Try.prog 99 = some 4 := by kernel_rfl
theorem by99 : bytesP Try.prog 99 = some 40 := by kernel_rfl
theorem ag99 : aggP Try.prog 99 = some true := by kernel_rfl
theorem pl99 : placesP Try.prog 99 = some [(0, 1), (1, 1), (2, 1), (3, 1)] := by kernel_rfl
theorem fd99_0 : fieldP Try.prog 99 0 = some 0 := by kernel_rfl
theorem fd99_1 : fieldP Try.prog 99 1 = some 1 := by kernel_rfl
theorem fd99_2 : fieldP Try.prog 99 2 = some 2 := by kernel_rfl
theorem fd99_3 : fieldP Try.prog 99 3 = some 3 := by kernel_rfl
theorem ze99 : zeroP Try.prog 99 = some [SV.dv DV.nilptr, SV.dv DV.nilptr, SV.dv DV.nilptr, SV.dv (DV.str { data := { toList := [] } })] := by kernel_rfl
theorem sz100 : szP Try.prog 100 = some 0 := by kernel_rfl
theorem by100 : bytesP Try.prog 100 = some 0 := by kernel_rfl
theorem ag100 : aggP Try.prog 100 = some true := by kernel_rfl
theorem ze100 : zeroP Try.prog 100 = some [] := by kernel_rfl
theorem sz101 : szP Try.prog 101 = some 0 := by kernel_rfl
theorem by101 : bytesP Try.prog 101 = some 0 := by kernel_rfl
theorem ag101 : aggP Try.prog 101 = some true := by kernel_rfl
theorem pl101 : placesP Try.prog 101 = some [(0, 0)] := by kernel_rfl
theorem ze101 : zeroP Try.prog 101 = some [] := by kernel_rfl
theorem sz102 : szP Try.prog 102 = some 0 := by kernel_rfl
theorem by102 : bytesP Try.prog 102 = some 0 := by kernel_rfl
theorem ag102 : aggP Try.prog 102 = some true := by kernel_rfl
theorem pl102 : placesP Try.prog 102 = some [(0, 0)] := by kernel_rfl
theorem ze102 : zeroP Try.prog 102 = some [] := by kernel_rfl
theorem sz103 : szP Try.prog 103 = some 1 := by kernel_rfl
theorem by103 : bytesP Try.prog 103 = some 8 := by kernel_rfl
theorem ag103 : aggP Try.prog 103 = some false := by kernel_rfl
theorem ze103 : zeroP Try.prog 103 = some [SV.dv DV.nilfn] := by kernel_rfl
theorem sz104 : szP Try.prog 104 = some 1 := by kernel_rfl
theorem by104 : bytesP Try.prog 104 = some 4 := by kernel_rfl
theorem ag104 : aggP Try.prog 104 = some false := by kernel_rfl
theorem kd104 : kindP Try.prog 104 = some IntKind.u32 := by kernel_rfl
theorem ze104 : zeroP Try.prog 104 = some [SV.dv (DV.int IntKind.u32 0)] := by kernel_rfl
theorem sz105 : szP Try.prog 105 = some 1 := by kernel_rfl
theorem by105 : bytesP Try.prog 105 = some 1 := by kernel_rfl
theorem ag105 : aggP Try.prog 105 = some false := by kernel_rfl
theorem kd105 : kindP Try.prog 105 = some IntKind.u8 := by kernel_rfl
theorem ze105 : zeroP Try.prog 105 = some [SV.dv (DV.int IntKind.u8 0)] := by kernel_rfl
theorem sz106 : szP Try.prog 106 = some 1 := by kernel_rfl
theorem by106 : bytesP Try.prog 106 = some 1 := by kernel_rfl
theorem ag106 : aggP Try.prog 106 = some false := by kernel_rfl
theorem kd106 : kindP Try.prog 106 = some IntKind.u8 := by kernel_rfl
theorem ze106 : zeroP Try.prog 106 = some [SV.dv (DV.int IntKind.u8 0)] := by kernel_rfl
theorem sz107 : szP Try.prog 107 = some 1 := by kernel_rfl
theorem by107 : bytesP Try.prog 107 = some 8 := by kernel_rfl
theorem ag107 : aggP Try.prog 107 = some false := by kernel_rfl
theorem ze107 : zeroP Try.prog 107 = some [SV.dv DV.nilfn] := by kernel_rfl
theorem sz108 : szP Try.prog 108 = some 1 := by kernel_rfl
theorem by108 : bytesP Try.prog 108 = some 8 := by kernel_rfl
theorem ag108 : aggP Try.prog 108 = some false := by kernel_rfl
theorem ze108 : zeroP Try.prog 108 = some [SV.dv DV.nilptr] := by kernel_rfl
theorem sz109 : szP Try.prog 109 = some 1 := by kernel_rfl
theorem by109 : bytesP Try.prog 109 = some 4 := by kernel_rfl
theorem ag109 : aggP Try.prog 109 = some false := by kernel_rfl
theorem kd109 : kindP Try.prog 109 = some IntKind.i32 := by kernel_rfl
theorem ze109 : zeroP Try.prog 109 = some [SV.dv (DV.int IntKind.i32 0)] := by kernel_rfl
theorem sz110 : szP Try.prog 110 = some 1 := by kernel_rfl
theorem by110 : bytesP Try.prog 110 = some 4 := by kernel_rfl
theorem ag110 : aggP Try.prog 110 = some false := by kernel_rfl
theorem kd110 : kindP Try.prog 110 = some IntKind.i32 := by kernel_rfl
theorem ze110 : zeroP Try.prog 110 = some [SV.dv (DV.int IntKind.i32 0)] := by kernel_rfl
theorem sz111 : szP Try.prog 111 = some 11 := by kernel_rfl
theorem by111 : bytesP Try.prog 111 = some 48 := by kernel_rfl
theorem ag111 : aggP Try.prog 111 = some true := by kernel_rfl
theorem pl111 : placesP Try.prog 111 = some [(0, 1), (1, 1), (2, 1), (3, 1), (4, 1), (5, 1), (6, 1), (7, 1), (8, 1), (9, 1), (10, 1)] := by kernel_rfl
theorem fd111_0 : fieldP Try.prog 111 0 = some 0 := by kernel_rfl
theorem fd111_1 : fieldP Try.prog 111 1 = some 1 := by kernel_rfl
theorem fd111_2 : fieldP Try.prog 111 2 = some 2 := by kernel_rfl
theorem fd111_3 : fieldP Try.prog 111 3 = some 3 := by kernel_rfl
theorem fd111_4 : fieldP Try.prog 111 4 = some 4 := by kernel_rfl
theorem fd111_5 : fieldP Try.prog 111 5 = some 5 := by kernel_rfl
theorem fd111_6 : fieldP Try.prog 111 6 = some 6 := by kernel_rfl
theorem fd111_7 : fieldP Try.prog 111 7 = some 7 := by kernel_rfl
theorem fd111_8 : fieldP Try.prog 111 8 = some 8 := by kernel_rfl
theorem fd111_9 : fieldP Try.prog 111 9 = some 9 := by kernel_rfl
theorem fd111_10 : fieldP Try.prog 111 10 = some 10 := by kernel_rfl
theorem ze111 : zeroP Try.prog 111 = some [SV.dv (DV.int IntKind.u64 0), SV.dv (DV.int IntKind.u64 0), SV.dv (DV.int IntKind.u32 0), SV.dv (DV.int IntKind.u8 0), SV.dv (DV.int IntKind.u8 0), SV.dv (DV.int IntKind.u8 0), SV.dv (DV.int IntKind.u8 0), SV.dv DV.nilfn, SV.dv DV.nilptr, SV.dv (DV.int IntKind.i32 0), SV.dv (DV.int IntKind.i32 0)] := by kernel_rfl
theorem sz112 : szP Try.prog 112 = some 11 := by kernel_rfl
theorem by112 : bytesP Try.prog 112 = some 48 := by kernel_rfl
theorem ag112 : aggP Try.prog 112 = some true := by kernel_rfl
theorem pl112 : placesP Try.prog 112 = some [(0, 1), (1, 1), (2, 1), (3, 1), (4, 1), (5, 1), (6, 1), (7, 1), (8, 1), (9, 1), (10, 1)] := by kernel_rfl
theorem fd112_0 : fieldP Try.prog 112 0 = some 0 := by kernel_rfl
theorem fd112_1 : fieldP Try.prog 112 1 = some 1 := by kernel_rfl
theorem fd112_2 : fieldP Try.prog 112 2 = some 2 := by kernel_rfl
theorem fd112_3 : fieldP Try.prog 112 3 = some 3 := by kernel_rfl
theorem fd112_4 : fieldP Try.prog 112 4 = some 4 := by kernel_rfl
theorem fd112_5 : fieldP Try.prog 112 5 = some 5 := by kernel_rfl
theorem fd112_6 : fieldP Try.prog 112 6 = some 6 := by kernel_rfl
theorem fd112_7 : fieldP Try.prog 112 7 = some 7 := by kernel_rfl
theorem fd112_8 : fieldP Try.prog 112 8 = some 8 := by kernel_rfl
theorem fd112_9 : fieldP Try.prog 112 9 = some 9 := by kernel_rfl
theorem fd112_10 : fieldP Try.prog 112 10 = some 10 := by kernel_rfl
theorem ze112 : zeroP Try.prog 112 = some [SV.dv (DV.int IntKind.u64 0), SV.dv (DV.int IntKind.u64 0), SV.dv (DV.int IntKind.u32 0), SV.dv (DV.int IntKind.u8 0), SV.dv (DV.int IntKind.u8 0), SV.dv (DV.int IntKind.u8 0), SV.dv (DV.int IntKind.u8 0), SV.dv DV.nilfn, SV.dv DV.nilptr, SV.dv (DV.int IntKind.i32 0), SV.dv (DV.int IntKind.i32 0)] := by kernel_rfl
theorem sz113 : szP Try.prog 113 = some 1 := by kernel_rfl
theorem by113 : bytesP Try.prog 113 = some 8 := by kernel_rfl
theorem ag113 : aggP Try.prog 113 = some false := by kernel_rfl
theorem ze113 : zeroP Try.prog 113 = some [SV.dv DV.nilptr] := by kernel_rfl
theorem mixed : Try.prog.follows .mixedOrders = true := by kernel_rfl
end Go.Ab.Try
