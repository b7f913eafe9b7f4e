/- WayFacts, WayLx. -/
import Derived.Test.YtjlfgobbieljoaaDoorBogG08
import Derived.Test.YtjlfgobbieljoaaDoorProg
import Derived.Shelf.Lays
import Derived.Shelf.Strings.OnBuilder
import Derived.Shelf.Strconv.Itoa3
set_option linter.all false
set_option linter.all false
namespace Go.Ab.Tryd
open Go Go.Ab Go.Proofs
theorem sz3 : szP Tryd.prog 3 = some 1 := by kernel_rfl
theorem by3 : bytesP Tryd.prog 3 = some 8 := by kernel_rfl
theorem ag3 : aggP Tryd.prog 3 = some false := by kernel_rfl
theorem ze3 : zeroP Tryd.prog 3 = some [SV.dv (DV.int IntKind.i64 0)] := by kernel_rfl
theorem ib4 : isBoolP Tryd.prog 4 = true := by kernel_rfl
theorem sz9 : szP Tryd.prog 9 = some 1 := by kernel_rfl
theorem by9 : bytesP Tryd.prog 9 = some 16 := by kernel_rfl
theorem ze9 : zeroP Tryd.prog 9 = some [SV.dv (DV.str { data := { toList := [] } })] := by kernel_rfl
theorem sz22 : szP Tryd.prog 22 = some 1 := by kernel_rfl
theorem ag22 : aggP Tryd.prog 22 = some false := by kernel_rfl
theorem el22 : elemP Tryd.prog 22 = some 39 := by kernel_rfl
theorem il22 : isSliceP Tryd.prog 22 = true := by kernel_rfl
theorem sz24 : szP Tryd.prog 24 = some 2 := by kernel_rfl
theorem ag24 : aggP Tryd.prog 24 = some true := by kernel_rfl
theorem pl24 : placesP Tryd.prog 24 = some [(0, 1), (1, 1)] := by kernel_rfl
theorem fd24_0 : fieldP Tryd.prog 24 0 = some 0 := by kernel_rfl
theorem fd24_1 : fieldP Tryd.prog 24 1 = some 1 := by kernel_rfl
theorem ze24 : zeroP Tryd.prog 24 = some [SV.dv (DV.int IntKind.i64 0), SV.nils] := by kernel_rfl
theorem sz25 : szP Tryd.prog 25 = some 1 := by kernel_rfl
theorem by25 : bytesP Tryd.prog 25 = some 24 := by kernel_rfl
theorem ag25 : aggP Tryd.prog 25 = some false := by kernel_rfl
theorem el25 : elemP Tryd.prog 25 = some 3 := by kernel_rfl
theorem ze25 : zeroP Tryd.prog 25 = some [SV.nils] := by kernel_rfl
theorem il25 : isSliceP Tryd.prog 25 = true := by kernel_rfl
theorem fd27_0 : fieldP Tryd.prog 27 0 = some 0 := by kernel_rfl
theorem fd27_1 : fieldP Tryd.prog 27 1 = some 1 := by kernel_rfl
theorem sz39 : szP Tryd.prog 39 = some 2 := by kernel_rfl
theorem ag39 : aggP Tryd.prog 39 = some true := by kernel_rfl
theorem pl39 : placesP Tryd.prog 39 = some [(0, 1), (1, 1)] := by kernel_rfl
theorem fd39_0 : fieldP Tryd.prog 39 0 = some 0 := by kernel_rfl
theorem fd39_1 : fieldP Tryd.prog 39 1 = some 1 := by kernel_rfl
theorem ze39 : zeroP Tryd.prog 39 = some [SV.nils, SV.nils] := by kernel_rfl
theorem el45 : elemP Tryd.prog 45 = some 48 := by kernel_rfl
theorem il45 : isSliceP Tryd.prog 45 = true := by kernel_rfl
theorem sz48 : szP Tryd.prog 48 = some 2 := by kernel_rfl
theorem by48 : bytesP Tryd.prog 48 = some 48 := by kernel_rfl
theorem ag48 : aggP Tryd.prog 48 = some true := by kernel_rfl
theorem pl48 : placesP Tryd.prog 48 = some [(0, 1), (1, 1)] := by kernel_rfl
theorem fd48_0 : fieldP Tryd.prog 48 0 = some 0 := by kernel_rfl
theorem fd48_1 : fieldP Tryd.prog 48 1 = some 1 := by kernel_rfl
theorem ze48 : zeroP Tryd.prog 48 = some [SV.nils, SV.nils] := by kernel_rfl
theorem el53 : elemP Tryd.prog 53 = some 25 := by kernel_rfl
theorem il53 : isSliceP Tryd.prog 53 = true := by kernel_rfl
theorem el64 : elemP Tryd.prog 64 = some 9 := by kernel_rfl
theorem mixed : Tryd.prog.follows .mixedOrders = true := by kernel_rfl
end Go.Ab.Tryd
set_option linter.all false
namespace Go.Proofs
open Go.Shelf
def Tryd.lays156_ren : Go.Shelf.Ren := ⟨fun | 156 => 36 | 165 => 40 | 166 => 41 | 169 => 42 | 240 => 44 | 241 => 45 | 276 => 50 | 277 => 51 | n => n, fun | 31 => 64 | 9 => 9 | 3 => 3 | 4 => 4 | 0 => 0 | 20 => 20 | 72 => 72 | 76 => 76 | 70 => 69 | 37 => 70 | 75 => 75 | 127 => 80 | 164 => 87 | 5 => 5 | 80 => 78 | n => n, fun | n => n⟩
theorem Tryd.lays156 : Go.Proofs.Lays.n156 Tryd.prog Tryd.lays156_ren := {
  mixed := by kernel_rfl
  f156 := Tryd.func36.trans (congrArg some (by kernel_rfl))
  f165 := Tryd.func40.trans (congrArg some (by kernel_rfl))
  f166 := Tryd.func41.trans (congrArg some (by kernel_rfl))
  f169 := Tryd.func42.trans (congrArg some (by kernel_rfl))
  f240 := Tryd.func44.trans (congrArg some (by kernel_rfl))
  f241 := Tryd.func45.trans (congrArg some (by kernel_rfl))
  f276 := Tryd.func50.trans (congrArg some (by kernel_rfl))
  f277 := Tryd.func51.trans (congrArg some (by kernel_rfl))
  t0 := Tryd.underlying0
  a0 := Tryd.isAgg0
  z0 := Tryd.sizeOf0
  v0 := Tryd.zeroValue0
  t3 := Tryd.underlying3
  a3 := Tryd.isAgg3
  z3 := Tryd.sizeOf3
  v3 := Tryd.zeroValue3
  t4 := Tryd.underlying4
  a4 := Tryd.isAgg4
  z4 := Tryd.sizeOf4
  v4 := Tryd.zeroValue4
  t9 := Tryd.underlying9
  a9 := Tryd.isAgg9
  z9 := Tryd.sizeOf9
  v9 := Tryd.zeroValue9
  t20 := Tryd.underlying20
  a20 := Tryd.isAgg20
  z20 := Tryd.sizeOf20
  v20 := Tryd.zeroValue20
  t31 := Tryd.underlying64
  a31 := Tryd.isAgg64
  z31 := Tryd.sizeOf64
  v31 := Tryd.zeroValue64
  t37 := Tryd.underlying70
  a37 := Tryd.isAgg70
  z37 := Tryd.sizeOf70
  v37 := Tryd.zeroValue70
  t70 := Tryd.underlying69
  a70 := Tryd.isAgg69
  z70 := Tryd.sizeOf69
  v70 := Tryd.zeroValue69
  t72 := Tryd.underlying72
  a72 := Tryd.isAgg72
  z72 := Tryd.sizeOf72
  v72 := Tryd.zeroValue72
  t75 := Tryd.underlying75
  a75 := Tryd.isAgg75
  z75 := Tryd.sizeOf75
  v75 := Tryd.zeroValue75
  t76 := Tryd.underlying76
  a76 := Tryd.isAgg76
  z76 := Tryd.sizeOf76
  v76 := Tryd.zeroValue76
  t127 := Tryd.underlying80
  a127 := Tryd.isAgg80
  z127 := Tryd.sizeOf80
  v127 := Tryd.zeroValue80
  t164 := Tryd.underlying87
  a164 := Tryd.isAgg87
  z164 := Tryd.sizeOf87
  v164 := Tryd.zeroValue87 }
def Tryd.lays171_ren : Go.Shelf.Ren := ⟨fun | 171 => 35 | 243 => 39 | 246 => 43 | 283 => 46 | 284 => 47 | 285 => 48 | 286 => 49 | 129 => 53 | 317 => 52 | 318 => 54 | 319 => 55 | 320 => 56 | 337 => 57 | 338 => 58 | n => n, fun | 3 => 3 | 9 => 9 | 2 => 2 | 4 => 4 | 171 => 81 | 0 => 0 | 53 => 82 | 37 => 70 | 5 => 5 | 173 => 85 | 212 => 92 | 51 => 93 | 20 => 20 | 213 => 94 | 46 => 95 | 232 => 98 | 233 => 99 | n => n, fun | 17 => 0 | 18 => 2 | 19 => 3 | n => n⟩
theorem Tryd.lays171 : Go.Proofs.Lays.n171 Tryd.prog Tryd.lays171_ren := {
  mixed := by kernel_rfl
  f129 := Tryd.func53.trans (congrArg some (by kernel_rfl))
  f171 := Tryd.func35.trans (congrArg some (by kernel_rfl))
  f243 := Tryd.func39.trans (congrArg some (by kernel_rfl))
  f246 := Tryd.func43.trans (congrArg some (by kernel_rfl))
  f283 := Tryd.func46.trans (congrArg some (by kernel_rfl))
  f284 := Tryd.func47.trans (congrArg some (by kernel_rfl))
  f285 := Tryd.func48.trans (congrArg some (by kernel_rfl))
  f286 := Tryd.func49.trans (congrArg some (by kernel_rfl))
  f317 := Tryd.func52.trans (congrArg some (by kernel_rfl))
  f318 := Tryd.func54.trans (congrArg some (by kernel_rfl))
  f319 := Tryd.func55.trans (congrArg some (by kernel_rfl))
  f320 := Tryd.func56.trans (congrArg some (by kernel_rfl))
  f337 := Tryd.func57.trans (congrArg some (by kernel_rfl))
  f338 := Tryd.func58.trans (congrArg some (by kernel_rfl))
  t0 := Tryd.underlying0
  a0 := Tryd.isAgg0
  z0 := Tryd.sizeOf0
  v0 := Tryd.zeroValue0
  t2 := Tryd.underlying2
  a2 := Tryd.isAgg2
  z2 := Tryd.sizeOf2
  v2 := Tryd.zeroValue2
  t3 := Tryd.underlying3
  a3 := Tryd.isAgg3
  z3 := Tryd.sizeOf3
  v3 := Tryd.zeroValue3
  t4 := Tryd.underlying4
  a4 := Tryd.isAgg4
  z4 := Tryd.sizeOf4
  v4 := Tryd.zeroValue4
  t5 := Tryd.underlying5
  a5 := Tryd.isAgg5
  z5 := Tryd.sizeOf5
  v5 := Tryd.zeroValue5
  t9 := Tryd.underlying9
  a9 := Tryd.isAgg9
  z9 := Tryd.sizeOf9
  v9 := Tryd.zeroValue9
  t20 := Tryd.underlying20
  a20 := Tryd.isAgg20
  z20 := Tryd.sizeOf20
  v20 := Tryd.zeroValue20
  t37 := Tryd.underlying70
  a37 := Tryd.isAgg70
  z37 := Tryd.sizeOf70
  v37 := Tryd.zeroValue70
  t46 := Tryd.underlying95
  a46 := Tryd.isAgg95
  z46 := Tryd.sizeOf95
  v46 := Tryd.zeroValue95
  t51 := Tryd.underlying93
  a51 := Tryd.isAgg93
  z51 := Tryd.sizeOf93
  v51 := Tryd.zeroValue93
  t53 := Tryd.underlying82
  a53 := Tryd.isAgg82
  z53 := Tryd.sizeOf82
  v53 := Tryd.zeroValue82
  t171 := Tryd.underlying81
  a171 := Tryd.isAgg81
  z171 := Tryd.sizeOf81
  v171 := Tryd.zeroValue81
  t173 := Tryd.underlying85
  a173 := Tryd.isAgg85
  z173 := Tryd.sizeOf85
  v173 := Tryd.zeroValue85
  t212 := Tryd.underlying92
  a212 := Tryd.isAgg92
  z212 := Tryd.sizeOf92
  v212 := Tryd.zeroValue92
  t213 := Tryd.underlying94
  a213 := Tryd.isAgg94
  z213 := Tryd.sizeOf94
  t232 := Tryd.underlying98
  a232 := Tryd.isAgg98
  z232 := Tryd.sizeOf98
  v232 := Tryd.zeroValue98
  t233 := Tryd.underlying99
  a233 := Tryd.isAgg99
  z233 := Tryd.sizeOf99
  v233 := Tryd.zeroValue99
  g17 := by kernel_rfl
  g18 := by kernel_rfl
  g19 := by kernel_rfl }
theorem Tryd.Builder_Extra_156 : Builder.Extra Tryd.prog Tryd.lays156_ren := {
  sizeBuilder := by kernel_rfl
  liesBuilder := by kernel_rfl
  t5 := Tryd.underlying5
  a5 := Tryd.isAgg5
  z5 := Tryd.sizeOf5
  v5 := Tryd.zeroValue5
  infoByte := by kernel_rfl
  cellsByte := by kernel_rfl
  sizeByte := by kernel_rfl
  neB5 := by decide }
open Go.RowKit in
theorem Tryd.strings_Join (bk o c : Nat) (xs : List ByteArray) (sep : ByteArray) (w : World)
    (hcells : ∀ (j : Nat) x, xs[j]? = some x → w.cell? ⟨bk, o + j, none⟩ = some (.string x)) (hbk : bk < w.heap.size) (hN : xs.length ≤ 140737488355328) (hcap : xs.length ≤ c)
    (hlen : (Lib.join (xs.map (·.data.toList)) sep.data.toList).length ≤ 140737488355328) :
    Calls Tryd.prog 36 #[.slice (some ⟨bk, o, none⟩) xs.length c, .string sep] w fun e w' => e = .returned (.string ⟨(Lib.join (xs.map (·.data.toList)) sep.data.toList).toArray⟩) ∧ Below w.heap.size w w' :=
  Any.strings_Join Tryd.lays156 Tryd.Builder_Extra_156 bk o c xs sep w hcells hbk hN hcap hlen
theorem Tryd.strconv_Itoa_small (i : Nat) (hi : i < 100) (w : World) :
    Calls Tryd.prog 35 #[.int .i64 i] w fun e w' => e = .returned (.string ⟨(Lib.decDigits i).toArray⟩) ∧ w' = w := Any.strconv_Itoa_small Tryd.lays171 i hi w
end Go.Proofs
