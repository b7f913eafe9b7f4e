/- The moss laws' arguments, read as plain data; what the rows' condition on package-level variables gives. -/
import Derived.Test.YtjipgkhfbfpacaaDoorTie
import Derived.Test.YtjipgkhfbfpacaaDoorMossD
import Derived.Test.YtjipgkhfbfpacaaDoorAbI
import Derived.LaidMore
import Derived.Lib.LaidTab
import Derived.OpenShut
import Derived.Stop.Joined
set_option linter.all false
set_option maxRecDepth 100000
namespace Go.Proofs.YtjipgkhfbfpacaaDoor
open Go.ChangeShapes Go.WideShapes Go.ChangeAt Go.RowKit Go.Ab Go.Ab.Moss

theorem own : ownKnob Tryd.prog.godebug = none := by kernel_rfl
theorem laid : laidOutB Tryd.prog = true := by kernel_rfl
abbrev laid1 : List (String × DataW Unit) := [("math/bits.deBruijn64tab", Rows.laid_math_bits_deBruijn64tab)]
theorem gTab : Tryd.prog.globalNamed "math/bits.deBruijn64tab" = some 0 := by kernel_rfl
theorem tTab : (Tryd.prog.globals[0]?).map (·.type) = some 89 ∧ Tryd.prog.underlying 89 = some (.array 64 5) ∧ Tryd.prog.underlying 5 = some (.int .u8) ∧ Tryd.prog.cellsOf 5 = 1 ∧ Tryd.prog.cellsOf 89 = 64 := ⟨by kernel_rfl, by kernel_rfl, by kernel_rfl, by kernel_rfl, by kernel_rfl⟩
/-- The door's own heap meets the condition. -/
theorem door_met (os : Os) (args : Array Value) : laidMetH Tryd.prog laid1 ((World.doorLaid Tryd.prog 400 os).forCall (fun _ _ => 0) ⟨#[], args, []⟩).memory :=
  laidMetH_of_parts3 (fuel := 8) (laidMet_of_run' 8 (by kernel_rfl) (by kernel_rfl)) (by kernel_rfl) (by kernel_rfl)
/-- What the condition gives the walks. -/
theorem of_laid {W : World} (h : laidMetH Tryd.prog laid1 W) : Laid W := by
  rw [MakeChecks.laidMetH_plain _ _ _ (by kernel_rfl)] at h
  obtain ⟨h1, h2, h3, h4, h5⟩ := tTab
  have hT : Lib.TabIs Tryd.prog W "math/bits.deBruijn64tab" .u8 deBruijnI := Lib.tabIs_of_head (rest := []) gTab h1 h2 h3 h4 h5 h
  obtain ⟨ps, ⟨g, t', cs, fuel, p, q, hg, _, hv, _, _, rfl⟩, _, hc⟩ := h
  obtain rfl := Option.some.inj (gTab.symm.trans hg)
  have hcs : cs = (deBruijnI.map fun z => Value.int .u8 z).toArray := Option.some.inj (hv.symm.trans hT)
  intro p hp
  simp only [laidTab, List.mem_singleton] at hp
  subst hp
  refine ⟨(hc 0 0 ?_).1, fun j v hj => ?_⟩
  · refine List.mem_append_left _ (List.mem_append_left _ ?_)
    rw [hcs]
    simp [MemPlace.row, deBruijnI]
  · have hlt : j < deBruijnI.length := by simpa using (List.getElem?_eq_some_iff.1 hj).1
    have := hT.cell gTab j hlt
    rw [this]
    simp only [List.getElem?_map, Option.map_eq_some_iff] at hj
    obtain ⟨z, hz, rfl⟩ := hj
    simp [List.getD, hz]

theorem opens_ints {H : Type} (enc : TypeId × Value → H) (W : World) : Opens enc Tryd.prog W 32 ints := opens_list (sz := 1) Tryd.underlying32 (by kernel_rfl) (by decide) (fun _ => rfl) (opens_int Tryd.underlying3)
theorem opens_mw {H : Type} (enc : TypeId × Value → H) (W : World) : Opens enc Tryd.prog W 23 dMw :=
  (opens_three Tryd.underlying23 rfl (by kernel_rfl) (by kernel_rfl) (by kernel_rfl) (opens_int (k := .i64) Tryd.underlying3) (opens_int (k := .i64) Tryd.underlying3) (opens_int (k := .i64) Tryd.underlying3)).conv fun p => ⟨⟨p.1, p.2.1, p.2.2⟩, rfl⟩
theorem arg_ints {H : Type} {enc : TypeId × Value → H} {W : World} {base : Nat} {v : Value} {d : DataW H} {ps : List MemPlace} (hv : Value.okWide Tryd.prog W .any base 32 v) (hd : DataW.Trod enc Tryd.prog W 0 (fun _ => true) true 32 v d ps) : ∃ l, RepD W (fun _ => False) (ints l) v := by
  obtain ⟨a, len, cap, rfl⟩ := okWide_slice Tryd.underlying32 hv
  exact arg_one (fun _ => rfl) (opens_ints enc W) rfl hd
theorem arg_mw {H : Type} {enc : TypeId × Value → H} {W : World} {base : Nat} {v : Value} {d : DataW H} {ps : List MemPlace} (hv : Value.okWide Tryd.prog W .any base 23 v) (hd : DataW.Trod enc Tryd.prog W 0 (fun _ => true) true 23 v d ps) : ∃ y, RepD W (fun _ => False) (dMw y) v := by
  obtain ⟨cs, rfl, _⟩ := okWide_struct Tryd.underlying23 hv
  exact arg_agg (fun _ => rfl) (opens_mw enc W) hd
theorem arg_int {H : Type} {enc : TypeId × Value → H} {W : World} {base : Nat} {v : Value} {d : DataW H} {ps : List MemPlace} (hv : Value.okWide Tryd.prog W .any base 3 v) (hd : DataW.Trod enc Tryd.prog W 0 (fun _ => true) true 3 v d ps) : ∃ n, RepD W (fun _ => False) (i64 n) v := by
  obtain ⟨n, rfl, _⟩ := okWide_int Tryd.underlying3 hv
  exact arg_one (F := fun n : Int => i64 n) (fun _ => rfl) (opens_int Tryd.underlying3) rfl hd
end Go.Proofs.YtjipgkhfbfpacaaDoor
