/- The dry laws' arguments, read as plain data. -/
import Derived.Test.YtjlfgobbieljoaaRows
import Derived.Test.YtjlfgobbieljoaaDryT
import Derived.Test.YtjlfgobbieljoaaAbF
import Derived.Test.YtjlfgobbieljoaaAb41
set_option linter.all false
namespace Go.Proofs.Ytjlfgobbieljoaa
open Go.ChangeShapes Go.WideShapes Go.ChangeAt Go.RowKit Go.Ab Go.Ab.Try
theorem own : ownKnob Try.prog.godebug = none := by kernel_rfl
theorem laid : laidOutB Try.prog = true := by kernel_rfl
theorem laidE (W : World) : Laid W := fun p hp => by simp [laidTab] at hp
theorem opens_ints {H : Type} (enc : TypeId × Value → H) (W : World) : Opens enc Try.prog W 25 ints := opens_list (sz := 1) Try.underlying25 (by kernel_rfl) (by decide) (fun _ => rfl) (opens_int Try.underlying3)
theorem opens_stp {H : Type} (enc : TypeId × Value → H) (W : World) : Opens enc Try.prog W 55 dStp :=
  (opens_two Try.underlying55 rfl (by kernel_rfl) (by kernel_rfl) (opens_ints enc W) (opens_ints enc W)).conv fun p => ⟨⟨p.1, p.2⟩, rfl⟩
theorem opens_yd {H : Type} (enc : TypeId × Value → H) (W : World) : Opens enc Try.prog W 24 dYd :=
  (opens_two Try.underlying24 rfl (by kernel_rfl) (by kernel_rfl) (opens_int (k := .i64) Try.underlying3) (opens_list (sz := 2) Try.underlying22 (by kernel_rfl) (by decide) (fun _ => rfl) (opens_stp enc W))).conv fun p => ⟨⟨p.1, p.2⟩, rfl⟩
theorem arg_ints {H : Type} {enc : TypeId × Value → H} {W : World} {base : Nat} {v : Value} {d : DataW H} {ps : List MemPlace} (hv : Value.okWide Try.prog W .any base 25 v) (hd : DataW.Trod enc Try.prog W 0 (fun _ => true) true 25 v d ps) : ∃ l, RepD W (fun _ => False) (ints l) v := by
  obtain ⟨a, len, cap, rfl⟩ := okWide_slice Try.underlying25 hv
  exact arg_one (fun _ => rfl) (opens_ints enc W) rfl hd
theorem arg_yd {H : Type} {enc : TypeId × Value → H} {W : World} {base : Nat} {v : Value} {d : DataW H} {ps : List MemPlace} (hv : Value.okWide Try.prog W .any base 24 v) (hd : DataW.Trod enc Try.prog W 0 (fun _ => true) true 24 v d ps) : ∃ y, RepD W (fun _ => False) (dYd y) v := by
  obtain ⟨cs, rfl, _⟩ := okWide_struct Try.underlying24 hv
  exact arg_agg (fun _ => rfl) (opens_yd enc W) hd
theorem opens_pr {H : Type} (enc : TypeId × Value → H) (W : World) : Opens enc Try.prog W 43 dPr :=
  (opens_two Try.underlying43 rfl (by kernel_rfl) (by kernel_rfl) (opens_ints enc W) (opens_ints enc W)).conv fun p => ⟨⟨p.1, p.2⟩, rfl⟩
theorem arg_pair {H : Type} {enc : TypeId × Value → H} {W : World} {base : Nat} {v : Value} {d : DataW H} {ps : List MemPlace} (hv : Value.okWide Try.prog W .any base 43 v) (hd : DataW.Trod enc Try.prog W 0 (fun _ => true) true 43 v d ps) : ∃ y, RepD W (fun _ => False) (dPr y) v := by
  obtain ⟨cs, rfl, _⟩ := okWide_struct Try.underlying43 hv
  exact arg_agg (fun _ => rfl) (opens_pr enc W) hd
end Go.Proofs.Ytjlfgobbieljoaa
