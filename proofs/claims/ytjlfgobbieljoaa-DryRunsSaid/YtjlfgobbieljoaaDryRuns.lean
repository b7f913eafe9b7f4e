/- DryRuns: the statement. -/
import Derived.Test.YtjlfgobbieljoaaRows
import Derived.Test.YtjlfgobbieljoaaDry8
import Derived.Test.YtjlfgobbieljoaaAb25
set_option linter.all false
namespace Go.Proofs.Ytjlfgobbieljoaa
open Go.ChangeShapes Go.WideShapes Go.ChangeAt Go.RowKit Go.Ab Go.Ab.Try

theorem own : ownKnob Try.prog.godebug = none := by kernel_rfl
theorem laid : laidOutB Try.prog = true := by kernel_rfl

theorem opens_ints {H : Type} (enc : TypeId × Value → H) (W : World) : Opens enc Try.prog W 25 ints := opens_list (sz := 1) Try.underlying25 (by kernel_rfl) (by decide) (fun _ => rfl) (opens_int Try.underlying3)
theorem opens_stp {H : Type} (enc : TypeId × Value → H) (W : World) : Opens enc Try.prog W 55 dStp :=
  (opens_two Try.underlying55 rfl (by kernel_rfl) (by kernel_rfl) (opens_ints enc W) (opens_ints enc W)).conv fun p => ⟨⟨p.1, p.2⟩, rfl⟩
theorem opens_yd {H : Type} (enc : TypeId × Value → H) (W : World) : Opens enc Try.prog W 24 dYd :=
  (opens_two Try.underlying24 rfl (by kernel_rfl) (by kernel_rfl) (opens_int (k := .i64) Try.underlying3) (opens_list (sz := 2) Try.underlying22 (by kernel_rfl) (by decide) (fun _ => rfl) (opens_stp enc W))).conv fun p => ⟨⟨p.1, p.2⟩, rfl⟩

theorem arg_ints {H : Type} {enc : TypeId × Value → H} {W : World} {base : Nat} {v : Value} {d : DataW H} {ps : List MemPlace} (hv : Value.okWide Try.prog W .any base 25 v) (hd : DataW.Trod enc Try.prog W 0 (fun _ => true) true 25 v d ps) : ∃ l, RepD W (fun _ => False) (ints l) v := by
  obtain ⟨a, len, cap, rfl⟩ := okWide_slice Try.underlying25 hv
  exact arg_one (fun _ => rfl) (opens_ints enc W) rfl hd
theorem arg_yd {H : Type} {enc : TypeId × Value → H} {W : World} {base : Nat} {v : Value} {d : DataW H} {ps : List MemPlace} (hv : Value.okWide Try.prog W .any base 24 v) (hd : DataW.Trod enc Try.prog W 0 (fun _ => true) true 24 v d ps) : ∃ y, RepD W (fun _ => False) (dYd y) v := by
  obtain ⟨cs, rfl, _⟩ := okWide_struct Try.underlying24 hv
  exact arg_agg (fun _ => rfl) (opens_yd enc W) hd

set_option maxRecDepth 100000 in
theorem lifted (os : Os) (started : os.Started) (H : Type) (enc : TypeId × Value → H) :
    ReturnsInHanded {} Try.checked os 3 .any (Rows.dryRunsSpec.pre6 enc Try.prog Try.f3 Rows.dryRunsRow.domain false) (Rows.dryRunsSpec.post enc Try.prog Try.f3 false true false false) := by
  refine returnsInHanded_of_change (C := Try.checked) own started (by kernel_rfl) Try.func3
    (ChangeSpec.witness6 (enc := enc) (C := Try.checked) false ⟨#[], #[.agg #[.int .i64 0, .slice none 0 0], .slice none 0 0, .slice none 0 0], []⟩ 8 (by kernel_rfl) (by kernel_rfl) (by kernel_rfl) (by kernel_rfl)) ?_
  intro W base args ds gs before hval0 hW hcnd _
  have hval : ∀ (j : Nat) t v, Try.f3.params[j]? = some t → args[j]? = some v → Value.okWide Try.prog W .any base t v := hval0
  have hW' := hW
  obtain ⟨p, q, hA0, hV, rfl, hfz, hnd⟩ := hW
  have hA : DataW.TrodAll enc Try.prog W 0 (fun _ => true) true Try.f3.params.toList args.toList ds p := hA0
  rw [Try.params3] at hA hval
  obtain ⟨v0, v1, v2, d0, d1, d2, p0, p1, p2, rfl, rfl, rfl, h0, h1, h2⟩ := trodAll_three hA
  obtain ⟨rfl, rfl⟩ := trodVars_none hV
  obtain ⟨y, hy⟩ := arg_yd (hval 0 24 v0 rfl rfl) h0
  obtain ⟨m, hm⟩ := arg_ints (hval 1 25 v1 rfl rfl) h1
  obtain ⟨l, hl⟩ := arg_ints (hval 2 25 v2 rfl rfl) h2
  refine ((f3 y m l).2 W #[v0, v1, v2] ⟨rfl, fun j d hj => ?_⟩).mono fun e W' ⟨v, he, hb, ob, hr1, hr⟩ => ?_
  · match j, hj with
    | 0, hj => simp only [List.getElem?_cons_zero, Option.some.injEq] at hj; subst hj; exact hy
    | 1, hj => simp only [List.getElem?_cons_succ, List.getElem?_cons_zero, Option.some.injEq] at hj; subst hj; exact hm
    | 2, hj => simp only [List.getElem?_cons_succ, List.getElem?_cons_zero, Option.some.injEq] at hj; subst hj; exact hl
  · subst he
    cases hr
    exact ⟨_, rfl, law_post laid (by rw [Try.params3]; intro t ht; simp only [List.mem_cons, List.not_mem_nil, or_false] at ht; rcases ht with rfl | rfl | rfl <;> exact ⟨by kernel_rfl, of_decide_eq_true (by kernel_rfl)⟩) (by kernel_rfl) Try.underlying4 rfl hW' rfl rfl rfl hb⟩

theorem dryRuns_holds : Rows.DryRunsSaid :=
  OpenClaim.holds_of_wide 3 Try.f3 rfl rfl rfl rfl rfl rfl rfl ⟨rfl, rfl, rfl, rfl, rfl⟩ rfl rfl rfl rfl rfl (by kernel_rfl) Try.func3 (by kernel_rfl)
    (of_decide_eq_true (by kernel_rfl)) (by unfold Func.isWrapper; first | (rw [if_pos (by decide +kernel)]; kernel_rfl) | (rw [if_neg (by decide +kernel)]; exact ⟨rfl, rfl⟩))
    (fun os started H enc _ => lifted os started H enc)
-- axioms of dryRuns_holds
end Go.Proofs.Ytjlfgobbieljoaa
