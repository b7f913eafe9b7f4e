/- HeapScripts: the statement, without conditions. -/
import Derived.Test.YtapabnafbfnjnaaRows
import Derived.Test.YtapabnafbfnjnaaHeapArg
import Derived.Test.YtapabnafbfnjnaaHeapW11
set_option linter.all false
namespace Go.Proofs.Ytapabnafbfnjnaa
open Go.ChangeShapes Go.WideShapes Go.ChangeAt Go.RowKit Go.Ab Go.Ab.Try Go.Ab.Heap
set_option maxRecDepth 100000 in
theorem heapScripts_lifted (os : Os) (started : os.Started) (H : Type) (enc : TypeId × Value → H) :
    ReturnsInHanded {} Try.checked os 11 .any (Rows.heapScriptsSpec.pre6 enc Try.prog Try.f11 Rows.heapScriptsRow.domain false) (Rows.heapScriptsSpec.post enc Try.prog Try.f11 false true false false) := by
  refine returnsInHanded_of_change (C := Try.checked) own started (by kernel_rfl) Try.func11
    (ChangeSpec.witness6 (enc := enc) (C := Try.checked) false ⟨#[], #[.agg #[.slice none 0 0, .slice none 0 0], .slice none 0 0, .slice none 0 0], []⟩ 8 (by kernel_rfl) (by kernel_rfl) (by kernel_rfl) (by kernel_rfl)) ?_
  intro W base args ds gs before hval0 hW hcnd _
  have hval : ∀ (j : Nat) t v, Try.f11.params[j]? = some t → args[j]? = some v → Value.okWide Try.prog W .any base t v := hval0
  have hW' := hW
  obtain ⟨p, q, hA0, hV, rfl, hfz, hnd⟩ := hW
  have hA : DataW.TrodAll enc Try.prog W 0 (fun _ => true) true Try.f11.params.toList args.toList ds p := hA0
  rw [Try.params11] at hA hval
  obtain ⟨v0, v1, v2, d0, d1, d2, p0, p1, p2, rfl, rfl, rfl, h0, h1, h2⟩ := trodAll_three hA
  obtain ⟨rfl, rfl⟩ := trodVars_none hV
  obtain ⟨a0, ha0, hk0⟩ := arg_hp (hval 0 25 v0 rfl rfl) h0
  obtain ⟨a1, ha1⟩ := arg_ints (hval 1 23 v1 rfl rfl) h1
  obtain ⟨a2, ha2⟩ := arg_ints (hval 2 23 v2 rfl rfl) h2
  refine ((f11 a0 hk0 a1 a2).2 W #[v0, v1, v2] (laidE W) ⟨rfl, fun j d hj => ?_⟩).mono fun e W' ⟨v, he, hb, ob, hr1, hr⟩ => ?_
  · match j, hj with
    | 0, hj => simp only [List.getElem?_cons_zero, Option.some.injEq] at hj; subst hj; exact ha0
    | 1, hj => simp only [List.getElem?_cons_succ, List.getElem?_cons_zero, Option.some.injEq] at hj; subst hj; exact ha1
    | 2, hj => simp only [List.getElem?_cons_succ, List.getElem?_cons_zero, Option.some.injEq] at hj; subst hj; exact ha2
  · subst he
    cases hr
    exact ⟨_, rfl, law_post laid (by rw [Try.params11]; intro t ht; simp only [List.mem_cons, List.not_mem_nil, or_false] at ht; rcases ht with rfl | rfl | rfl <;> exact ⟨by kernel_rfl, of_decide_eq_true (by kernel_rfl)⟩) (by kernel_rfl) Try.underlying4 rfl hW' rfl rfl rfl hb⟩
theorem heapScripts_holds : Rows.HeapScriptsSaid :=
  OpenClaim.holds_of_wide 11 Try.f11 rfl rfl rfl rfl rfl rfl rfl ⟨rfl, rfl, rfl, rfl, rfl⟩ rfl rfl rfl rfl rfl (by kernel_rfl) Try.func11 (by kernel_rfl)
    (of_decide_eq_true (by kernel_rfl)) (by unfold Func.isWrapper; first | (rw [if_pos (by decide +kernel)]; kernel_rfl) | (rw [if_neg (by decide +kernel)]; exact ⟨rfl, rfl⟩))
    (fun os started H enc _ => heapScripts_lifted os started H enc)
-- axioms of heapScripts_holds
end Go.Proofs.Ytapabnafbfnjnaa
