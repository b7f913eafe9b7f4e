/- BogWrites: the statement, without conditions; its tied card. -/
import Derived.Test.YtjcecljhjailiaaGreatDoorRows
import Derived.Test.YtjcecljhjailiaaGreatDoorTie
import Derived.Test.YtjcecljhjailiaaGreatDoorCards
import Derived.SevenTiedAt
import Derived.Lay
import Derived.Test.YtjcecljhjailiaaGreatDoorBogG16
import Derived.Test.YtjcecljhjailiaaGreatDoorBogG16
import Derived.Test.YtjcecljhjailiaaGreatDoorBogG35
set_option linter.all false
namespace Go.Proofs.YtjcecljhjailiaaGreatDoor
open Go.ChangeShapes Go.WideShapes Go.ChangeAt Go.RowKit Go.Ab Go.Ab.Tryz
set_option maxRecDepth 100000 in
theorem bogWrites_lifted (os : Os) (started : os.Started) (H : Type) (enc : TypeId × Value → H) :
    ReturnsInHanded {} Tryz.checked os 8 .any (fun w args => (Rows.bogWritesSpec.pre enc Tryz.prog Tryz.f8 [] false w args ∧ laidMetH Tryz.prog laid8 w) ∧ sizedMet enc Tryz.prog Tryz.f8 (OpenSpec.ofChange Rows.bogWritesSpec) false w args)
      (Rows.bogWritesSpec.post enc Tryz.prog Tryz.f8 false true false false) := by
  refine returns_and_shaped (C := Tryz.checked) (X := fun w _ => laidMetH Tryz.prog laid8 w) (fun _ _ _ hh h => h.of_heap hh) own started (by kernel_rfl) Tryz.func8
    (ChangeSpec.witness_shaped (enc := enc) (C := Tryz.checked) (os := os) (X := fun w _ => laidMetH Tryz.prog laid8 w) false (wLaid os) #[.slice none 0 0, .int .i64 0] 8 (wLaid_os _) (World.shaped_of_ZipB (by kernel_rfl) (by kernel_rfl)) (by kernel_rfl) (by kernel_rfl) (by kernel_rfl) (laid_met os _)) ?_
  intro W base args ds gs before hval0 hW hL hsh
  have hval : ∀ (j : Nat) t v, Tryz.f8.params[j]? = some t → args[j]? = some v → Value.okWide Tryz.prog W .any base t v := hval0
  have hW' := hW
  obtain ⟨p, q, hA0, hV, rfl, hfz, hnd⟩ := hW
  have hA : DataW.TrodAll enc Tryz.prog W 0 (fun _ => true) true Tryz.f8.params.toList args.toList ds p := hA0
  rw [Tryz.params8] at hA hval
  obtain ⟨v0, v1, d0, d1, p0, p1, rfl, rfl, rfl, h0, h1⟩ := trodAll_two hA
  obtain ⟨rfl, rfl⟩ := trodVars_none hV
  obtain ⟨a0, ha0, hk0⟩ := arg_txs (hval 0 30 v0 rfl rfl) h0
  obtain ⟨a1, ha1⟩ := arg_int (hval 1 3 v1 rfl rfl) h1
  refine ((f8 a0 hk0 a1).2 W #[v0, v1] (of_laid hL hsh) ⟨rfl, fun j d hj => ?_⟩).mono fun e W' ⟨v, he, hb, ob, hr1, hr⟩ => ?_
  · match j, hj with
    | 0, hj => simp only [List.getElem?_cons_zero, Option.some.injEq] at hj; subst hj; exact ha0
    | 1, hj => simp only [List.getElem?_cons_succ, List.getElem?_cons_zero, Option.some.injEq] at hj; subst hj; exact ha1
  · subst he
    cases hr
    exact ⟨_, rfl, law_post laid (by rw [Tryz.params8]; intro t ht; simp only [List.mem_cons, List.not_mem_nil, or_false] at ht; rcases ht with rfl | rfl <;> exact ⟨by kernel_rfl, of_decide_eq_true (by kernel_rfl)⟩) (by kernel_rfl) Tryz.underlying4 rfl hW' rfl rfl rfl hb⟩
theorem bogWrites_j0 : Rows.bogWritesRow.wf (OpenSpec.ofChange Rows.bogWritesSpec) = true := by kernel_rfl
theorem bogWrites_j9 : (Rows.bogWritesRow.inPlace == Tryz.prog.inPlace 8) = true := by kernel_rfl
theorem bogWrites_j10 : (Rows.bogWritesRow.unfollowed == Tryz.prog.unfollowed 8) = true := by kernel_rfl
theorem bogWrites_j11 : (Rows.bogWritesRow.recurses == Tryz.prog.recurses 8) = true := by kernel_rfl
theorem bogWrites_j12 : (Rows.bogWritesRow.named == Tryz.prog.varsNamed 8) = true := by kernel_rfl
theorem bogWrites_j31 : Rows.bogWritesRow.veiledFits Tryz.prog Tryz.f8.params.toList (Tryz.f8.params.toList ++ Rows.bogWritesSpec.plain.varTypes Tryz.prog ++ Tryz.f8.resultTypes.toList) = true := by kernel_rfl
theorem bogWrites_joined : joinedFacts Tryz.prog 8 Tryz.f8 Rows.bogWritesSpec Rows.bogWritesRow = true :=
  joined_of bogWrites_j0 kp_laidOut kp_mapsRowed (by kernel_rfl) (by kernel_rfl) (by kernel_rfl) kp_stops (by kernel_rfl) kp_stopKnobs bogWrites_j9 bogWrites_j10 bogWrites_j11 bogWrites_j12
    (by kernel_rfl) (by kernel_rfl) (by kernel_rfl) (by kernel_rfl) (by kernel_rfl) (by kernel_rfl) (by kernel_rfl) (by kernel_rfl) (by kernel_rfl) kp_plainKeys (by kernel_rfl) kp_stopsHeard kp_mayEnter kp_lifted kp_make (by kernel_rfl) (by kernel_rfl) (by kernel_rfl) bogWrites_j31
theorem bogWrites_goes : false = Rows.bogWritesRow.goesBy Tryz.prog := by kernel_rfl
theorem bogWrites_row_holds : Rows.BogWritesSaid :=
  OpenClaim.holds_of_wide 8 Tryz.f8 rfl rfl rfl rfl rfl rfl rfl ⟨rfl, rfl, rfl, rfl, rfl⟩ rfl rfl rfl rfl rfl (by kernel_rfl) Tryz.func8 bogWrites_joined
    (of_decide_eq_true (by kernel_rfl)) (by unfold Func.isWrapper; first | (rw [if_pos (by decide +kernel)]; kernel_rfl) | (rw [if_neg (by decide +kernel)]; exact ⟨rfl, rfl⟩))
    (fun os started H enc _ => bogWrites_lifted os started H enc)
theorem bogWrites_holds : Rows.BogWritesCardSaid :=
  Claim7.holds_tied_plain_at .later [] [.data, .data, .data, .data, .handle, .sentinel, .sentinel, .pinned] true (true, "3db829cce18005878e8754b8e59e180ceed115a91828322c6a281b16f2fc2ec3") true
    bogWrites_row_holds (fun _ h => by cases h) (by kernel_rfl) (fun _ h => by cases h) bogWrites_row_tie rfl ⟨rfl, rfl⟩ kp_main rfl
    (fun f fn hf hfn => by
      obtain rfl : f = 8 := Option.some.inj ((show Tryz.prog.funcNamed "turbary/turbarylaw09.BogWrites" = some 8 by kernel_rfl).symm.trans hf) |>.symm
      obtain rfl : fn = Tryz.f8 := (Option.some.inj (Tryz.func8.symm.trans hfn)).symm
      exact ⟨kp_looks, fun j t ht => by
        rw [Tryz.params8] at ht
        have hm : t ∈ [30, 3] := by simpa using Array.mem_of_getElem? ht
        have hall : ([30, 3].all fun u => !Tryz.prog.wantsStandIn u) = true := by kernel_rfl
        exact (show Tryz.prog.wantsStandIn t = false by simpa using List.all_eq_true.1 hall t hm)⟩)
    bogWrites_goes
-- axioms of bogWrites_holds
end Go.Proofs.YtjcecljhjailiaaGreatDoor
