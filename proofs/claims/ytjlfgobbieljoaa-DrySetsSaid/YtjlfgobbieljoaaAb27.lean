/- The abstract layer, part 27: calls that write what they are lent: the contract, and how it follows from a body. -/
import Derived.Test.YtjlfgobbieljoaaAb26
set_option linter.unusedVariables false
namespace Go.Ab
open Go.RowKit

/-- The results' value. -/
def valOf (us : List Value) : Value := if h : us.toArray.size = 1 then us.toArray[0] else .tuple us.toArray

/-- What is asked of a memory. -/
structure MemU (w : World) (X : Nat → Prop) (Pl : Nat → Prop) (loc : Nat → Option (Nat × Nat)) (M : Nat → Nat × Option Blk) (μ : Nat → Option (Nat × Nat)) : Prop where
  blk : ∀ t g blk, M t = (g, some blk) → BlkRep w M μ X t blk
  place : ∀ t g blk b cap, M t = (g, some blk) → μ t = some (b, cap) → Pl b ∧ b < w.heap.size
  uniq : ∀ t g blk t' g' blk' b cap cap', t ≠ t' → M t = (g, some blk) → M t' = (g', some blk') → OwS blk.st → μ t = some (b, cap) → μ t' = some (b, cap') → blk'.st = 2 ∧ blk'.cells.length ≤ blk.cells.length
  anc : ∀ t g blk, M t = (g, some blk) → 3 ≤ blk.st → μ t = loc (blk.st - 3)

/-- What a call hands back: results, and the memory that they and the lent blocks are. -/
structure Yld where
  res : List SV
  mem : Nat → Nat × Option Blk

/-- Called with these arguments, blocks being lent (their standing: 3 + their tag): it yields this. -/
def ACallsG (P : Program) (f : FuncId) (args : List SV) (M0 : Nat → Nat × Option Blk) (Y : Yld) : Prop :=
  EnterP P f ∧ ∀ (w : World) (X0 Wr : Nat → Prop) (loc μ : Nat → Option (Nat × Nat)) (vs : List Value),
    (∀ b, X0 b → b < w.heap.size ∧ ¬ Wr b) → MemU w (fun b => Own (M0) μ b ∨ X0 b) Wr loc (M0) μ → SVReps w (M0) μ (fun b => Own (M0) μ b ∨ X0 b) args vs →
    Calls P f vs.toArray w fun e w' => ∃ (us : List Value) (μ' : Nat → Option (Nat × Nat)), e = .returned (valOf us) ∧ BelowW Wr w w' ∧
      MemU w' (fun b => Own Y.mem μ' b ∨ X0 b) (fun b => w.heap.size ≤ b ∨ Wr b) loc Y.mem μ' ∧ SVReps w' Y.mem μ' (fun b => Own Y.mem μ' b ∨ X0 b) Y.res us

def zipS : Nat → List SV → List (Nat × SV)
  | _, [] => []
  | n, s :: ss => (n, s) :: zipS (n + 1) ss

theorem zipS_get : ∀ (ss : List SV) (n i : Nat), lk (zipS n ss) i = if n ≤ i then (ss[i - n]?).getD .dead else .dead
  | [], n, i => by simp [zipS, lk]
  | s :: ss, n, i => by
    simp only [zipS, lk, zipS_get ss (n + 1) i]
    by_cases h : i = n
    · subst h; simp
    · by_cases h2 : n ≤ i
      · have : n + 1 ≤ i := by omega
        have e : i - n = (i - (n + 1)) + 1 := by omega
        simp only [h, if_false, this, if_true, h2, e, List.getElem?_cons_succ]
      · have : ¬ n + 1 ≤ i := by omega
        simp [h, this, h2]

/-- What a body must reach: its results and its memory read as told. -/
def EndG (P : Program) (rv : List ResultVar) (Y : Yld) : Exit → St → Prop := fun e S =>
  (e = .normal ∨ e = .ret) ∧ ∃ ss, resSV P S rv = some ss ∧ ∃ τ : Nat → Option Nat, svLes τ S.M Y.mem Y.res ss ∧ (∀ t' g' b', Y.mem t' = (g', some b') → blkLe τ S.M Y.mem t' b') ∧ (∀ t1 t2 t, τ t1 = some t → τ t2 = some t → t1 = t2)

theorem results_val {cx : Cx} {S : St} {a : Act} {w : World} {μ : Nat → Option (Nat × Nat)} (h : SimU cx S a w μ) {fn : Func} {ss : List SV} (hr : resSV cx.P S fn.results.toList = some ss) :
    ∃ us, (results fn a.tmps).run cx.P w = .ok (valOf us) w ∧ SVReps w S.M μ (XX cx S.M μ) ss us := by
  obtain ⟨us, h1, h2⟩ := results_run h _ ss hr
  refine ⟨us, ?_, h2⟩
  show (do let vs ← fn.results.mapM (resOne a.tmps); pure (if hh : vs.size = 1 then vs[0] else .tuple vs) : Sem Value).run cx.P w = _
  rw [Array.mapM_eq_mapM_toList]
  simp [h1, valOf]

/-- A function that writes what it is lent, by its body. -/
theorem callsG_of {P : Program} {f : FuncId} {fn : Func} {c : Code} {args : List SV} {M0 : Nat → Nat × Option Blk} {Y : Yld} (hf : P.funcs[f]? = some fn) (hb : fn.body = some c) (hname : (fn.name == "runtime.NumGoroutine") = false) (hn : args.length ≤ fn.ntmps)
    (h : ∀ cx : Cx, cx.P = P → cx.n = fn.ntmps → cx.Good → AWp cx c (EndG P fn.results.toList Y) ⟨lk (zipS 0 args), M0⟩) : ACallsG P f args M0 Y := by
  refine ⟨enterP_of hf hb hname, fun w X0 Wr loc μ vs hX hM hV => calls_of_wp hf hb ?_⟩
  have hl := hV.length
  have hs : SimU ⟨P, w, fn.ntmps, Wr, X0, loc⟩ ⟨lk (zipS 0 args), M0⟩ { tmps := vs.toArray ++ Array.replicate (fn.ntmps - vs.toArray.size) undef, defers := [] } w μ := by
    refine ⟨hM.blk, fun i => ?_, fun t g blk b cap e hm => ⟨.inr (hM.place t g blk b cap e hm).1, (hM.place t g blk b cap e hm).2⟩, hM.uniq, hM.anc, BelowW.refl _ _, ?_, rfl⟩
    · show SVRep w (M0) μ _ (lk (zipS 0 args) i) _
      rw [zipS_get]
      simp only [Nat.zero_le, if_true, Nat.sub_zero]
      rcases Nat.lt_or_ge i args.length with hi | hi
      · have hi' : i < vs.length := by omega
        rw [List.getElem?_eq_getElem hi]
        have e : (vs.toArray ++ Array.replicate (fn.ntmps - vs.toArray.size) undef).getD i undef = vs[i] := by simp [Array.getElem?_append_left, hi']
        rw [e]
        exact hV.get i args[i] vs[i] (by simp [hi]) (by simp [hi'])
      · rw [List.getElem?_eq_none hi]
        trivial
    · show (vs.toArray ++ Array.replicate (fn.ntmps - vs.toArray.size) undef).size = fn.ntmps
      rw [Array.size_append, Array.size_replicate, List.size_toArray]
      omega
  have hgood : (⟨P, w, fn.ntmps, Wr, X0, loc⟩ : Cx).Good := hX
  refine wp_mono (h _ rfl rfl hgood _ w ⟨_, hs⟩) ?_
  rintro e a' w' ⟨S', ⟨μ1, h1⟩, he, ss, e1, τ, e2, e3, e4⟩
  obtain ⟨us, r1, r2⟩ := results_val (fn := fn) h1 e1
  have h2 := relab_sim (S' := ⟨fun _ => .dead, Y.mem⟩) hgood h1 (τ := τ) (fun i => by simp only [svLe]) e3 e4
  have hX2 : ∀ b, XX ⟨P, w, fn.ntmps, Wr, X0, loc⟩ Y.mem (relμ τ μ1) b → XX ⟨P, w, fn.ntmps, Wr, X0, loc⟩ S'.M μ1 b := by
    rintro b (⟨t', g', b', cap, f1, f2, f3⟩ | hx)
    · have hb := e3 t' g' b' f1
      unfold blkLe at hb
      unfold relμ at f3
      cases hτ : τ t' with
      | none => rw [hτ] at f3; cases f3
      | some t =>
        rw [hτ] at hb f3
        obtain ⟨blk, q1, q2, q3, q4, q5⟩ := hb
        exact .inl ⟨t, (S'.M t).1, blk, cap, by rw [← q1], by rw [← q4]; exact f2, f3⟩
    · exact .inr hx
  have r3 := svLes_rep hgood h1 (M' := Y.mem) (blkLe_get e3) (X' := XX ⟨P, w, fn.ntmps, Wr, X0, loc⟩ Y.mem (relμ τ μ1)) hX2 _ _ _ e2 r2
  have fin : (results fn a'.tmps).run P w' = .ok (valOf us) w' ∧ ∃ (us' : List Value) (μ' : Nat → Option (Nat × Nat)), Ending.returned (valOf us) = .returned (valOf us') ∧ BelowW Wr w w' ∧
      MemU w' (fun b => Own Y.mem μ' b ∨ X0 b) (fun b => w.heap.size ≤ b ∨ Wr b) loc Y.mem μ' ∧ SVReps w' Y.mem μ' (fun b => Own Y.mem μ' b ∨ X0 b) Y.res us' :=
    ⟨r1, us, relμ τ μ1, rfl, h1.below, ⟨h2.blk, h2.place, h2.uniq, h2.anc⟩, r3⟩
  rcases he with rfl | rfl <;> exact ⟨h1.defers, valOf us, fin.1, fin.2⟩
/-- The same, where what is told is a list. -/
theorem endG_list {P : Program} {rv : List ResultVar} {res : List SV} {mem : List (Nat × Nat × Option Blk)} {e : Exit} {S : St} {ss : List SV} (τ : List (Nat × Nat)) (he : e = .normal ∨ e = .ret) (hs : resSV P S rv = some ss) (h1 : svLes (tauL τ) S.M (mkM mem) res ss) (h2 : MLe (tauL τ) S (mkM mem) mem)
    (h3 : (τ.map (·.2)).Nodup) : EndG P rv ⟨res, mkM mem⟩ e S := ⟨he, ss, hs, tauL τ, h1, MLe_get h2, tauL_inj h3⟩
end Go.Ab
