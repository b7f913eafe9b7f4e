/- Ab27, Ab28, Ab29, Ab30. -/
import Derived.Test.YtjcecljhjailiaaGreatDoorBogG11
set_option linter.unusedVariables false
namespace Go.Ab
open Go.RowKit
def valOf (us : List Value) : Value := if h : us.toArray.size = 1 then us.toArray[0] else .tuple us.toArray
structure MemU (w : World) (X : Nat → Prop) (Pl : Nat → Prop) (loc : Nat → Option (Nat × Nat)) (M : Nat → Nat × Option Blk) (μ : Nat → Option (Nat × Nat)) : Prop where
  blk : ∀ t g blk, M t = (g, some blk) → BlkRep w M μ X t blk
  place : ∀ t g blk b cap, M t = (g, some blk) → μ t = some (b, cap) → Pl b ∧ b < w.heap.size
  uniq : ∀ t g blk t' g' blk' b cap cap', t ≠ t' → M t = (g, some blk) → M t' = (g', some blk') → OwS blk.st → μ t = some (b, cap) → μ t' = some (b, cap') → blk'.st = 2 ∧ blk'.cells.length ≤ blk.cells.length
  anc : ∀ t g blk, M t = (g, some blk) → 3 ≤ blk.st → μ t = loc (blk.st - 3)
structure Yld where
  res : List SV
  mem : Nat → Nat × Option Blk
def ACallsG (P : Program) (f : FuncId) (args : List SV) (M0 : Nat → Nat × Option Blk) (Y : Yld) : Prop :=
  EnterP P f ∧ ∀ (w : World) (X0 Wr : Nat → Prop) (loc μ : Nat → Option (Nat × Nat)) (vs : List Value),
    (∀ b, X0 b → b < w.heap.size ∧ ¬ Wr b) → Laid w → (∀ g, laidK g → ¬ X0 g ∧ ¬ Wr g) → MemU w (fun b => Own (M0) μ b ∨ X0 b) Wr loc (M0) μ → SVReps w (M0) μ (fun b => Own (M0) μ b ∨ X0 b) args vs →
    Calls P f vs.toArray w fun e w' => ∃ (us : List Value) (μ' : Nat → Option (Nat × Nat)), e = .returned (valOf us) ∧ BelowW Wr w w' ∧
      MemU w' (fun b => Own Y.mem μ' b ∨ X0 b) (fun b => w.heap.size ≤ b ∨ Wr b) loc Y.mem μ' ∧ SVReps w' Y.mem μ' (fun b => Own Y.mem μ' b ∨ X0 b) Y.res us
def zipS : Nat → List SV → List (Nat × SV)
  | _, [] => []
  | n, s :: ss => (n, s) :: zipS (n + 1) ss
theorem zipS_get : ∀ (ss : List SV) (n i : Nat), lk (zipS n ss) i = if n ≤ i then (ss[i - n]?).getD .dead else .dead
  | [], n, i => by simp [zipS, lk]
  | s :: ss, n, i => by
    simp only [zipS, lk, zipS_get ss (n + 1) i]
    by_cases h : i = n
    · subst h; simp
    · by_cases h2 : n ≤ i
      · have : n + 1 ≤ i := by omega
        have e : i - n = (i - (n + 1)) + 1 := by omega
        simp only [h, if_false, this, if_true, h2, e, List.getElem?_cons_succ]
      · have : ¬ n + 1 ≤ i := by omega
        simp [h, this, h2]
def EndG (P : Program) (rv : List ResultVar) (Y : Yld) : Exit → St → Prop := fun e S =>
  (e = .normal ∨ e = .ret) ∧ ∃ ss, resSV P S rv = some ss ∧ ∃ τ : Nat → Option Nat, svLes τ S.M Y.mem Y.res ss ∧ (∀ t' g' b', Y.mem t' = (g', some b') → blkLe τ S.M Y.mem t' b') ∧ (∀ t1 t2 t, τ t1 = some t → τ t2 = some t → t1 = t2)
theorem results_val {cx : Cx} {S : St} {a : Act} {w : World} {μ : Nat → Option (Nat × Nat)} (h : SimU cx S a w μ) {fn : Func} {ss : List SV} (hr : resSV cx.P S fn.results.toList = some ss) :
    ∃ us, (results fn a.tmps).run cx.P w = .ok (valOf us) w ∧ SVReps w S.M μ (XX cx S.M μ) ss us := by
  obtain ⟨us, h1, h2⟩ := results_run h _ ss hr
  refine ⟨us, ?_, h2⟩
  show (do let vs ← fn.results.mapM (resOne a.tmps); pure (if hh : vs.size = 1 then vs[0] else .tuple vs) : Sem Value).run cx.P w = _
  rw [Array.mapM_eq_mapM_toList]
  simp [h1, valOf]
theorem callsG_of {P : Program} {f : FuncId} {fn : Func} {c : Code} {args : List SV} {M0 : Nat → Nat × Option Blk} {Y : Yld} (hf : P.funcs[f]? = some fn) (hb : fn.body = some c) (hname : (fn.name == "runtime.NumGoroutine") = false) (hn : args.length ≤ fn.ntmps)
    (h : ∀ cx : Cx, cx.P = P → cx.n = fn.ntmps → cx.Good → AWp cx c (EndG P fn.results.toList Y) ⟨lk (zipS 0 args), M0⟩) : ACallsG P f args M0 Y := by
  refine ⟨enterP_of hf hb hname, fun w X0 Wr loc μ vs hX hLd hLk hM hV => callsIn_wide.1 (callsIn_of_wp (F := Fence.wide) (n := 0) hf hb trivial ?_)⟩
  have hl := hV.length
  have hs : SimU { P := P, w0 := w, n := fn.ntmps, Wr := Wr, X0 := X0, loc := loc } ⟨lk (zipS 0 args), M0⟩ { tmps := vs.toArray ++ Array.replicate (fn.ntmps - vs.toArray.size) undef, defers := [] } w μ := by
    refine ⟨hM.blk, fun i => ?_, fun t g blk b cap e hm => ⟨.inr (hM.place t g blk b cap e hm).1, (hM.place t g blk b cap e hm).2⟩, hM.uniq, hM.anc, BelowW.refl _ _, ?_, rfl⟩
    · show SVRep w (M0) μ _ (lk (zipS 0 args) i) _
      rw [zipS_get]
      simp only [Nat.zero_le, if_true, Nat.sub_zero]
      rcases Nat.lt_or_ge i args.length with hi | hi
      · have hi' : i < vs.length := by omega
        rw [List.getElem?_eq_getElem hi]
        have e : (vs.toArray ++ Array.replicate (fn.ntmps - vs.toArray.size) undef).getD i undef = vs[i] := by simp [Array.getElem?_append_left, hi']
        rw [e]
        exact hV.get i args[i] vs[i] (by simp [hi]) (by simp [hi'])
      · rw [List.getElem?_eq_none hi]
        trivial
    · show (vs.toArray ++ Array.replicate (fn.ntmps - vs.toArray.size) undef).size = fn.ntmps
      rw [Array.size_append, Array.size_replicate, List.size_toArray]
      omega
  have hgood : ({ P := P, w0 := w, n := fn.ntmps, Wr := Wr, X0 := X0, loc := loc } : Cx).Good := ⟨hX, hLd, hLk⟩
  refine wpIn_mono (h _ rfl rfl hgood _ w ⟨_, hs⟩) ?_
  rintro e a' w' (⟨S', ⟨μ1, h1⟩, he, ss, e1, τ, e2, e3, e4⟩ | ⟨_, hf⟩)
  rotate_left
  · exact (show False from hf).elim
  obtain ⟨us, r1, r2⟩ := results_val (fn := fn) h1 e1
  have h2 := relab_sim (S' := ⟨fun _ => .dead, Y.mem⟩) hgood h1 (τ := τ) (fun i => by simp only [svLe]) e3 e4
  have hX2 : ∀ b, XX { P := P, w0 := w, n := fn.ntmps, Wr := Wr, X0 := X0, loc := loc } Y.mem (relμ τ μ1) b → XX { P := P, w0 := w, n := fn.ntmps, Wr := Wr, X0 := X0, loc := loc } S'.M μ1 b := by
    rintro b (⟨t', g', b', cap, f1, f2, f3⟩ | hx)
    · have hb := e3 t' g' b' f1
      unfold blkLe at hb
      unfold relμ at f3
      cases hτ : τ t' with
      | none => rw [hτ] at f3; cases f3
      | some t =>
        rw [hτ] at hb f3
        obtain ⟨blk, q1, q2, q3, q4, q5⟩ := hb
        exact .inl ⟨t, (S'.M t).1, blk, cap, by rw [← q1], by rw [← q4]; exact f2, f3⟩
    · exact .inr hx
  have r3 := svLes_rep hgood h1 (M' := Y.mem) (blkLe_get e3) (X' := XX { P := P, w0 := w, n := fn.ntmps, Wr := Wr, X0 := X0, loc := loc } Y.mem (relμ τ μ1)) hX2 _ _ _ e2 r2
  have fin : (results fn a'.tmps).run P w' = .ok (valOf us) w' ∧ ∃ (us' : List Value) (μ' : Nat → Option (Nat × Nat)), Ending.returned (valOf us) = .returned (valOf us') ∧ BelowW Wr w w' ∧
      MemU w' (fun b => Own Y.mem μ' b ∨ X0 b) (fun b => w.heap.size ≤ b ∨ Wr b) loc Y.mem μ' ∧ SVReps w' Y.mem μ' (fun b => Own Y.mem μ' b ∨ X0 b) Y.res us' :=
    ⟨r1, us, relμ τ μ1, rfl, h1.below, ⟨h2.blk, h2.place, h2.uniq, h2.anc⟩, r3⟩
  rcases he with rfl | rfl <;> exact ⟨h1.defers, valOf us, fin.1, fin.2⟩
theorem endG_list {P : Program} {rv : List ResultVar} {res : List SV} {mem : List (Nat × Nat × Option Blk)} {e : Exit} {S : St} {ss : List SV} (τ : List (Nat × Nat)) (he : e = .normal ∨ e = .ret) (hs : resSV P S rv = some ss) (h1 : svLes (tauL τ) S.M (mkM mem) res ss) (h2 : MLe (tauL τ) S (mkM mem) mem)
    (h3 : (τ.map (·.2)).Nodup) : EndG P rv ⟨res, mkM mem⟩ e S := ⟨he, ss, hs, tauL τ, h1, MLe_get h2, tauL_inj h3⟩
end Go.Ab
set_option linter.unusedVariables false
namespace Go.Ab
open Go.RowKit
mutual
def renSV (N : Nat → Nat × Option Blk) (ρ : Nat → Option (Nat × Nat)) : SV → SV
  | .sl e g off n => match ρ e with | some (t, gen) => if (N e).1 = g then .sl t gen off n else .dead | none => .dead
  | .pt e g off => match ρ e with | some (t, gen) => if (N e).1 = g then .pt t gen off else .dead | none => .dead
  | .agg cs => .agg (renSVs N ρ cs)
  | .tup cs => .tup (renSVs N ρ cs)
  | .dead => .dead
  | .dv d => .dv d
  | .nils => .nils
  | .emp b => .emp b
def renSVs (N : Nat → Nat × Option Blk) (ρ : Nat → Option (Nat × Nat)) : List SV → List SV
  | [] => []
  | c :: cs => renSV N ρ c :: renSVs N ρ cs
end
theorem renSVs_map (N : Nat → Nat × Option Blk) (ρ : Nat → Option (Nat × Nat)) : ∀ cs : List SV, renSVs N ρ cs = cs.map (renSV N ρ)
  | [] => by simp [renSVs]
  | c :: cs => by simp [renSVs, renSVs_map N ρ cs]
theorem renSVs_dvs {N : Nat → Nat × Option Blk} {ρ : Nat → Option (Nat × Nat)} {cs : List SV} (h : isDvs cs = true) : renSVs N ρ cs = cs := by
  rw [renSVs_map]
  have h2 := isDvs_iff.1 h
  induction cs with
  | nil => rfl
  | cons c cs ih =>
    obtain ⟨d, rfl⟩ := h2 c (by simp)
    rw [List.map_cons, ih (isDvs_iff.2 fun c hc => h2 c (by simp [hc])) (fun c hc => h2 c (by simp [hc]))]
    simp [renSV]
section
variable {w : World} {N M : Nat → Nat × Option Blk} {ν μ : Nat → Option (Nat × Nat)} {X X' : Nat → Prop} {ρ : Nat → Option (Nat × Nat)}
mutual
theorem ren_rep (hρ : ∀ e t gen, ρ e = some (t, gen) → (M t).1 = gen ∧ ∀ b', M t = (gen, some b') → ∃ b, N e = ((N e).1, some b) ∧ b'.esz = b.esz ∧ μ t = ν e) (hX : ∀ b, X' b → X b) :
    ∀ (c : SV) (v : Value), SVRep w N ν X c v → SVRep w M μ X' (renSV N ρ c) v
  | .dead, _, _ => by simp only [renSV, SVRep]
  | .dv d, v, h => by simp only [renSV, SVRep] at h ⊢; exact h.weaken hX
  | .nils, v, h => by simpa only [renSV, SVRep] using h
  | .emp b, v, h => by simpa only [renSV, SVRep] using h
  | .sl e g off n, v, h => by
    simp only [renSV]
    split
    · rename_i t gen he
      split
      · rename_i hg
        simp only [SVRep] at h ⊢
        obtain ⟨h1, h2⟩ := hρ e t gen he
        refine ⟨⟨h.1.1, by omega⟩, fun b' hb' => ?_⟩
        obtain ⟨b, q1, q2, q3⟩ := h2 b' hb'
        rw [hg] at q1
        have := h.2 b q1
        rw [q3, q2]
        exact this
      · simp only [SVRep]
    · simp only [SVRep]
  | .pt e g off, v, h => by
    simp only [renSV]
    split
    · rename_i t gen he
      split
      · rename_i hg
        simp only [SVRep] at h ⊢
        obtain ⟨h1, h2⟩ := hρ e t gen he
        refine ⟨⟨h.1.1, by omega⟩, fun b' hb' => ?_⟩
        obtain ⟨b, q1, q2, q3⟩ := h2 b' hb'
        rw [hg] at q1
        rw [q3]
        exact h.2 b q1
      · simp only [SVRep]
    · simp only [SVRep]
  | .agg cs, v, h => by
    simp only [renSV, SVRep] at h ⊢
    obtain ⟨vs, rfl, hv⟩ := h
    exact ⟨vs, rfl, ren_reps hρ hX cs vs hv⟩
  | .tup cs, v, h => by
    simp only [renSV, SVRep] at h ⊢
    obtain ⟨vs, rfl, hv⟩ := h
    exact ⟨vs, rfl, ren_reps hρ hX cs vs hv⟩
theorem ren_reps (hρ : ∀ e t gen, ρ e = some (t, gen) → (M t).1 = gen ∧ ∀ b', M t = (gen, some b') → ∃ b, N e = ((N e).1, some b) ∧ b'.esz = b.esz ∧ μ t = ν e) (hX : ∀ b, X' b → X b) :
    ∀ (cs : List SV) (vs : List Value), SVReps w N ν X cs vs → SVReps w M μ X' (renSVs N ρ cs) vs
  | [], [], _ => by simp only [renSVs, SVReps]
  | c :: cs, v :: vs, h => by
    simp only [renSVs, SVReps] at h ⊢
    exact ⟨ren_rep hρ hX c v h.1, ren_reps hρ hX cs vs h.2⟩
  | [], _ :: _, h => by simp only [SVReps] at h
  | _ :: _, [], h => by simp only [SVReps] at h
end
end
def LentOk (τ : Nat → Option Nat) (M1 M0 : Nat → Nat × Option Blk) : Prop :=
  (∀ t' g' b', M0 t' = (g', some b') → b'.st = 3 + t' ∧ ∃ t b, τ t' = some t ∧ (M1 t).2 = some b ∧ OwS b.st ∧ b'.esz = b.esz ∧ b'.elem = b.elem ∧ b'.row = b.row ∧ svLes τ M1 M0 b'.cells b.cells) ∧
  (∀ t1 t2 t, τ t1 = some t → τ t2 = some t → t1 = t2) ∧ (∀ t' t, τ t' = some t → ∃ g' b', M0 t' = (g', some b'))
structure BackOk (τ : Nat → Option Nat) (M1 N M2 : Nat → Nat × Option Blk) (σ : Nat → Option Nat) (ρ : Nat → Option (Nat × Nat)) : Prop where
  at_ : ∀ t e, σ t = some e → ∃ b st gen, (N e).2 = some b ∧ M2 t = (gen, some { b with cells := renSVs N ρ b.cells, st := st }) ∧ ρ e = some (t, gen) ∧
    ((3 ≤ b.st ∧ τ (b.st - 3) = some t ∧ ∃ b0, M1 t = (gen, some b0) ∧ b0.st = st ∧ b0.esz = b.esz) ∨ (b.st < 2 ∧ st = b.st ∧ gen = (M1 t).1 + 1))
  off : ∀ t, σ t = none → (M2 t = noViews M1 t ∧ ∀ t', τ t' ≠ some t) ∨ M2 t = ((M1 t).1, none)
  ren : ∀ e t gen, ρ e = some (t, gen) → σ t = some e
section
variable {cx : Cx} {S : St} {a : Act} {w w' : World} {μ ν : Nat → Option (Nat × Nat)} {M1 M0 N M2 : Nat → Nat × Option Blk} {τ σ : Nat → Option Nat} {ρ : Nat → Option (Nat × Nat)}
theorem lent_mem (hg : cx.Good) (h : SimU cx ⟨S.F, M1⟩ a w μ) (hL : LentOk τ M1 M0) :
    MemU w (fun b => Own M0 (relμ τ μ) b ∨ (XX cx M1 μ b ∧ ¬ Own M0 (relμ τ μ) b)) (Own M0 (relμ τ μ)) (relμ τ μ) M0 (relμ τ μ) ∧
    (∀ b, Own M0 (relμ τ μ) b → XX cx M1 μ b ∧ ∃ t g blk cap, M1 t = (g, some blk) ∧ OwS blk.st ∧ μ t = some (b, cap) ∧ ∃ t', τ t' = some t) ∧
    (∀ (args ss : List SV) (vs : List Value), svLes τ M1 M0 args ss → SVReps w M1 μ (XX cx M1 μ) ss vs → SVReps w M0 (relμ τ μ) (fun b => Own M0 (relμ τ μ) b ∨ (XX cx M1 μ b ∧ ¬ Own M0 (relμ τ μ) b)) args vs) := by
  obtain ⟨hL1, hL2, hL3⟩ := hL
  have hW : ∀ b, Own M0 (relμ τ μ) b → XX cx M1 μ b ∧ ∃ t g blk cap, M1 t = (g, some blk) ∧ OwS blk.st ∧ μ t = some (b, cap) ∧ ∃ t', τ t' = some t := by
    rintro b ⟨t', g', b', cap, e1, e2, e3⟩
    obtain ⟨q0, t, b0, q1, q2, q3, _⟩ := hL1 t' g' b' e1
    have hm : μ t = some (b, cap) := by simpa [relμ, q1] using e3
    have hM : M1 t = ((M1 t).1, some b0) := by rw [← q2]
    exact ⟨.inl ⟨t, _, b0, cap, hM, q3, hm⟩, t, _, b0, cap, hM, q3, hm, t', q1⟩
  have hX : ∀ b, (Own M0 (relμ τ μ) b ∨ (XX cx M1 μ b ∧ ¬ Own M0 (relμ τ μ) b)) → XX cx M1 μ b := fun b hb => hb.elim (fun h1 => (hW b h1).1) (fun h1 => h1.1)
  have hrep : ∀ (args ss : List SV) (vs : List Value), svLes τ M1 M0 args ss → SVReps w M1 μ (XX cx M1 μ) ss vs → SVReps w M0 (relμ τ μ) (fun b => Own M0 (relμ τ μ) b ∨ (XX cx M1 μ b ∧ ¬ Own M0 (relμ τ μ) b)) args vs :=
    fun args ss vs h1 h2 => svLes_rep hg h (M' := M0) (fun t' g' b' t e ht => by
      obtain ⟨_, t2, b0, q1, q2, _, q3, _⟩ := hL1 t' g' b' e
      rw [ht] at q1
      obtain rfl : t = t2 := Option.some.inj q1
      exact ⟨b0, q2, q3⟩) hX _ _ _ h1 h2
  refine ⟨⟨fun t' g' b' e => ?_, fun t' g' b' b cap e hm => ?_, fun t1 g1 b1 t2 g2 b2 b c1 c2 hne e1 e2 hst m1 m2 => ?_, fun t' g' b' e h3 => ?_⟩, hW, hrep⟩
  · obtain ⟨q0, t, b0, q1, q2, q3, q4, q5, q6, q7⟩ := hL1 t' g' b' e
    have hm : relμ τ μ t' = μ t := by simp [relμ, q1]
    have hb := h.blk t (M1 t).1 b0 (by show M1 t = _; rw [← q2])
    unfold BlkRep at hb ⊢
    rw [hm]
    cases hmt : μ t with
    | none =>
      rw [hmt] at hb
      have hl := svLes_len q7
      rw [hb.1] at hl
      exact ⟨List.eq_nil_of_length_eq_zero hl, by rw [q6]; exact hb.2⟩
    | some p =>
      obtain ⟨b, cap⟩ := p
      rw [hmt] at hb
      obtain ⟨cur, r1, r2, r3, r4, r5⟩ := hb
      have hl := svLes_len q7
      refine ⟨cur, by rw [q5]; exact r1, by omega, ?_, fun hr => by rw [q4]; exact r4 (by rw [← q6]; exact hr), fun hr => by rw [hl]; exact r5 (by rw [← q6]; exact hr)⟩
      have hall : SVReps w M1 μ (XX cx M1 μ) b0.cells (cur.toList.take b0.cells.length) := SVReps.mk (by simp; omega) fun j c u hj hu => by
        rw [List.getElem?_take] at hu
        split at hu
        · exact r3 j c u hj (by simpa using hu)
        · cases hu
      have h2 := hrep _ _ _ q7 hall
      intro j c u hj hu
      refine h2.get j c u hj ?_
      rw [List.getElem?_take]
      have := (List.getElem?_eq_some_iff.1 hj).1
      rw [if_pos (by omega)]
      simpa using hu
  · obtain ⟨q0, t, b0, q1, q2, q3, _⟩ := hL1 t' g' b' e
    refine ⟨⟨t', g', b', cap, e, by unfold OwS; omega, hm⟩, ?_⟩
    have hmt : μ t = some (b, cap) := by simpa [relμ, q1] using hm
    exact (h.place t (M1 t).1 b0 b cap (by show M1 t = _; rw [← q2]) hmt).2
  · obtain ⟨_, t, b0, q1, q2, q3, _⟩ := hL1 t1 g1 b1 e1
    obtain ⟨_, t', b0', q1', q2', q3', _⟩ := hL1 t2 g2 b2 e2
    have n1 : μ t = some (b, c1) := by simpa [relμ, q1] using m1
    have n2 : μ t' = some (b, c2) := by simpa [relμ, q1'] using m2
    have hne' : t ≠ t' := fun hh => hne (hL2 t1 t2 t q1 (hh ▸ q1'))
    have := (h.uniq t (M1 t).1 b0 t' (M1 t').1 b0' b c1 c2 hne' (by show M1 t = _; rw [← q2]) (by show M1 t' = _; rw [← q2']) q3 n1 n2).1
    unfold OwS at q3'
    omega
  · obtain ⟨q0, _⟩ := hL1 t' g' b' e
    rw [q0]
    congr 1
    omega
theorem back_sim (hg : cx.Good) (h : SimU cx ⟨S.F, M1⟩ a w μ) (hL : LentOk τ M1 M0) (hB : BackOk τ M1 N M2 σ ρ) (hbel : BelowW (Own M0 (relμ τ μ)) w w')
    (hN : MemU w' (fun b => Own N ν b ∨ (XX cx M1 μ b ∧ ¬ Own M0 (relμ τ μ) b)) (fun b => w.heap.size ≤ b ∨ Own M0 (relμ τ μ) b) (relμ τ μ) N ν) :
    ∃ μ2, SimU cx ⟨S.F, M2⟩ a w' μ2 ∧ ∀ c v, SVRep w' N ν (fun b => Own N ν b ∨ (XX cx M1 μ b ∧ ¬ Own M0 (relμ τ μ) b)) c v → SVRep w' M2 μ2 (XX cx M2 μ2) (renSV N ρ c) v := by
  obtain ⟨_, hW, _⟩ := lent_mem hg h hL
  obtain ⟨hL1, hL2, hL3⟩ := hL
  let μ2 : Nat → Option (Nat × Nat) := fun t => match σ t with | some e => ν e | none => μ t
  have mu_at : ∀ {t e}, σ t = some e → μ2 t = ν e := fun {t e} hs => by simp only [μ2, hs]
  have mu_off : ∀ {t}, σ t = none → μ2 t = μ t := fun {t} hs => by simp only [μ2, hs]
  have Nat_ : ∀ {e b}, (N e).2 = some b → N e = ((N e).1, some b) := fun {e b} hh => by rw [← hh]
  -- what is left of the caller's own tags
  have rest : ∀ t g blk, σ t = none → M2 t = (g, some blk) → M1 t = (g, some blk) ∧ blk.st ≠ 2 ∧ (∀ t', τ t' ≠ some t) := by
    intro t g blk hs e
    rcases hB.off t hs with ⟨h1, h2⟩ | h1
    · rw [h1] at e
      unfold noViews at e
      split at e
      · rename_i b'' hb''
        split at e
        · cases e
        · rename_i hne
          refine ⟨e, ?_, h2⟩
          rw [e] at hb''
          simp only [Option.some.injEq] at hb''
          rw [hb'']; exact hne
      · rename_i hn
        rw [e] at hn; cases hn
    · rw [h1] at e; simp at e
  have restW : ∀ t g blk b cap, σ t = none → M2 t = (g, some blk) → μ t = some (b, cap) → ¬ Own M0 (relμ τ μ) b := by
    intro t g blk b cap hs e hm hw
    obtain ⟨h1, h2, h3⟩ := rest t g blk hs e
    obtain ⟨_, t0, g0, b0, c0, f1, f2, f3, t', f4⟩ := hW b hw
    have hne : t0 ≠ t := fun hh => h3 t' (hh ▸ f4)
    exact h2 (h.uniq t0 g0 b0 t g blk b c0 cap hne f1 h1 f2 f3 hm).1
  have hX0 : ∀ b, cx.X0 b → ¬ Own M0 (relμ τ μ) b := by
    intro b hx hw
    obtain ⟨_, t0, g0, b0, c0, f1, f2, f3, _⟩ := hW b hw
    have := (h.place t0 g0 b0 b c0 f1 f3).1
    have h0 := hg.1 b hx
    rcases this with h1 | h1
    · omega
    · exact h0.2 h1
  -- what is owned behind the call
  have own : ∀ b, Own M2 μ2 b → Own N ν b ∨ (Own M1 μ b ∧ ¬ Own M0 (relμ τ μ) b) := by
    rintro b ⟨t, g, blk, cap, e1, e2, e3⟩
    cases hs : σ t with
    | some e =>
      obtain ⟨be, st, gen, q1, q2, q3, q4⟩ := hB.at_ t e hs
      rw [mu_at hs] at e3
      rw [q2] at e1
      simp only [Prod.mk.injEq, Option.some.injEq] at e1
      obtain ⟨_, rfl⟩ := e1
      refine .inl ⟨e, (N e).1, be, cap, Nat_ q1, ?_, e3⟩
      rcases q4 with ⟨h3, _⟩ | ⟨h3, h4, _⟩
      · exact .inr h3
      · simp only at e2; rw [h4] at e2; exact e2
    | none =>
      obtain ⟨h1, _⟩ := rest t g blk hs e1
      rw [mu_off hs] at e3
      exact .inr ⟨⟨t, g, blk, cap, h1, e2, e3⟩, restW t g blk b cap hs e1 e3⟩
  have hXX : ∀ b, XX cx M2 μ2 b → Own N ν b ∨ (XX cx M1 μ b ∧ ¬ Own M0 (relμ τ μ) b) := by
    rintro b (h1 | h1)
    · rcases own b h1 with h2 | ⟨h2, h3⟩
      · exact .inl h2
      · exact .inr ⟨.inl h2, h3⟩
    · exact .inr ⟨.inr h1, hX0 b h1⟩
  have hs : w.heap.size ≤ w'.heap.size := hbel.size
  have hk : ∀ b, b < w.heap.size → ¬ XX cx M1 μ b → w'.heap[b]? = w.heap[b]? ∧ ¬ XX cx M2 μ2 b := by
    intro b hb hx
    have hnw : ¬ Own M0 (relμ τ μ) b := fun hw => hx (hW b hw).1
    refine ⟨hbel.block b hb hnw, fun hx2 => ?_⟩
    rcases hXX b hx2 with ⟨e, g, blk, cap, f1, f2, f3⟩ | ⟨h2, _⟩
    · rcases (hN.place e g blk b cap f1 f3).1 with h3 | h3
      · omega
      · exact hnw h3
    · exact hx h2
  have gen_le : ∀ t, (M1 t).1 ≤ (M2 t).1 := by
    intro t
    cases hs : σ t with
    | some e =>
      obtain ⟨be, st, gen, q1, q2, q3, q4⟩ := hB.at_ t e hs
      rw [q2]
      rcases q4 with ⟨_, _, b0, h4, _⟩ | ⟨_, _, h4⟩
      · rw [h4]; exact Nat.le_refl _
      · rw [h4]; exact Nat.le_succ _
    | none =>
      rcases hB.off t hs with ⟨h1, _⟩ | h1
      · rw [h1]
        unfold noViews
        split
        · split <;> exact Nat.le_refl _
        · exact Nat.le_refl _
      · rw [h1]; exact Nat.le_refl _
  have hBm : ∀ t g blk', M2 t = (g, some blk') → g ≤ (M1 t).1 → ∃ blk, M1 t = (g, some blk) ∧ μ2 t = μ t ∧ blk'.esz = blk.esz := by
    intro t g blk' e hle
    cases hs : σ t with
    | some e' =>
      obtain ⟨be, st, gen, q1, q2, q3, q4⟩ := hB.at_ t e' hs
      rw [q2] at e
      simp only [Prod.mk.injEq, Option.some.injEq] at e
      obtain ⟨rfl, rfl⟩ := e
      rcases q4 with ⟨h3, h5, b0, h4, h6, h7⟩ | ⟨_, _, h4⟩
      · refine ⟨b0, h4, ?_, h7.symm⟩
        rw [mu_at hs, hN.anc e' _ be (Nat_ q1) h3]
        simp [relμ, h5]
      · omega
    | none =>
      obtain ⟨h1, _⟩ := rest t g blk' hs e
      exact ⟨blk', h1, mu_off hs, rfl⟩
  have hρ : ∀ e t gen, ρ e = some (t, gen) → (M2 t).1 = gen ∧ ∀ b', M2 t = (gen, some b') → ∃ b, N e = ((N e).1, some b) ∧ b'.esz = b.esz ∧ μ2 t = ν e := by
    intro e t gen he
    have hs := hB.ren e t gen he
    obtain ⟨be, st, gen', q1, q2, q3, q4⟩ := hB.at_ t e hs
    rw [he] at q3
    simp only [Option.some.injEq, Prod.mk.injEq, true_and] at q3
    subst q3
    refine ⟨by rw [q2], fun b' hb' => ⟨be, Nat_ q1, ?_, mu_at hs⟩⟩
    rw [q2] at hb'
    simp only [Prod.mk.injEq, Option.some.injEq, true_and] at hb'
    rw [← hb']
  have hren := ren_rep (w := w') (N := N) (M := M2) (ν := ν) (μ := μ2) (X := fun b => Own N ν b ∨ (XX cx M1 μ b ∧ ¬ Own M0 (relμ τ μ) b)) (X' := XX cx M2 μ2) hρ hXX
  refine ⟨μ2, ⟨fun t g blk e => ?_, fun i => SVRep.mono hs hk gen_le hBm _ _ (h.slot i), fun t g blk b cap e hm => ?_, fun t1 g1 b1 t2 g2 b2 b c1 c2 hne e1 e2 s1 m1 m2 => ?_, fun t g blk e h3 => ?_, ?_, h.size, h.defers⟩, hren⟩
  · change M2 t = _ at e
    show BlkRep w' M2 μ2 (XX cx M2 μ2) t blk
    cases hσ : σ t with
    | some e' =>
      obtain ⟨be, st, gen, q1, q2, q3, q4⟩ := hB.at_ t e' hσ
      rw [q2] at e
      simp only [Prod.mk.injEq, Option.some.injEq] at e
      obtain ⟨_, rfl⟩ := e
      have hb := hN.blk e' _ be (Nat_ q1)
      unfold BlkRep at hb ⊢
      rw [mu_at hσ]
      cases hm : ν e' with
      | none =>
        rw [hm] at hb
        exact ⟨by rw [hb.1]; simp [renSVs], hb.2⟩
      | some p =>
        obtain ⟨b, cap⟩ := p
        rw [hm] at hb
        obtain ⟨cur, r1, r2, r3, r4, r5⟩ := hb
        have hlen : (renSVs N ρ be.cells).length = be.cells.length := by rw [renSVs_map]; simp
        refine ⟨cur, r1, by simp only [hlen]; exact r2, fun j c u hc hu => ?_, r4, fun hr => by simp only [hlen]; exact r5 hr⟩
        simp only [renSVs_map, List.getElem?_map, Option.map_eq_some_iff] at hc
        obtain ⟨c0, hc0, rfl⟩ := hc
        exact hren c0 u (r3 j c0 u hc0 hu)
    | none =>
      obtain ⟨h1, h2, h3⟩ := rest t g blk hσ e
      have hb := h.blk t g blk h1
      refine BlkRep.mono (st := blk.st) hs hk gen_le hBm (mu_off hσ) (fun b cap hm => hbel.block b ?_ (restW t g blk b cap hσ e hm)) hb
      exact (h.place t g blk b cap h1 hm).2
  · change M2 t = _ at e
    cases hσ : σ t with
    | some e' =>
      obtain ⟨be, st, gen, q1, q2, q3, q4⟩ := hB.at_ t e' hσ
      have hm' : ν e' = some (b, cap) := (mu_at hσ).symm.trans hm
      obtain ⟨p1, p2⟩ := hN.place e' _ be b cap (Nat_ q1) hm'
      refine ⟨?_, p2⟩
      rcases p1 with p1 | p1
      · exact .inl (Nat.le_trans h.below.size p1)
      · obtain ⟨_, t0, g0, b0, c0, f1, f2, f3, _⟩ := hW b p1
        exact (h.place t0 g0 b0 b c0 f1 f3).1
    | none =>
      obtain ⟨h1, _⟩ := rest t g blk hσ e
      have := h.place t g blk b cap h1 ((mu_off hσ).symm.trans hm)
      exact ⟨this.1, Nat.lt_of_lt_of_le this.2 hs⟩
  · change M2 t1 = _ at e1
    change M2 t2 = _ at e2
    exfalso
    have bad : ∀ t g blk e' c c', σ t = none → M2 t = (g, some blk) → μ2 t = some (b, c) → ∀ be, (N e').2 = some be → ν e' = some (b, c') → False := by
      intro t g blk e' c c' hσ e hm be q1 hm'
      rcases (hN.place e' _ be b c' (Nat_ q1) hm').1 with h3 | h3
      · have := (h.place t g blk b c (rest t g blk hσ e).1 ((mu_off hσ).symm.trans hm)).2
        omega
      · exact restW t g blk b c hσ e ((mu_off hσ).symm.trans hm) h3
    cases h1 : σ t1 with
    | some x1 =>
      obtain ⟨be1, st1, gen1, q1, q2, q3, q4⟩ := hB.at_ t1 x1 h1
      have n1 : ν x1 = some (b, c1) := (mu_at h1).symm.trans m1
      have o1 : OwS be1.st := by
        rw [q2] at e1
        simp only [Prod.mk.injEq, Option.some.injEq] at e1
        obtain ⟨_, rfl⟩ := e1
        rcases q4 with ⟨h3, _⟩ | ⟨h3, h4, _⟩
        · exact .inr h3
        · simp only at s1; rw [h4] at s1; exact s1
      cases h2 : σ t2 with
      | some x2 =>
        obtain ⟨be2, st2, gen2, p1, p2, p3, p4⟩ := hB.at_ t2 x2 h2
        have n2 : ν x2 = some (b, c2) := (mu_at h2).symm.trans m2
        have hx : x1 ≠ x2 := fun hh => by
          subst hh
          rw [q3] at p3
          simp only [Option.some.injEq, Prod.mk.injEq] at p3
          exact hne p3.1
        have := (hN.uniq x1 _ be1 x2 _ be2 b c1 c2 hx (Nat_ q1) (Nat_ p1) o1 n1 n2).1
        rcases p4 with ⟨h3, _⟩ | ⟨h3, _⟩ <;> omega
      | none => exact bad t2 g2 b2 x1 c2 c1 h2 e2 m2 be1 q1 n1
    | none =>
      cases h2 : σ t2 with
      | some x2 =>
        obtain ⟨be2, st2, gen2, p1, p2, p3, p4⟩ := hB.at_ t2 x2 h2
        exact bad t1 g1 b1 x2 c1 c2 h1 e1 m1 be2 p1 ((mu_at h2).symm.trans m2)
      | none =>
        have := (h.uniq t1 g1 b1 t2 g2 b2 b c1 c2 hne (rest t1 g1 b1 h1 e1).1 (rest t2 g2 b2 h2 e2).1 s1 ((mu_off h1).symm.trans m1) ((mu_off h2).symm.trans m2)).1
        exact (rest t2 g2 b2 h2 e2).2.1 this
  · change M2 t = _ at e
    cases hσ : σ t with
    | some e' =>
      obtain ⟨be, st, gen, q1, q2, q3, q4⟩ := hB.at_ t e' hσ
      rw [q2] at e
      simp only [Prod.mk.injEq, Option.some.injEq] at e
      obtain ⟨rfl, rfl⟩ := e
      simp only at h3 ⊢
      rcases q4 with ⟨p3, p5, b0, p4, p6, p7⟩ | ⟨p3, p4, _⟩
      · rw [mu_at hσ, hN.anc e' _ be (Nat_ q1) p3]
        have := h.anc t gen b0 p4 (by omega)
        simp only [relμ, p5]
        rw [this, p6]
      · omega
    | none =>
      obtain ⟨h1, _⟩ := rest t g blk hσ e
      rw [mu_off hσ]
      exact h.anc t g blk h1 h3
  · refine h.below.then hbel fun i hi hw hib => ?_
    obtain ⟨_, t0, g0, b0, c0, f1, f2, f3, _⟩ := hW i hib
    rcases (h.place t0 g0 b0 i c0 f1 f3).1 with h1 | h1
    · omega
    · exact hw h1
end
end Go.Ab
set_option linter.unusedVariables false
namespace Go.Ab
open Go.RowKit
def mkB (l : List (Nat × Blk)) : Nat → Nat × Option Blk := mkM (l.map fun p => (p.1, 0, some p.2))
def resG (N : Nat → Nat × Option Blk) (ρ : Nat → Option (Nat × Nat)) (res : List SV) : SV :=
  match res with
  | [r] => renSV N ρ r
  | rs => .tup (renSVs N ρ rs)
def frzF (M : Nat → Nat × Option Blk) (ts : List Nat) : Nat → Nat × Option Blk := fun t => if t ∈ ts then ((M t).1, (M t).2.map fun b => { b with st := 1 }) else M t
def frzMs (M : Nat → Nat × Option Blk) (ts : List Nat) : List (Nat × Nat × Option Blk) := ts.map fun t => (t, (M t).1, (M t).2.map fun b => { b with st := 1 })
def drops (M : Nat → Nat × Option Blk) (τ : List (Nat × Nat)) : List (Nat × Nat × Option Blk) := τ.map fun p => (p.2, (M p.2).1, none)
def genG (M : Nat → Nat × Option Blk) (b : Blk) (t : Nat) : Nat := if 3 ≤ b.st then (M t).1 else (M t).1 + 1
def stG (M : Nat → Nat × Option Blk) (b : Blk) (t : Nat) : Nat := if 3 ≤ b.st then ((M t).2.map (·.st)).getD 0 else b.st
def rhoG (M : Nat → Nat × Option Blk) : List (Nat × Blk) → List Nat → Nat → Option (Nat × Nat)
  | (e, b) :: mem, t :: ts, i => if i = e then some (t, genG M b t) else rhoG M mem ts i
  | _, _, _ => none
def sigG : List (Nat × Blk) → List Nat → Nat → Option Nat
  | (e, _) :: mem, t :: ts, i => if i = t then some e else sigG mem ts i
  | _, _, _ => none
def puts (M N : Nat → Nat × Option Blk) (ρ : Nat → Option (Nat × Nat)) : List (Nat × Blk) → List Nat → List (Nat × Nat × Option Blk)
  | (_, b) :: mem, t :: ts => puts M N ρ mem ts ++ [(t, genG M b t, some { b with cells := renSVs N ρ b.cells, st := stG M b t })]
  | _, _ => []
def msG (M : Nat → Nat × Option Blk) (fz : List Nat) (τ : List (Nat × Nat)) (mem : List (Nat × Blk)) (rt : List Nat) : List (Nat × Nat × Option Blk) :=
  frzMs M fz ++ drops M τ ++ puts M (mkB mem) (rhoG M mem rt) mem rt
def effG (d : Nat) (S : St) (fz : List Nat) (τ : List (Nat × Nat)) (res : List SV) (mem : List (Nat × Blk)) (rt : List Nat) : Eff :=
  ⟨some d, resG (mkB mem) (rhoG S.M mem rt) res, true, msG S.M fz τ mem rt⟩
def MemOk (M : Nat → Nat × Option Blk) (τ : List (Nat × Nat)) : List (Nat × Blk) → List Nat → Prop
  | (_, b) :: mem, t :: ts => ((3 ≤ b.st ∧ tauL τ (b.st - 3) = some t ∧ ∃ b0, (M t).2 = some b0 ∧ b0.esz = b.esz) ∨ b.st < 2) ∧ MemOk M τ mem ts
  | [], [] => True
  | _, _ => False
def LentL (τ : List (Nat × Nat)) (M1 M0 : Nat → Nat × Option Blk) : List (Nat × Blk) → Prop
  | [] => True
  | (t', b') :: m0 => (b'.st = 3 + t' ∧ ∃ t b, tauL τ t' = some t ∧ (M1 t).2 = some b ∧ OwS b.st ∧ b'.esz = b.esz ∧ b'.elem = b.elem ∧ b'.row = b.row ∧ svLes (tauL τ) M1 M0 b'.cells b.cells) ∧ LentL τ M1 M0 m0
def FrzOk (M : Nat → Nat × Option Blk) : List Nat → Prop
  | [] => True
  | t :: ts => (∃ b, (M t).2 = some b ∧ (OwS b.st ∨ b.st = 1)) ∧ FrzOk M ts
theorem mkB_mem : ∀ {l : List (Nat × Blk)} {t g : Nat} {b : Blk}, mkB l t = (g, some b) → g = 0 ∧ (t, b) ∈ l
  | [], t, g, b, h => by simp [mkB, mkM] at h
  | (k, v) :: l, t, g, b, h => by
    simp only [mkB, List.map_cons, mkM] at h
    split at h
    · rename_i e
      subst e
      simp only [Prod.mk.injEq, Option.some.injEq] at h
      obtain ⟨rfl, rfl⟩ := h
      exact ⟨rfl, by simp⟩
    · obtain ⟨h1, h2⟩ := mkB_mem (l := l) h
      exact ⟨h1, List.mem_cons_of_mem _ h2⟩
theorem mkB_at : ∀ {l : List (Nat × Blk)}, (l.map (·.1)).Nodup → ∀ {t : Nat} {b : Blk}, (t, b) ∈ l → mkB l t = (0, some b)
  | [], _, t, b, h => by cases h
  | (k, v) :: l, hn, t, b, h => by
    simp only [List.map_cons, List.nodup_cons] at hn
    simp only [mkB, List.map_cons, mkM]
    rcases List.mem_cons.1 h with h1 | h1
    · simp only [Prod.mk.injEq] at h1
      obtain ⟨rfl, rfl⟩ := h1
      simp
    · have : t ≠ k := fun e => hn.1 (e ▸ List.mem_map.2 ⟨_, h1, rfl⟩)
      rw [if_neg this]
      exact mkB_at hn.2 h1
theorem frz_fold : ∀ (ts : List Nat) (M : Nat → Nat × Option Blk), FrzOk M ts → ∃ M', frz M ts = some M' ∧ M' = frzF M ts
  | [], M, _ => ⟨M, rfl, by funext t; simp [frzF]⟩
  | t :: ts, M, h => by
    obtain ⟨⟨b, h1, h2⟩, h3⟩ := h
    have hM : M t = ((M t).1, some b) := by rw [← h1]
    have h3' : FrzOk (upd M t ((M t).1, some { b with st := 1 })) ts := by
      have : ∀ ts : List Nat, FrzOk M ts → FrzOk (upd M t ((M t).1, some { b with st := 1 })) ts := by
        intro ts
        induction ts with
        | nil => exact fun _ => trivial
        | cons s ts ih =>
          rintro ⟨⟨c, c1, c2⟩, c3⟩
          refine ⟨?_, ih c3⟩
          by_cases hs : s = t
          · subst hs; exact ⟨_, by rw [upd_same], .inr rfl⟩
          · exact ⟨c, by rw [upd_ne _ _ _ _ hs]; exact c1, c2⟩
      exact this ts h3
    obtain ⟨M', e1, e2⟩ := frz_fold ts _ h3'
    refine ⟨M', ?_, ?_⟩
    · rw [frz, hM]
      simp only [h2, if_true]
      exact e1
    · rw [e2]
      funext s
      simp only [frzF, List.mem_cons]
      by_cases hs : s = t
      · subst hs
        rw [upd_same, hM]
        simp
      · rw [upd_ne _ _ _ _ hs]
        simp [hs]
theorem setM_app : ∀ (l l' : List (Nat × Nat × Option Blk)) (M : Nat → Nat × Option Blk), setM M (l ++ l') = setM (setM M l) l'
  | [], _, _ => rfl
  | (t, e) :: l, l', M => setM_app l l' _
theorem setM_miss : ∀ (l : List (Nat × Nat × Option Blk)) (M : Nat → Nat × Option Blk) (t : Nat), (∀ p ∈ l, p.1 ≠ t) → setM M l t = M t
  | [], _, _, _ => rfl
  | (k, e) :: l, M, t, h => by
    rw [setM, setM_miss l _ t fun p hp => h p (List.mem_cons_of_mem _ hp), upd_ne _ _ _ _ (Ne.symm (h (k, e) (by simp)))]
theorem setM_same {f : Nat → Nat × Option Blk} : ∀ (l : List (Nat × Nat × Option Blk)) (M : Nat → Nat × Option Blk) (t : Nat), (∀ p ∈ l, p.2 = f p.1) → (∃ p ∈ l, p.1 = t) → setM M l t = f t
  | [], _, _, _, h => by obtain ⟨p, hp, _⟩ := h; cases hp
  | (k, e) :: l, M, t, hf, h => by
    by_cases h2 : ∃ p ∈ l, p.1 = t
    · exact setM_same l _ t (fun p hp => hf p (List.mem_cons_of_mem _ hp)) h2
    · rw [setM, setM_miss l _ t fun p hp e => h2 ⟨p, hp, e⟩]
      obtain ⟨p, hp, hpt⟩ := h
      rcases List.mem_cons.1 hp with rfl | hp
      · simp only at hpt
        subst hpt
        rw [upd_same]
        exact hf (_, e) (by simp)
      · exact absurd ⟨p, hp, hpt⟩ h2
section
variable {M : Nat → Nat × Option Blk} {fz : List Nat} {τ : List (Nat × Nat)}
theorem sig_rho : ∀ {mem : List (Nat × Blk)} {rt : List Nat}, MemOk M τ mem rt → (mem.map (·.1)).Nodup → rt.Nodup → ∀ {t e : Nat}, sigG mem rt t = some e ↔ ∃ b, (e, b) ∈ mem ∧ rhoG M mem rt e = some (t, genG M b t)
  | [], [], _, _, _, t, e => by simp [sigG, rhoG]
  | [], _ :: _, h, _, _, _, _ => by simp only [MemOk] at h
  | _ :: _, [], h, _, _, _, _ => by simp only [MemOk] at h
  | (k, v) :: mem, s :: rt, h, hn, hr, t, e => by
    simp only [MemOk] at h
    simp only [List.map_cons, List.nodup_cons] at hn hr
    have ih := sig_rho h.2 hn.2 hr.2 (t := t) (e := e)
    have isrt : ∀ {mem : List (Nat × Blk)} {rt : List Nat} {i t g : Nat}, rhoG M mem rt i = some (t, g) → t ∈ rt := by
      intro mem
      induction mem with
      | nil => intro rt i t g h; simp [rhoG] at h
      | cons p mem ih =>
        obtain ⟨k, v⟩ := p
        intro rt i t g h
        cases rt with
        | nil => simp [rhoG] at h
        | cons s rt =>
          simp only [rhoG] at h
          split at h
          · simp only [Option.some.injEq, Prod.mk.injEq] at h; rw [← h.1]; simp
          · exact List.mem_cons_of_mem _ (ih h)
    have ismem : ∀ {mem : List (Nat × Blk)} {rt : List Nat} {t e : Nat}, sigG mem rt t = some e → e ∈ mem.map (·.1) ∧ t ∈ rt := by
      intro mem
      induction mem with
      | nil => intro rt t e h; simp [sigG] at h
      | cons p mem ih =>
        obtain ⟨k, v⟩ := p
        intro rt t e h
        cases rt with
        | nil => simp [sigG] at h
        | cons s rt =>
          simp only [sigG] at h
          split at h
          · rename_i h1; simp only [Option.some.injEq] at h; subst h; subst h1; simp
          · obtain ⟨a, b⟩ := ih h; exact ⟨List.mem_cons_of_mem _ a, List.mem_cons_of_mem _ b⟩
    simp only [sigG, rhoG]
    by_cases h1 : t = s
    · subst h1
      rw [if_pos rfl]
      constructor
      · intro h2
        simp only [Option.some.injEq] at h2
        subst h2
        exact ⟨v, by simp, by rw [if_pos rfl]⟩
      · rintro ⟨b, hb, hb2⟩
        split at hb2
        · rename_i h3; rw [h3]
        · exact absurd (isrt hb2) hr.1
    · rw [if_neg h1, ih]
      constructor
      · rintro ⟨b, hb, hb2⟩
        have : e ≠ k := fun hh => hn.1 (hh ▸ List.mem_map.2 ⟨_, hb, rfl⟩)
        exact ⟨b, List.mem_cons_of_mem _ hb, by rw [if_neg this]; exact hb2⟩
      · rintro ⟨b, hb, hb2⟩
        split at hb2
        · simp only [Option.some.injEq, Prod.mk.injEq] at hb2; exact absurd hb2.1.symm h1
        · rename_i h3
          refine ⟨b, ?_, hb2⟩
          rcases List.mem_cons.1 hb with h4 | h4
          · simp only [Prod.mk.injEq] at h4; exact absurd h4.1 h3
          · exact h4
theorem rho_sig : ∀ {mem : List (Nat × Blk)} {rt : List Nat}, (mem.map (·.1)).Nodup → rt.Nodup → ∀ {t e g : Nat}, rhoG M mem rt e = some (t, g) → ∃ b, (e, b) ∈ mem ∧ g = genG M b t ∧ t ∈ rt
  | [], _, _, _, t, e, g, h => by simp [rhoG] at h
  | _ :: _, [], _, _, t, e, g, h => by simp [rhoG] at h
  | (k, v) :: mem, s :: rt, hn, hr, t, e, g, h => by
    simp only [List.map_cons, List.nodup_cons] at hn hr
    simp only [rhoG] at h
    split at h
    · rename_i h1
      subst h1
      simp only [Option.some.injEq, Prod.mk.injEq] at h
      exact ⟨v, by simp, by rw [← h.2, h.1], by rw [← h.1]; simp⟩
    · obtain ⟨b, h1, h2, h3⟩ := rho_sig hn.2 hr.2 h
      exact ⟨b, List.mem_cons_of_mem _ h1, h2, List.mem_cons_of_mem _ h3⟩
theorem puts_at {N : Nat → Nat × Option Blk} {ρ : Nat → Option (Nat × Nat)} : ∀ {mem : List (Nat × Blk)} {rt : List Nat}, MemOk M τ mem rt → rt.Nodup → ∀ (M0 : Nat → Nat × Option Blk) (t : Nat),
    (∀ e, sigG mem rt t = some e → ∃ b, (e, b) ∈ mem ∧ setM M0 (puts M N ρ mem rt) t = (genG M b t, some { b with cells := renSVs N ρ b.cells, st := stG M b t }) ∧ ((3 ≤ b.st ∧ tauL τ (b.st - 3) = some t ∧ ∃ b0, (M t).2 = some b0 ∧ b0.esz = b.esz) ∨ b.st < 2)) ∧
    (sigG mem rt t = none → setM M0 (puts M N ρ mem rt) t = M0 t)
  | [], [], _, _, M0, t => by simp [sigG, puts, setM]
  | [], _ :: _, h, _, _, _ => by simp only [MemOk] at h
  | _ :: _, [], h, _, _, _ => by simp only [MemOk] at h
  | (k, v) :: mem, s :: rt, h, hr, M0, t => by
    simp only [MemOk] at h
    simp only [List.nodup_cons] at hr
    obtain ⟨i1, i2⟩ := puts_at (N := N) (ρ := ρ) h.2 hr.2 M0 t
    simp only [puts, setM_app, setM, sigG]
    by_cases h1 : t = s
    · subst h1
      rw [upd_same, if_pos rfl]
      refine ⟨fun e he => ?_, fun he => by cases he⟩
      simp only [Option.some.injEq] at he
      subst he
      exact ⟨v, by simp, rfl, h.1⟩
    · rw [upd_ne _ _ _ _ h1, if_neg h1]
      refine ⟨fun e he => ?_, i2⟩
      obtain ⟨b, b1, b2, b3⟩ := i1 e he
      exact ⟨b, List.mem_cons_of_mem _ b1, b2, b3⟩
theorem backOk_list {mem : List (Nat × Blk)} {rt : List Nat} (hm : MemOk M τ mem rt) (hn : (mem.map (·.1)).Nodup) (hr : rt.Nodup) (hfz : ∀ t ∈ rt, t ∉ fz) :
    BackOk (tauL τ) (frzF M fz) (mkB mem) (setM (noViews M) (msG M fz τ mem rt)) (sigG mem rt) (rhoG M mem rt) := by
  have hf : ∀ t ∈ rt, frzF M fz t = M t := fun t ht => by simp [frzF, hfz t ht]
  have hfg : ∀ t, (frzF M fz t).1 = (M t).1 := fun t => by unfold frzF; split <;> rfl
  refine ⟨fun t e hs => ?_, fun t hs => ?_, fun e t gen he => ?_⟩
  · obtain ⟨b, b1, b2, b3⟩ := (puts_at (N := mkB mem) (ρ := rhoG M mem rt) hm hr (setM (setM (noViews M) (frzMs M fz)) (drops M τ)) t).1 e hs
    obtain ⟨b', c1, c2⟩ := (sig_rho hm hn hr).1 hs
    have hbb : b' = b := by
      have q1 := mkB_at hn b1
      have q2 := mkB_at hn c1
      rw [q1] at q2
      simp only [Prod.mk.injEq, Option.some.injEq, true_and] at q2
      exact q2.symm
    subst hbb
    obtain ⟨_, _, _, htr⟩ := rho_sig hn hr c2
    refine ⟨b', stG M b' t, genG M b' t, by rw [mkB_at hn b1], ?_, c2, ?_⟩
    · rw [msG, setM_app, setM_app]; exact b2
    · rcases b3 with ⟨h3, h4, b0, h5, h6⟩ | h3
      · refine .inl ⟨h3, h4, b0, ?_, ?_, h6⟩
        · rw [hf t htr, genG, if_pos h3, ← h5]
        · simp [stG, h3, h5]
      · refine .inr ⟨h3, by simp [stG, show ¬ 3 ≤ b'.st by omega], by rw [hfg, genG, if_neg (by omega)]⟩
  · have h1 := (puts_at (N := mkB mem) (ρ := rhoG M mem rt) hm hr (setM (setM (noViews M) (frzMs M fz)) (drops M τ)) t).2 hs
    have e : setM (noViews M) (msG M fz τ mem rt) t = setM (setM (noViews M) (frzMs M fz)) (drops M τ) t := by rw [msG, setM_app, setM_app]; exact h1
    by_cases h2 : ∃ p ∈ drops M τ, p.1 = t
    · refine .inr ?_
      rw [e, setM_same (f := fun t => ((M t).1, none)) _ _ t (fun p hp => ?_) h2, hfg]
      simp only [drops, List.mem_map] at hp
      obtain ⟨q, _, rfl⟩ := hp
      rfl
    · refine .inl ⟨?_, fun t' ht' => h2 ⟨_, List.mem_map.2 ⟨_, tauL_mem ht', rfl⟩, rfl⟩⟩
      rw [e, setM_miss _ _ t fun p hp hpt => h2 ⟨p, hp, hpt⟩]
      by_cases h3 : t ∈ fz
      · have hin : ∃ p ∈ frzMs M fz, p.1 = t := ⟨_, by unfold frzMs; exact List.mem_map.2 ⟨t, h3, rfl⟩, rfl⟩
        rw [setM_same (f := fun t => ((M t).1, (M t).2.map fun b => { b with st := 1 })) _ _ t (fun p hp => ?_) hin]
        · simp only [noViews, frzF, h3, if_true]
          cases (M t).2 <;> simp
        · simp only [frzMs, List.mem_map] at hp
          obtain ⟨q, _, rfl⟩ := hp
          rfl
      · rw [setM_miss _ _ t fun p hp hpt => ?_]
        · exact noViews_get (by simp [frzF, h3])
        · simp only [frzMs, List.mem_map] at hp
          obtain ⟨q, hq, rfl⟩ := hp
          exact h3 (hpt ▸ hq)
  · obtain ⟨b, b1, b2, _⟩ := rho_sig hn hr he
    refine (sig_rho hm hn hr).2 ⟨b, b1, ?_⟩
    rw [he, b2]
theorem lentOk_list {m0 : List (Nat × Blk)} {M1 : Nat → Nat × Option Blk} (h : LentL τ M1 (mkB m0) m0) (hτ : (τ.map (·.2)).Nodup) (hk : ∀ p ∈ τ, p.1 ∈ m0.map (·.1)) (hn : (m0.map (·.1)).Nodup) : LentOk (tauL τ) M1 (mkB m0) := by
  refine ⟨fun t' g' b' e => ?_, tauL_inj hτ, fun t' t ht => ?_⟩
  · have hm := (mkB_mem e).2
    have : ∀ l : List (Nat × Blk), LentL τ M1 (mkB m0) l → (t', b') ∈ l → b'.st = 3 + t' ∧ ∃ t b, tauL τ t' = some t ∧ (M1 t).2 = some b ∧ OwS b.st ∧ b'.esz = b.esz ∧ b'.elem = b.elem ∧ b'.row = b.row ∧ svLes (tauL τ) M1 (mkB m0) b'.cells b.cells := by
      intro l
      induction l with
      | nil => intro _ h; cases h
      | cons p l ih =>
        obtain ⟨k, v⟩ := p
        intro h hm
        rcases List.mem_cons.1 hm with h1 | h1
        · simp only [Prod.mk.injEq] at h1
          obtain ⟨rfl, rfl⟩ := h1
          exact h.1
        · exact ih h.2 h1
    exact this m0 h hm
  · obtain ⟨p, hp, hpt⟩ := List.mem_map.1 (hk _ (tauL_mem ht))
    obtain ⟨k, b⟩ := p
    simp only at hpt
    subst hpt
    exact ⟨0, b, mkB_at hn hp⟩
end
theorem svreps_app {w : World} {M : Nat → Nat × Option Blk} {μ : Nat → Option (Nat × Nat)} {X : Nat → Prop} : ∀ {cs ds : List SV} {us vs : List Value}, SVReps w M μ X cs us → SVReps w M μ X ds vs → SVReps w M μ X (cs ++ ds) (us ++ vs)
  | [], _, [], _, _, h => h
  | c :: cs, _, u :: us, _, h, k => by
    simp only [SVReps] at h
    simp only [List.cons_append, SVReps]
    exact ⟨h.1, svreps_app h.2 k⟩
  | [], _, _ :: _, _, h, _ => by simp only [SVReps] at h
  | _ :: _, _, [], _, h, _ => by simp only [SVReps] at h
section
variable {cx : Cx} {S : St} {a : Act} {w : World} {o : Oper} {fz : List Nat} {τ : List (Nat × Nat)} {m0 mem : List (Nat × Blk)} {rt : List Nat} {args : List SV} {res : List SV}
structure GOkay (S : St) (fz : List Nat) (τ : List (Nat × Nat)) (m0 mem : List (Nat × Blk)) (rt : List Nat) (args ss : List SV) : Prop where
  hfz : FrzOk S.M fz
  lent : LentL τ (frzF S.M fz) (mkB m0) m0
  inj : (τ.map (·.2)).Nodup
  keys : ∀ p ∈ τ, p.1 ∈ m0.map (·.1)
  nd0 : (m0.map (·.1)).Nodup
  hargs : svLes (tauL τ) (frzF S.M fz) (mkB m0) args ss
  hmem : MemOk S.M τ mem rt
  nd1 : (mem.map (·.1)).Nodup
  nd2 : rt.Nodup
  off : ∀ t ∈ rt, t ∉ fz
theorem callG_does (hg : cx.Good) (h0 : Sim cx S a w) {f' : Operand} {ops : Array Operand} {ts : Array TypeId} (ho : o.op = .call { callee := .value f', args := ops, argTypes := ts }) {f : FuncId} {pre caps : List DV} (hf : S.ev f' = .dv (.fn f pre caps))
    (hk : GOkay S fz τ m0 mem rt args (ops.toList.map S.ev)) (hcall : ACallsG cx.P f (pre.map .dv ++ args ++ caps.map .dv) (mkB m0) ⟨res, mkB mem⟩) {d : Nat} (hd : o.dst = some d) (hdn : d < cx.n) :
    Does cx ((effG d S fz τ res mem rt).app S) o a w := by
  obtain ⟨μ, h0⟩ := h0
  obtain ⟨M1, hz1, hz2⟩ := frz_fold fz S.M hk.hfz
  have h : SimU cx ⟨S.F, frzF S.M fz⟩ a w μ := by rw [← hz2]; exact frz_sim h0 fz S.M M1 h0 hz1
  have hL := lentOk_list hk.lent hk.inj hk.keys hk.nd0
  have hB := backOk_list (M := S.M) hk.hmem hk.nd1 hk.nd2 hk.off
  obtain ⟨hM0, hW, hrep⟩ := lent_mem hg h hL
  have hfv := h.ev f'
  have hf1 : St.ev ⟨S.F, frzF S.M fz⟩ f' = .dv (.fn f pre caps) := by rw [← hf]; cases f' <;> rfl
  rw [hf1] at hfv
  simp only [SVRep] at hfv
  generalize hv : a.eval f' = vf at *
  cases hfv with
  | fn _ _ _ vp vc p1 p2 p3 p4 =>
    intro Q
    unfold Oper.wp
    rw [call_exec ho hv hcall.1]
    have dvs : ∀ (ds : List DV) (vs : Array Value), vs.size = ds.length → (∀ (j : Nat) c, ds[j]? = some c → RepD w (XX cx (frzF S.M fz) μ) c (vs.getD j undef)) →
        SVReps w (mkB m0) (relμ (tauL τ) μ) (fun b => Own (mkB m0) (relμ (tauL τ) μ) b ∨ (XX cx (frzF S.M fz) μ b ∧ ¬ Own (mkB m0) (relμ (tauL τ) μ) b)) (ds.map .dv) vs.toList := by
      intro ds vs hl hh
      refine SVReps.mk (by simpa using hl) fun j c u hj hu => ?_
      simp only [List.getElem?_map, Option.map_eq_some_iff] at hj
      obtain ⟨x, hx, rfl⟩ := hj
      simp only [SVRep]
      have h1 := hh j x hx
      have e : vs.getD j undef = u := by
        simp only [Array.getElem?_toList] at hu
        simp [hu]
      rw [e] at h1
      exact h1.weaken fun b hb => hb.elim (fun q => (hW b q).1) (fun q => q.1)
    have hargs : SVReps w (mkB m0) (relμ (tauL τ) μ) (fun b => Own (mkB m0) (relμ (tauL τ) μ) b ∨ (XX cx (frzF S.M fz) μ b ∧ ¬ Own (mkB m0) (relμ (tauL τ) μ) b)) args (ops.toList.map a.eval) := by
      refine hrep _ _ _ hk.hargs (SVReps.mk (by simp) fun j c u hj hu => ?_)
      simp only [List.getElem?_map, Option.map_eq_some_iff] at hj hu
      obtain ⟨x, hx, rfl⟩ := hj
      obtain ⟨y, hy, rfl⟩ := hu
      rw [hx] at hy
      obtain rfl := Option.some.inj hy
      have := h.ev x
      have e : St.ev ⟨S.F, frzF S.M fz⟩ x = S.ev x := by cases x <;> rfl
      rw [e] at this
      exact this
    have hall := svreps_app (svreps_app (dvs pre vp p1 p3) hargs) (dvs caps vc p2 p4)
    have harr : (vp ++ ops.map a.eval ++ vc) = (vp.toList ++ ops.toList.map a.eval ++ vc.toList).toArray := by
      apply Array.toList_inj.1
      simp
    rw [harr]
    refine (hcall.2 w (fun b => XX cx (frzF S.M fz) μ b ∧ ¬ Own (mkB m0) (relμ (tauL τ) μ) b) (Own (mkB m0) (relμ (tauL τ) μ)) (relμ (tauL τ) μ) (relμ (tauL τ) μ) _ (fun b hb => ⟨?_, hb.2⟩) (h.laid hg).1 (fun g hk => ⟨fun hx => (h.laid hg).2 g hk hx.1, fun hx => (h.laid hg).2 g hk (hW g hx).1⟩) hM0 hall).mono fun e w' ⟨us, ν, he, hbel, hN, hR⟩ => ?_
    · rcases hb.1 with ⟨t, g, blk, cap, e1, _, e3⟩ | hx
      · exact (h.place t g blk b cap e1 e3).2
      · exact Nat.lt_of_lt_of_le (hg.1 b hx).1 h.below.size
    · subst he
      show Sim cx _ (a.put o.dst (valOf us)) w'
      obtain ⟨μ2, i1, i2⟩ := back_sim hg h hL hB hbel hN
      rw [hd]
      refine ⟨μ2, ?_⟩
      have hval : SVRep w' (setM (noViews S.M) (msG S.M fz τ mem rt)) μ2 (XX cx (setM (noViews S.M) (msG S.M fz τ mem rt)) μ2) (resG (mkB mem) (rhoG S.M mem rt) res) (valOf us) := by
        have tup : us.length ≠ 1 → SVRep w' (setM (noViews S.M) (msG S.M fz τ mem rt)) μ2 (XX cx (setM (noViews S.M) (msG S.M fz τ mem rt)) μ2) (.tup (renSVs (mkB mem) (rhoG S.M mem rt) res)) (valOf us) := fun hne => by
          have : valOf us = .tuple us.toArray := by
            unfold valOf
            rw [dif_neg (by simpa using hne)]
          rw [this]
          simp only [SVRep]
          refine ⟨us, rfl, ?_⟩
          rw [renSVs_map]
          refine SVReps.mk (by simp [hR.length]) fun j c u hj hu => ?_
          simp only [List.getElem?_map, Option.map_eq_some_iff] at hj
          obtain ⟨c0, hc0, rfl⟩ := hj
          exact i2 c0 u (hR.get j c0 u hc0 hu)
        have hlen := hR.length
        match res, us, hlen, hR, tup with
        | [r], [u], _, hR, _ =>
          simp only [SVReps, and_true] at hR
          show SVRep w' _ μ2 _ (renSV (mkB mem) _ r) (valOf [u])
          have : valOf [u] = u := by simp [valOf]
          rw [this]
          exact i2 r u hR
        | [], [], _, _, tup => exact tup (by simp)
        | r :: r' :: rs, us, hlen, _, tup => exact tup (by simp at hlen; omega)
      have := i1.set hdn hval
      simpa [effG, Eff.app] using this
end
end Go.Ab
set_option linter.unusedVariables false
namespace Go.Ab
open Go.RowKit
def setL (L : List (Nat × Nat × Option Blk)) : List (Nat × Nat × Option Blk) → List (Nat × Nat × Option Blk)
  | [] => L
  | p :: r => setL (p :: L) r
theorem setM_mkM : ∀ (ms L : List (Nat × Nat × Option Blk)), setM (mkM L) ms = mkM (setL L ms)
  | [], L => rfl
  | (t, e) :: r, L => by rw [setM, upd_mkM, setM_mkM r, setL]
section
variable {cx : Cx} {P : Program} {N : Nat} {ops : Array Oper} {rest : List Oper} {l : List (Nat × SV)} {m m' : List (Nat × Nat × Option Blk)} {K : St → Prop} {KD : List It → St → Prop} {its : List It}
  {d f : Nat} {ty : TypeId} {p : String} {af : Array Edge} {gd : Option (Nat × Bool)} {oa : Array Operand} {ts : Array TypeId} {args res ss : List SV} {m0 mem : List (Nat × Blk)}
theorem qqG (hc : ACallsG P f args (mkB m0) ⟨res, mkB mem⟩) (fz : List Nat) (τ : List (Nat × Nat)) (rt : List Nat) {v : SV} (kk : Chain cx ops rest ⟨lk ((d, v) :: l), mkM m'⟩ K)
    (hs : oa.toList.map (St.ev ⟨lk l, mkM m⟩) = ss := by (simp only [List.map, St.look, St.ev, lk, mkM, blkOf, svOf, svOfCell, reduceIte, Nat.reduceAdd, Nat.reduceEqDiff, Nat.reduceMul] <;> rfl)) (h1 : FrzOk (mkM m) fz := by (simp [FrzOk, mkM, OwS])) (h2 : LentL τ (frzF (mkM m) fz) (mkB m0) m0 := by (simp [LentL, svLes, svLe, isLive, tauL, mkB, mkM, frzF, svLes_ints, svLes_self, isDvs, isDvs_map, isDvs_app, isDvs_take, isDvs_set, isDvs_repl, OwS])) (h3 : (τ.map (·.2)).Nodup := by decide) (h4 : τ.all (fun p => (m0.map (·.1)).contains p.1) = true := by rfl) (h5 : (m0.map (·.1)).Nodup := by (simp))
    (h6 : svLes (tauL τ) (frzF (mkM m) fz) (mkB m0) args ss := by (simp [svLes, svLe, isLive, tauL, mkB, mkM, frzF, svLes_ints, svLes_self, isDvs, isDvs_map, isDvs_app, isDvs_take, isDvs_set, isDvs_repl, OwS])) (h7 : MemOk (mkM m) τ mem rt := by (simp [MemOk, mkM, tauL])) (h8 : (mem.map (·.1)).Nodup := by (simp)) (h9 : rt.Nodup := by decide) (h10 : ∀ t ∈ rt, t ∉ fz := by decide)
    (hv : resG (mkB mem) (rhoG (mkM m) mem rt) res = v := by (simp only [resG, renSV, renSVs, renSVs_dvs isDvs_map, rhoG, genG, stG, mkB, mkM, List.map, reduceIte, Nat.reduceEqDiff, Nat.reduceAdd, Nat.reduceLeDiff] <;> rfl)) (hm : setL (nvL m) (msG (mkM m) fz τ mem rt) = m' := by (simp only [setL, msG, frzMs, drops, puts, renSV, renSVs, renSVs_dvs isDvs_map, rhoG, genG, stG, mkB, mkM, nvL, killV, List.map, List.nil_append, List.cons_append, List.append_nil, Option.map_some, Option.getD_some, reduceIte, Nat.reduceEqDiff, Nat.reduceAdd, Nat.reduceLeDiff] <;> rfl)) (hP : cx.P = P := by assumption) (hn : cx.n = N := by assumption) (hd : d < N := by decide) (hgd : GOk ops ⟨lk l, mkM m⟩ gd := by (first | exact trivial | exact ⟨_, rfl, by (simp only [lk, reduceIte, Nat.reduceEqDiff])⟩)) :
    Chain cx ops (⟨some d, .call { callee := .value (.func f), args := oa, argTypes := ts }, ty, p, af, gd⟩ :: rest) ⟨lk l, mkM m⟩ K := by
  subst hP; subst hn; subst hs
  have hg' : cx.Good → True := fun _ => trivial
  refine ⟨(effG d ⟨lk l, mkM m⟩ fz τ res mem rt).app ⟨lk l, mkM m⟩, gstep_of hgd (.sem fun hg a w h => callG_does hg h rfl (pre := []) (caps := []) (args := args) rfl ⟨h1, h2, h3, fun p hp => ?_, h5, h6, h7, h8, h9, h10⟩ (by simpa using hc) rfl hd), ?_⟩
  · have := List.all_eq_true.1 h4 p hp
    simpa using this
  · have : (effG d ⟨lk l, mkM m⟩ fz τ res mem rt).app ⟨lk l, mkM m⟩ = ⟨lk ((d, v) :: l), mkM m'⟩ := by
      simp only [effG, Eff.app, if_true, noViews_mkM, setM_mkM, upd_lk, hv, hm]
    rw [this]
    exact kk
end
theorem startG {cx : Cx} {c : Code} {K : Exit → St → Prop} {args : List SV} {m0 : List (Nat × Blk)} {l : List (Nat × SV)} {m : List (Nat × Nat × Option Blk)} (k : AWp cx c K ⟨lk l, mkM m⟩) (h1 : zipS 0 args = l := by (simp only [zipS, Nat.reduceAdd] <;> rfl)) (h2 : (m0.map fun p => (p.1, 0, some p.2)) = m := by (simp only [List.map] <;> rfl)) : AWp cx c K ⟨lk (zipS 0 args), mkB m0⟩ := by
  subst h1; subst h2; exact k
theorem xg {P : Program} {rv : List ResultVar} {S : St} {x : Exit} {res ss : List SV} {mem : List (Nat × Blk)} (τ : List (Nat × Nat)) (he : x = .normal ∨ x = .ret := by (first | exact .inr rfl | exact .inl rfl)) (hs : resSV P S rv = some ss := by (simp only [resSV, lk, Option.map_some, reduceIte, Nat.reduceEqDiff] <;> rfl))
    (h1 : svLes (tauL τ) S.M (mkB mem) res ss := by (simp [svLes, svLe, isLive, tauL, mkB, mkM, frzF, svLes_ints, svLes_self, isDvs, isDvs_map, isDvs_app, isDvs_take, isDvs_set, isDvs_repl, OwS])) (h2 : MLe (tauL τ) S (mkB mem) (mem.map fun p => (p.1, 0, some p.2)) := by (simp [MLe, blkLe, svLes, svLe, isLive, tauL, mkB, mkM, frzF, svLes_ints, svLes_self, isDvs, isDvs_map, isDvs_app, isDvs_take, isDvs_set, isDvs_repl, OwS])) (h3 : (τ.map (·.2)).Nodup := by decide) : EndG P rv ⟨res, mkB mem⟩ x S := endG_list τ he hs h1 h2 h3
abbrev lentI (i : Nat) (L : List Int) : Blk := ⟨L.map fun q => .dv (.int .i64 q), 1, 3, 100003 + i, true⟩
end Go.Ab
