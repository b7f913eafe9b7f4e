/- Ab27, Ab28, Ab29, Ab30, Ab31. -/
import Derived.Test.YtjipgkhfbfpacaaDoorAb26
set_option linter.unusedVariables false
namespace Go.Ab
open Go.RowKit
def valOf (us : List Value) : Value := if h : us.toArray.size = 1 then us.toArray[0] else .tuple us.toArray
structure MemU (w : World) (X : Nat → Prop) (Pl : Nat → Prop) (loc : Nat → Option (Nat × Nat)) (M : Nat → Nat × Option Blk) (μ : Nat → Option (Nat × Nat)) : Prop where
  blk : ∀ t g blk, M t = (g, some blk) → BlkRep w M μ X t blk
  place : ∀ t g blk b cap, M t = (g, some blk) → μ t = some (b, cap) → Pl b ∧ b < w.heap.size
  uniq : ∀ t g blk t' g' blk' b cap cap', t ≠ t' → M t = (g, some blk) → M t' = (g', some blk') → OwS blk.st → μ t = some (b, cap) → μ t' = some (b, cap') → blk'.st = 2 ∧ blk'.cells.length ≤ blk.cells.length
  anc : ∀ t g blk, M t = (g, some blk) → 3 ≤ blk.st → μ t = loc (blk.st - 3)
structure Yld where
  res : List SV
  mem : Nat → Nat × Option Blk
theorem results_val {cx : Cx} {S : St} {a : Act} {w : World} {μ : Nat → Option (Nat × Nat)} (h : SimU cx S a w μ) {fn : Func} {ss : List SV} (hr : resSV cx.P S fn.results.toList = some ss) :
    ∃ us, (results fn a.tmps).run cx.P w = .ok (valOf us) w ∧ SVReps w S.M μ (XX cx S.M μ) ss us := by
  obtain ⟨us, h1, h2⟩ := results_run h _ ss hr
  refine ⟨us, ?_, h2⟩
  show (do let vs ← fn.results.mapM (resOne a.tmps); pure (if hh : vs.size = 1 then vs[0] else .tuple vs) : Sem Value).run cx.P w = _
  rw [Array.mapM_eq_mapM_toList]
  simp [h1, valOf]
end Go.Ab
set_option linter.unusedVariables false
namespace Go.Ab
open Go.RowKit
mutual
def renSV (N : Nat → Nat × Option Blk) (ρ : Nat → Option (Nat × Nat)) : SV → SV
  | .sl e g off n => match ρ e with | some (t, gen) => if (N e).1 = g then .sl t gen off n else .dead | none => .dead
  | .pt e g off => match ρ e with | some (t, gen) => if (N e).1 = g then .pt t gen off else .dead | none => .dead
  | .agg cs => .agg (renSVs N ρ cs)
  | .tup cs => .tup (renSVs N ρ cs)
  | .dead => .dead
  | .dv d => .dv d
  | .nils => .nils
  | .emp b => .emp b
def renSVs (N : Nat → Nat × Option Blk) (ρ : Nat → Option (Nat × Nat)) : List SV → List SV
  | [] => []
  | c :: cs => renSV N ρ c :: renSVs N ρ cs
end
theorem renSVs_map (N : Nat → Nat × Option Blk) (ρ : Nat → Option (Nat × Nat)) : ∀ cs : List SV, renSVs N ρ cs = cs.map (renSV N ρ)
  | [] => by simp [renSVs]
  | c :: cs => by simp [renSVs, renSVs_map N ρ cs]
theorem renSVs_dvs {N : Nat → Nat × Option Blk} {ρ : Nat → Option (Nat × Nat)} {cs : List SV} (h : isDvs cs = true) : renSVs N ρ cs = cs := by
  rw [renSVs_map]
  have h2 := isDvs_iff.1 h
  induction cs with
  | nil => rfl
  | cons c cs ih =>
    obtain ⟨d, rfl⟩ := h2 c (by simp)
    rw [List.map_cons, ih (isDvs_iff.2 fun c hc => h2 c (by simp [hc])) (fun c hc => h2 c (by simp [hc]))]
    simp [renSV]
section
variable {w : World} {N M : Nat → Nat × Option Blk} {ν μ : Nat → Option (Nat × Nat)} {X X' : Nat → Prop} {ρ : Nat → Option (Nat × Nat)}
mutual
theorem ren_rep (hρ : ∀ e t gen, ρ e = some (t, gen) → (M t).1 = gen ∧ ∀ b', M t = (gen, some b') → ∃ b, N e = ((N e).1, some b) ∧ b'.esz = b.esz ∧ μ t = ν e) (hX : ∀ b, X' b → X b) :
    ∀ (c : SV) (v : Value), SVRep w N ν X c v → SVRep w M μ X' (renSV N ρ c) v
  | .dead, _, _ => by simp only [renSV, SVRep]
  | .dv d, v, h => by simp only [renSV, SVRep] at h ⊢; exact h.weaken hX
  | .nils, v, h => by simpa only [renSV, SVRep] using h
  | .emp b, v, h => by simpa only [renSV, SVRep] using h
  | .sl e g off n, v, h => by
    simp only [renSV]
    split
    · rename_i t gen he
      split
      · rename_i hg
        simp only [SVRep] at h ⊢
        obtain ⟨h1, h2⟩ := hρ e t gen he
        refine ⟨⟨h.1.1, by omega⟩, fun b' hb' => ?_⟩
        obtain ⟨b, q1, q2, q3⟩ := h2 b' hb'
        rw [hg] at q1
        have := h.2 b q1
        rw [q3, q2]
        exact this
      · simp only [SVRep]
    · simp only [SVRep]
  | .pt e g off, v, h => by
    simp only [renSV]
    split
    · rename_i t gen he
      split
      · rename_i hg
        simp only [SVRep] at h ⊢
        obtain ⟨h1, h2⟩ := hρ e t gen he
        refine ⟨⟨h.1.1, by omega⟩, fun b' hb' => ?_⟩
        obtain ⟨b, q1, q2, q3⟩ := h2 b' hb'
        rw [hg] at q1
        rw [q3]
        exact h.2 b q1
      · simp only [SVRep]
    · simp only [SVRep]
  | .agg cs, v, h => by
    simp only [renSV, SVRep] at h ⊢
    obtain ⟨vs, rfl, hv⟩ := h
    exact ⟨vs, rfl, ren_reps hρ hX cs vs hv⟩
  | .tup cs, v, h => by
    simp only [renSV, SVRep] at h ⊢
    obtain ⟨vs, rfl, hv⟩ := h
    exact ⟨vs, rfl, ren_reps hρ hX cs vs hv⟩
theorem ren_reps (hρ : ∀ e t gen, ρ e = some (t, gen) → (M t).1 = gen ∧ ∀ b', M t = (gen, some b') → ∃ b, N e = ((N e).1, some b) ∧ b'.esz = b.esz ∧ μ t = ν e) (hX : ∀ b, X' b → X b) :
    ∀ (cs : List SV) (vs : List Value), SVReps w N ν X cs vs → SVReps w M μ X' (renSVs N ρ cs) vs
  | [], [], _ => by simp only [renSVs, SVReps]
  | c :: cs, v :: vs, h => by
    simp only [renSVs, SVReps] at h ⊢
    exact ⟨ren_rep hρ hX c v h.1, ren_reps hρ hX cs vs h.2⟩
  | [], _ :: _, h => by simp only [SVReps] at h
  | _ :: _, [], h => by simp only [SVReps] at h
end
end
def LentOk (τ : Nat → Option Nat) (M1 M0 : Nat → Nat × Option Blk) : Prop :=
  (∀ t' g' b', M0 t' = (g', some b') → b'.st = 3 + t' ∧ ∃ t b, τ t' = some t ∧ (M1 t).2 = some b ∧ OwS b.st ∧ b'.esz = b.esz ∧ b'.elem = b.elem ∧ b'.row = b.row ∧ svLes τ M1 M0 b'.cells b.cells) ∧
  (∀ t1 t2 t, τ t1 = some t → τ t2 = some t → t1 = t2) ∧ (∀ t' t, τ t' = some t → ∃ g' b', M0 t' = (g', some b'))
structure BackOk (τ : Nat → Option Nat) (M1 N M2 : Nat → Nat × Option Blk) (σ : Nat → Option Nat) (ρ : Nat → Option (Nat × Nat)) : Prop where
  at_ : ∀ t e, σ t = some e → ∃ b st gen, (N e).2 = some b ∧ M2 t = (gen, some { b with cells := renSVs N ρ b.cells, st := st }) ∧ ρ e = some (t, gen) ∧
    ((3 ≤ b.st ∧ τ (b.st - 3) = some t ∧ ∃ b0, M1 t = (gen, some b0) ∧ b0.st = st ∧ b0.esz = b.esz) ∨ (b.st < 2 ∧ st = b.st ∧ gen = (M1 t).1 + 1))
  off : ∀ t, σ t = none → (M2 t = noViews M1 t ∧ ∀ t', τ t' ≠ some t) ∨ M2 t = ((M1 t).1, none)
  ren : ∀ e t gen, ρ e = some (t, gen) → σ t = some e
section
variable {cx : Cx} {S : St} {a : Act} {w w' : World} {μ ν : Nat → Option (Nat × Nat)} {M1 M0 N M2 : Nat → Nat × Option Blk} {τ σ : Nat → Option Nat} {ρ : Nat → Option (Nat × Nat)}
theorem lent_mem (hg : cx.Good) (h : SimU cx ⟨S.F, M1⟩ a w μ) (hL : LentOk τ M1 M0) :
    MemU w (fun b => Own M0 (relμ τ μ) b ∨ (XX cx M1 μ b ∧ ¬ Own M0 (relμ τ μ) b)) (Own M0 (relμ τ μ)) (relμ τ μ) M0 (relμ τ μ) ∧
    (∀ b, Own M0 (relμ τ μ) b → XX cx M1 μ b ∧ ∃ t g blk cap, M1 t = (g, some blk) ∧ OwS blk.st ∧ μ t = some (b, cap) ∧ ∃ t', τ t' = some t) ∧
    (∀ (args ss : List SV) (vs : List Value), svLes τ M1 M0 args ss → SVReps w M1 μ (XX cx M1 μ) ss vs → SVReps w M0 (relμ τ μ) (fun b => Own M0 (relμ τ μ) b ∨ (XX cx M1 μ b ∧ ¬ Own M0 (relμ τ μ) b)) args vs) := by
  obtain ⟨hL1, hL2, hL3⟩ := hL
  have hW : ∀ b, Own M0 (relμ τ μ) b → XX cx M1 μ b ∧ ∃ t g blk cap, M1 t = (g, some blk) ∧ OwS blk.st ∧ μ t = some (b, cap) ∧ ∃ t', τ t' = some t := by
    rintro b ⟨t', g', b', cap, e1, e2, e3⟩
    obtain ⟨q0, t, b0, q1, q2, q3, _⟩ := hL1 t' g' b' e1
    have hm : μ t = some (b, cap) := by simpa [relμ, q1] using e3
    have hM : M1 t = ((M1 t).1, some b0) := by rw [← q2]
    exact ⟨.inl ⟨t, _, b0, cap, hM, q3, hm⟩, t, _, b0, cap, hM, q3, hm, t', q1⟩
  have hX : ∀ b, (Own M0 (relμ τ μ) b ∨ (XX cx M1 μ b ∧ ¬ Own M0 (relμ τ μ) b)) → XX cx M1 μ b := fun b hb => hb.elim (fun h1 => (hW b h1).1) (fun h1 => h1.1)
  have hrep : ∀ (args ss : List SV) (vs : List Value), svLes τ M1 M0 args ss → SVReps w M1 μ (XX cx M1 μ) ss vs → SVReps w M0 (relμ τ μ) (fun b => Own M0 (relμ τ μ) b ∨ (XX cx M1 μ b ∧ ¬ Own M0 (relμ τ μ) b)) args vs :=
    fun args ss vs h1 h2 => svLes_rep hg h (M' := M0) (fun t' g' b' t e ht => by
      obtain ⟨_, t2, b0, q1, q2, _, q3, _⟩ := hL1 t' g' b' e
      rw [ht] at q1
      obtain rfl : t = t2 := Option.some.inj q1
      exact ⟨b0, q2, q3⟩) hX _ _ _ h1 h2
  refine ⟨⟨fun t' g' b' e => ?_, fun t' g' b' b cap e hm => ?_, fun t1 g1 b1 t2 g2 b2 b c1 c2 hne e1 e2 hst m1 m2 => ?_, fun t' g' b' e h3 => ?_⟩, hW, hrep⟩
  · obtain ⟨q0, t, b0, q1, q2, q3, q4, q5, q6, q7⟩ := hL1 t' g' b' e
    have hm : relμ τ μ t' = μ t := by simp [relμ, q1]
    have hb := h.blk t (M1 t).1 b0 (by show M1 t = _; rw [← q2])
    unfold BlkRep at hb ⊢
    rw [hm]
    cases hmt : μ t with
    | none =>
      rw [hmt] at hb
      have hl := svLes_len q7
      rw [hb.1] at hl
      exact ⟨List.eq_nil_of_length_eq_zero hl, by rw [q6]; exact hb.2⟩
    | some p =>
      obtain ⟨b, cap⟩ := p
      rw [hmt] at hb
      obtain ⟨cur, r1, r2, r3, r4, r5⟩ := hb
      have hl := svLes_len q7
      refine ⟨cur, by rw [q5]; exact r1, by omega, ?_, fun hr => by rw [q4]; exact r4 (by rw [← q6]; exact hr), fun hr => by rw [hl]; exact r5 (by rw [← q6]; exact hr)⟩
      have hall : SVReps w M1 μ (XX cx M1 μ) b0.cells (cur.toList.take b0.cells.length) := SVReps.mk (by simp; omega) fun j c u hj hu => by
        rw [List.getElem?_take] at hu
        split at hu
        · exact r3 j c u hj (by simpa using hu)
        · cases hu
      have h2 := hrep _ _ _ q7 hall
      intro j c u hj hu
      refine h2.get j c u hj ?_
      rw [List.getElem?_take]
      have := (List.getElem?_eq_some_iff.1 hj).1
      rw [if_pos (by omega)]
      simpa using hu
  · obtain ⟨q0, t, b0, q1, q2, q3, _⟩ := hL1 t' g' b' e
    refine ⟨⟨t', g', b', cap, e, by unfold OwS; omega, hm⟩, ?_⟩
    have hmt : μ t = some (b, cap) := by simpa [relμ, q1] using hm
    exact (h.place t (M1 t).1 b0 b cap (by show M1 t = _; rw [← q2]) hmt).2
  · obtain ⟨_, t, b0, q1, q2, q3, _⟩ := hL1 t1 g1 b1 e1
    obtain ⟨_, t', b0', q1', q2', q3', _⟩ := hL1 t2 g2 b2 e2
    have n1 : μ t = some (b, c1) := by simpa [relμ, q1] using m1
    have n2 : μ t' = some (b, c2) := by simpa [relμ, q1'] using m2
    have hne' : t ≠ t' := fun hh => hne (hL2 t1 t2 t q1 (hh ▸ q1'))
    have := (h.uniq t (M1 t).1 b0 t' (M1 t').1 b0' b c1 c2 hne' (by show M1 t = _; rw [← q2]) (by show M1 t' = _; rw [← q2']) q3 n1 n2).1
    unfold OwS at q3'
    omega
  · obtain ⟨q0, _⟩ := hL1 t' g' b' e
    rw [q0]
    congr 1
    omega
theorem back_sim (hg : cx.Good) (h : SimU cx ⟨S.F, M1⟩ a w μ) (hL : LentOk τ M1 M0) (hB : BackOk τ M1 N M2 σ ρ) (hbel : BelowW (Own M0 (relμ τ μ)) w w')
    (hN : MemU w' (fun b => Own N ν b ∨ (XX cx M1 μ b ∧ ¬ Own M0 (relμ τ μ) b)) (fun b => w.heap.size ≤ b ∨ Own M0 (relμ τ μ) b) (relμ τ μ) N ν) :
    ∃ μ2, SimU cx ⟨S.F, M2⟩ a w' μ2 ∧ ∀ c v, SVRep w' N ν (fun b => Own N ν b ∨ (XX cx M1 μ b ∧ ¬ Own M0 (relμ τ μ) b)) c v → SVRep w' M2 μ2 (XX cx M2 μ2) (renSV N ρ c) v := by
  obtain ⟨_, hW, _⟩ := lent_mem hg h hL
  obtain ⟨hL1, hL2, hL3⟩ := hL
  let μ2 : Nat → Option (Nat × Nat) := fun t => match σ t with | some e => ν e | none => μ t
  have mu_at : ∀ {t e}, σ t = some e → μ2 t = ν e := fun {t e} hs => by simp only [μ2, hs]
  have mu_off : ∀ {t}, σ t = none → μ2 t = μ t := fun {t} hs => by simp only [μ2, hs]
  have Nat_ : ∀ {e b}, (N e).2 = some b → N e = ((N e).1, some b) := fun {e b} hh => by rw [← hh]
  -- what is left of the caller's own tags
  have rest : ∀ t g blk, σ t = none → M2 t = (g, some blk) → M1 t = (g, some blk) ∧ blk.st ≠ 2 ∧ (∀ t', τ t' ≠ some t) := by
    intro t g blk hs e
    rcases hB.off t hs with ⟨h1, h2⟩ | h1
    · rw [h1] at e
      unfold noViews at e
      split at e
      · rename_i b'' hb''
        split at e
        · cases e
        · rename_i hne
          refine ⟨e, ?_, h2⟩
          rw [e] at hb''
          simp only [Option.some.injEq] at hb''
          rw [hb'']; exact hne
      · rename_i hn
        rw [e] at hn; cases hn
    · rw [h1] at e; simp at e
  have restW : ∀ t g blk b cap, σ t = none → M2 t = (g, some blk) → μ t = some (b, cap) → ¬ Own M0 (relμ τ μ) b := by
    intro t g blk b cap hs e hm hw
    obtain ⟨h1, h2, h3⟩ := rest t g blk hs e
    obtain ⟨_, t0, g0, b0, c0, f1, f2, f3, t', f4⟩ := hW b hw
    have hne : t0 ≠ t := fun hh => h3 t' (hh ▸ f4)
    exact h2 (h.uniq t0 g0 b0 t g blk b c0 cap hne f1 h1 f2 f3 hm).1
  have hX0 : ∀ b, cx.X0 b → ¬ Own M0 (relμ τ μ) b := by
    intro b hx hw
    obtain ⟨_, t0, g0, b0, c0, f1, f2, f3, _⟩ := hW b hw
    have := (h.place t0 g0 b0 b c0 f1 f3).1
    have h0 := hg.1 b hx
    rcases this with h1 | h1
    · omega
    · exact h0.2 h1
  -- what is owned behind the call
  have own : ∀ b, Own M2 μ2 b → Own N ν b ∨ (Own M1 μ b ∧ ¬ Own M0 (relμ τ μ) b) := by
    rintro b ⟨t, g, blk, cap, e1, e2, e3⟩
    cases hs : σ t with
    | some e =>
      obtain ⟨be, st, gen, q1, q2, q3, q4⟩ := hB.at_ t e hs
      rw [mu_at hs] at e3
      rw [q2] at e1
      simp only [Prod.mk.injEq, Option.some.injEq] at e1
      obtain ⟨_, rfl⟩ := e1
      refine .inl ⟨e, (N e).1, be, cap, Nat_ q1, ?_, e3⟩
      rcases q4 with ⟨h3, _⟩ | ⟨h3, h4, _⟩
      · exact .inr h3
      · simp only at e2; rw [h4] at e2; exact e2
    | none =>
      obtain ⟨h1, _⟩ := rest t g blk hs e1
      rw [mu_off hs] at e3
      exact .inr ⟨⟨t, g, blk, cap, h1, e2, e3⟩, restW t g blk b cap hs e1 e3⟩
  have hXX : ∀ b, XX cx M2 μ2 b → Own N ν b ∨ (XX cx M1 μ b ∧ ¬ Own M0 (relμ τ μ) b) := by
    rintro b (h1 | h1)
    · rcases own b h1 with h2 | ⟨h2, h3⟩
      · exact .inl h2
      · exact .inr ⟨.inl h2, h3⟩
    · exact .inr ⟨.inr h1, hX0 b h1⟩
  have hs : w.heap.size ≤ w'.heap.size := hbel.size
  have hk : ∀ b, b < w.heap.size → ¬ XX cx M1 μ b → w'.heap[b]? = w.heap[b]? ∧ ¬ XX cx M2 μ2 b := by
    intro b hb hx
    have hnw : ¬ Own M0 (relμ τ μ) b := fun hw => hx (hW b hw).1
    refine ⟨hbel.block b hb hnw, fun hx2 => ?_⟩
    rcases hXX b hx2 with ⟨e, g, blk, cap, f1, f2, f3⟩ | ⟨h2, _⟩
    · rcases (hN.place e g blk b cap f1 f3).1 with h3 | h3
      · omega
      · exact hnw h3
    · exact hx h2
  have gen_le : ∀ t, (M1 t).1 ≤ (M2 t).1 := by
    intro t
    cases hs : σ t with
    | some e =>
      obtain ⟨be, st, gen, q1, q2, q3, q4⟩ := hB.at_ t e hs
      rw [q2]
      rcases q4 with ⟨_, _, b0, h4, _⟩ | ⟨_, _, h4⟩
      · rw [h4]; exact Nat.le_refl _
      · rw [h4]; exact Nat.le_succ _
    | none =>
      rcases hB.off t hs with ⟨h1, _⟩ | h1
      · rw [h1]
        unfold noViews
        split
        · split <;> exact Nat.le_refl _
        · exact Nat.le_refl _
      · rw [h1]; exact Nat.le_refl _
  have hBm : ∀ t g blk', M2 t = (g, some blk') → g ≤ (M1 t).1 → ∃ blk, M1 t = (g, some blk) ∧ μ2 t = μ t ∧ blk'.esz = blk.esz := by
    intro t g blk' e hle
    cases hs : σ t with
    | some e' =>
      obtain ⟨be, st, gen, q1, q2, q3, q4⟩ := hB.at_ t e' hs
      rw [q2] at e
      simp only [Prod.mk.injEq, Option.some.injEq] at e
      obtain ⟨rfl, rfl⟩ := e
      rcases q4 with ⟨h3, h5, b0, h4, h6, h7⟩ | ⟨_, _, h4⟩
      · refine ⟨b0, h4, ?_, h7.symm⟩
        rw [mu_at hs, hN.anc e' _ be (Nat_ q1) h3]
        simp [relμ, h5]
      · omega
    | none =>
      obtain ⟨h1, _⟩ := rest t g blk' hs e
      exact ⟨blk', h1, mu_off hs, rfl⟩
  have hρ : ∀ e t gen, ρ e = some (t, gen) → (M2 t).1 = gen ∧ ∀ b', M2 t = (gen, some b') → ∃ b, N e = ((N e).1, some b) ∧ b'.esz = b.esz ∧ μ2 t = ν e := by
    intro e t gen he
    have hs := hB.ren e t gen he
    obtain ⟨be, st, gen', q1, q2, q3, q4⟩ := hB.at_ t e hs
    rw [he] at q3
    simp only [Option.some.injEq, Prod.mk.injEq, true_and] at q3
    subst q3
    refine ⟨by rw [q2], fun b' hb' => ⟨be, Nat_ q1, ?_, mu_at hs⟩⟩
    rw [q2] at hb'
    simp only [Prod.mk.injEq, Option.some.injEq, true_and] at hb'
    rw [← hb']
  have hren := ren_rep (w := w') (N := N) (M := M2) (ν := ν) (μ := μ2) (X := fun b => Own N ν b ∨ (XX cx M1 μ b ∧ ¬ Own M0 (relμ τ μ) b)) (X' := XX cx M2 μ2) hρ hXX
  refine ⟨μ2, ⟨fun t g blk e => ?_, fun i => SVRep.mono hs hk gen_le hBm _ _ (h.slot i), fun t g blk b cap e hm => ?_, fun t1 g1 b1 t2 g2 b2 b c1 c2 hne e1 e2 s1 m1 m2 => ?_, fun t g blk e h3 => ?_, ?_, h.size, h.defers⟩, hren⟩
  · change M2 t = _ at e
    show BlkRep w' M2 μ2 (XX cx M2 μ2) t blk
    cases hσ : σ t with
    | some e' =>
      obtain ⟨be, st, gen, q1, q2, q3, q4⟩ := hB.at_ t e' hσ
      rw [q2] at e
      simp only [Prod.mk.injEq, Option.some.injEq] at e
      obtain ⟨_, rfl⟩ := e
      have hb := hN.blk e' _ be (Nat_ q1)
      unfold BlkRep at hb ⊢
      rw [mu_at hσ]
      cases hm : ν e' with
      | none =>
        rw [hm] at hb
        exact ⟨by rw [hb.1]; simp [renSVs], hb.2⟩
      | some p =>
        obtain ⟨b, cap⟩ := p
        rw [hm] at hb
        obtain ⟨cur, r1, r2, r3, r4, r5⟩ := hb
        have hlen : (renSVs N ρ be.cells).length = be.cells.length := by rw [renSVs_map]; simp
        refine ⟨cur, r1, by simp only [hlen]; exact r2, fun j c u hc hu => ?_, r4, fun hr => by simp only [hlen]; exact r5 hr⟩
        simp only [renSVs_map, List.getElem?_map, Option.map_eq_some_iff] at hc
        obtain ⟨c0, hc0, rfl⟩ := hc
        exact hren c0 u (r3 j c0 u hc0 hu)
    | none =>
      obtain ⟨h1, h2, h3⟩ := rest t g blk hσ e
      have hb := h.blk t g blk h1
      refine BlkRep.mono (st := blk.st) hs hk gen_le hBm (mu_off hσ) (fun b cap hm => hbel.block b ?_ (restW t g blk b cap hσ e hm)) hb
      exact (h.place t g blk b cap h1 hm).2
  · change M2 t = _ at e
    cases hσ : σ t with
    | some e' =>
      obtain ⟨be, st, gen, q1, q2, q3, q4⟩ := hB.at_ t e' hσ
      have hm' : ν e' = some (b, cap) := (mu_at hσ).symm.trans hm
      obtain ⟨p1, p2⟩ := hN.place e' _ be b cap (Nat_ q1) hm'
      refine ⟨?_, p2⟩
      rcases p1 with p1 | p1
      · exact .inl (Nat.le_trans h.below.size p1)
      · obtain ⟨_, t0, g0, b0, c0, f1, f2, f3, _⟩ := hW b p1
        exact (h.place t0 g0 b0 b c0 f1 f3).1
    | none =>
      obtain ⟨h1, _⟩ := rest t g blk hσ e
      have := h.place t g blk b cap h1 ((mu_off hσ).symm.trans hm)
      exact ⟨this.1, Nat.lt_of_lt_of_le this.2 hs⟩
  · change M2 t1 = _ at e1
    change M2 t2 = _ at e2
    exfalso
    have bad : ∀ t g blk e' c c', σ t = none → M2 t = (g, some blk) → μ2 t = some (b, c) → ∀ be, (N e').2 = some be → ν e' = some (b, c') → False := by
      intro t g blk e' c c' hσ e hm be q1 hm'
      rcases (hN.place e' _ be b c' (Nat_ q1) hm').1 with h3 | h3
      · have := (h.place t g blk b c (rest t g blk hσ e).1 ((mu_off hσ).symm.trans hm)).2
        omega
      · exact restW t g blk b c hσ e ((mu_off hσ).symm.trans hm) h3
    cases h1 : σ t1 with
    | some x1 =>
      obtain ⟨be1, st1, gen1, q1, q2, q3, q4⟩ := hB.at_ t1 x1 h1
      have n1 : ν x1 = some (b, c1) := (mu_at h1).symm.trans m1
      have o1 : OwS be1.st := by
        rw [q2] at e1
        simp only [Prod.mk.injEq, Option.some.injEq] at e1
        obtain ⟨_, rfl⟩ := e1
        rcases q4 with ⟨h3, _⟩ | ⟨h3, h4, _⟩
        · exact .inr h3
        · simp only at s1; rw [h4] at s1; exact s1
      cases h2 : σ t2 with
      | some x2 =>
        obtain ⟨be2, st2, gen2, p1, p2, p3, p4⟩ := hB.at_ t2 x2 h2
        have n2 : ν x2 = some (b, c2) := (mu_at h2).symm.trans m2
        have hx : x1 ≠ x2 := fun hh => by
          subst hh
          rw [q3] at p3
          simp only [Option.some.injEq, Prod.mk.injEq] at p3
          exact hne p3.1
        have := (hN.uniq x1 _ be1 x2 _ be2 b c1 c2 hx (Nat_ q1) (Nat_ p1) o1 n1 n2).1
        rcases p4 with ⟨h3, _⟩ | ⟨h3, _⟩ <;> omega
      | none => exact bad t2 g2 b2 x1 c2 c1 h2 e2 m2 be1 q1 n1
    | none =>
      cases h2 : σ t2 with
      | some x2 =>
        obtain ⟨be2, st2, gen2, p1, p2, p3, p4⟩ := hB.at_ t2 x2 h2
        exact bad t1 g1 b1 x2 c1 c2 h1 e1 m1 be2 p1 ((mu_at h2).symm.trans m2)
      | none =>
        have := (h.uniq t1 g1 b1 t2 g2 b2 b c1 c2 hne (rest t1 g1 b1 h1 e1).1 (rest t2 g2 b2 h2 e2).1 s1 ((mu_off h1).symm.trans m1) ((mu_off h2).symm.trans m2)).1
        exact (rest t2 g2 b2 h2 e2).2.1 this
  · change M2 t = _ at e
    cases hσ : σ t with
    | some e' =>
      obtain ⟨be, st, gen, q1, q2, q3, q4⟩ := hB.at_ t e' hσ
      rw [q2] at e
      simp only [Prod.mk.injEq, Option.some.injEq] at e
      obtain ⟨rfl, rfl⟩ := e
      simp only at h3 ⊢
      rcases q4 with ⟨p3, p5, b0, p4, p6, p7⟩ | ⟨p3, p4, _⟩
      · rw [mu_at hσ, hN.anc e' _ be (Nat_ q1) p3]
        have := h.anc t gen b0 p4 (by omega)
        simp only [relμ, p5]
        rw [this, p6]
      · omega
    | none =>
      obtain ⟨h1, _⟩ := rest t g blk hσ e
      rw [mu_off hσ]
      exact h.anc t g blk h1 h3
  · refine h.below.then hbel fun i hi hw hib => ?_
    obtain ⟨_, t0, g0, b0, c0, f1, f2, f3, _⟩ := hW i hib
    rcases (h.place t0 g0 b0 i c0 f1 f3).1 with h1 | h1
    · omega
    · exact hw h1
end
end Go.Ab
set_option linter.unusedVariables false
namespace Go.Ab
open Go.RowKit
def mkB (l : List (Nat × Blk)) : Nat → Nat × Option Blk := mkM (l.map fun p => (p.1, 0, some p.2))
def frzF (M : Nat → Nat × Option Blk) (ts : List Nat) : Nat → Nat × Option Blk := fun t => if t ∈ ts then ((M t).1, (M t).2.map fun b => { b with st := 1 }) else M t
def frzMs (M : Nat → Nat × Option Blk) (ts : List Nat) : List (Nat × Nat × Option Blk) := ts.map fun t => (t, (M t).1, (M t).2.map fun b => { b with st := 1 })
def drops (M : Nat → Nat × Option Blk) (τ : List (Nat × Nat)) : List (Nat × Nat × Option Blk) := τ.map fun p => (p.2, (M p.2).1, none)
def genG (M : Nat → Nat × Option Blk) (b : Blk) (t : Nat) : Nat := if 3 ≤ b.st then (M t).1 else (M t).1 + 1
def stG (M : Nat → Nat × Option Blk) (b : Blk) (t : Nat) : Nat := if 3 ≤ b.st then ((M t).2.map (·.st)).getD 0 else b.st
def rhoG (M : Nat → Nat × Option Blk) : List (Nat × Blk) → List Nat → Nat → Option (Nat × Nat)
  | (e, b) :: mem, t :: ts, i => if i = e then some (t, genG M b t) else rhoG M mem ts i
  | _, _, _ => none
def sigG : List (Nat × Blk) → List Nat → Nat → Option Nat
  | (e, _) :: mem, t :: ts, i => if i = t then some e else sigG mem ts i
  | _, _, _ => none
def puts (M N : Nat → Nat × Option Blk) (ρ : Nat → Option (Nat × Nat)) : List (Nat × Blk) → List Nat → List (Nat × Nat × Option Blk)
  | (_, b) :: mem, t :: ts => puts M N ρ mem ts ++ [(t, genG M b t, some { b with cells := renSVs N ρ b.cells, st := stG M b t })]
  | _, _ => []
def msG (M : Nat → Nat × Option Blk) (fz : List Nat) (τ : List (Nat × Nat)) (mem : List (Nat × Blk)) (rt : List Nat) : List (Nat × Nat × Option Blk) :=
  frzMs M fz ++ drops M τ ++ puts M (mkB mem) (rhoG M mem rt) mem rt
def MemOk (M : Nat → Nat × Option Blk) (τ : List (Nat × Nat)) : List (Nat × Blk) → List Nat → Prop
  | (_, b) :: mem, t :: ts => ((3 ≤ b.st ∧ tauL τ (b.st - 3) = some t ∧ ∃ b0, (M t).2 = some b0 ∧ b0.esz = b.esz) ∨ b.st < 2) ∧ MemOk M τ mem ts
  | [], [] => True
  | _, _ => False
def LentL (τ : List (Nat × Nat)) (M1 M0 : Nat → Nat × Option Blk) : List (Nat × Blk) → Prop
  | [] => True
  | (t', b') :: m0 => (b'.st = 3 + t' ∧ ∃ t b, tauL τ t' = some t ∧ (M1 t).2 = some b ∧ OwS b.st ∧ b'.esz = b.esz ∧ b'.elem = b.elem ∧ b'.row = b.row ∧ svLes (tauL τ) M1 M0 b'.cells b.cells) ∧ LentL τ M1 M0 m0
def FrzOk (M : Nat → Nat × Option Blk) : List Nat → Prop
  | [] => True
  | t :: ts => (∃ b, (M t).2 = some b ∧ (OwS b.st ∨ b.st = 1)) ∧ FrzOk M ts
theorem mkB_mem : ∀ {l : List (Nat × Blk)} {t g : Nat} {b : Blk}, mkB l t = (g, some b) → g = 0 ∧ (t, b) ∈ l
  | [], t, g, b, h => by simp [mkB, mkM] at h
  | (k, v) :: l, t, g, b, h => by
    simp only [mkB, List.map_cons, mkM] at h
    split at h
    · rename_i e
      subst e
      simp only [Prod.mk.injEq, Option.some.injEq] at h
      obtain ⟨rfl, rfl⟩ := h
      exact ⟨rfl, by simp⟩
    · obtain ⟨h1, h2⟩ := mkB_mem (l := l) h
      exact ⟨h1, List.mem_cons_of_mem _ h2⟩
theorem mkB_at : ∀ {l : List (Nat × Blk)}, (l.map (·.1)).Nodup → ∀ {t : Nat} {b : Blk}, (t, b) ∈ l → mkB l t = (0, some b)
  | [], _, t, b, h => by cases h
  | (k, v) :: l, hn, t, b, h => by
    simp only [List.map_cons, List.nodup_cons] at hn
    simp only [mkB, List.map_cons, mkM]
    rcases List.mem_cons.1 h with h1 | h1
    · simp only [Prod.mk.injEq] at h1
      obtain ⟨rfl, rfl⟩ := h1
      simp
    · have : t ≠ k := fun e => hn.1 (e ▸ List.mem_map.2 ⟨_, h1, rfl⟩)
      rw [if_neg this]
      exact mkB_at hn.2 h1
theorem setM_app : ∀ (l l' : List (Nat × Nat × Option Blk)) (M : Nat → Nat × Option Blk), setM M (l ++ l') = setM (setM M l) l'
  | [], _, _ => rfl
  | (t, e) :: l, l', M => setM_app l l' _
theorem setM_miss : ∀ (l : List (Nat × Nat × Option Blk)) (M : Nat → Nat × Option Blk) (t : Nat), (∀ p ∈ l, p.1 ≠ t) → setM M l t = M t
  | [], _, _, _ => rfl
  | (k, e) :: l, M, t, h => by
    rw [setM, setM_miss l _ t fun p hp => h p (List.mem_cons_of_mem _ hp), upd_ne _ _ _ _ (Ne.symm (h (k, e) (by simp)))]
theorem setM_same {f : Nat → Nat × Option Blk} : ∀ (l : List (Nat × Nat × Option Blk)) (M : Nat → Nat × Option Blk) (t : Nat), (∀ p ∈ l, p.2 = f p.1) → (∃ p ∈ l, p.1 = t) → setM M l t = f t
  | [], _, _, _, h => by obtain ⟨p, hp, _⟩ := h; cases hp
  | (k, e) :: l, M, t, hf, h => by
    by_cases h2 : ∃ p ∈ l, p.1 = t
    · exact setM_same l _ t (fun p hp => hf p (List.mem_cons_of_mem _ hp)) h2
    · rw [setM, setM_miss l _ t fun p hp e => h2 ⟨p, hp, e⟩]
      obtain ⟨p, hp, hpt⟩ := h
      rcases List.mem_cons.1 hp with rfl | hp
      · simp only at hpt
        subst hpt
        rw [upd_same]
        exact hf (_, e) (by simp)
      · exact absurd ⟨p, hp, hpt⟩ h2
section
variable {M : Nat → Nat × Option Blk} {fz : List Nat} {τ : List (Nat × Nat)}
theorem sig_rho : ∀ {mem : List (Nat × Blk)} {rt : List Nat}, MemOk M τ mem rt → (mem.map (·.1)).Nodup → rt.Nodup → ∀ {t e : Nat}, sigG mem rt t = some e ↔ ∃ b, (e, b) ∈ mem ∧ rhoG M mem rt e = some (t, genG M b t)
  | [], [], _, _, _, t, e => by simp [sigG, rhoG]
  | [], _ :: _, h, _, _, _, _ => by simp only [MemOk] at h
  | _ :: _, [], h, _, _, _, _ => by simp only [MemOk] at h
  | (k, v) :: mem, s :: rt, h, hn, hr, t, e => by
    simp only [MemOk] at h
    simp only [List.map_cons, List.nodup_cons] at hn hr
    have ih := sig_rho h.2 hn.2 hr.2 (t := t) (e := e)
    have isrt : ∀ {mem : List (Nat × Blk)} {rt : List Nat} {i t g : Nat}, rhoG M mem rt i = some (t, g) → t ∈ rt := by
      intro mem
      induction mem with
      | nil => intro rt i t g h; simp [rhoG] at h
      | cons p mem ih =>
        obtain ⟨k, v⟩ := p
        intro rt i t g h
        cases rt with
        | nil => simp [rhoG] at h
        | cons s rt =>
          simp only [rhoG] at h
          split at h
          · simp only [Option.some.injEq, Prod.mk.injEq] at h; rw [← h.1]; simp
          · exact List.mem_cons_of_mem _ (ih h)
    have ismem : ∀ {mem : List (Nat × Blk)} {rt : List Nat} {t e : Nat}, sigG mem rt t = some e → e ∈ mem.map (·.1) ∧ t ∈ rt := by
      intro mem
      induction mem with
      | nil => intro rt t e h; simp [sigG] at h
      | cons p mem ih =>
        obtain ⟨k, v⟩ := p
        intro rt t e h
        cases rt with
        | nil => simp [sigG] at h
        | cons s rt =>
          simp only [sigG] at h
          split at h
          · rename_i h1; simp only [Option.some.injEq] at h; subst h; subst h1; simp
          · obtain ⟨a, b⟩ := ih h; exact ⟨List.mem_cons_of_mem _ a, List.mem_cons_of_mem _ b⟩
    simp only [sigG, rhoG]
    by_cases h1 : t = s
    · subst h1
      rw [if_pos rfl]
      constructor
      · intro h2
        simp only [Option.some.injEq] at h2
        subst h2
        exact ⟨v, by simp, by rw [if_pos rfl]⟩
      · rintro ⟨b, hb, hb2⟩
        split at hb2
        · rename_i h3; rw [h3]
        · exact absurd (isrt hb2) hr.1
    · rw [if_neg h1, ih]
      constructor
      · rintro ⟨b, hb, hb2⟩
        have : e ≠ k := fun hh => hn.1 (hh ▸ List.mem_map.2 ⟨_, hb, rfl⟩)
        exact ⟨b, List.mem_cons_of_mem _ hb, by rw [if_neg this]; exact hb2⟩
      · rintro ⟨b, hb, hb2⟩
        split at hb2
        · simp only [Option.some.injEq, Prod.mk.injEq] at hb2; exact absurd hb2.1.symm h1
        · rename_i h3
          refine ⟨b, ?_, hb2⟩
          rcases List.mem_cons.1 hb with h4 | h4
          · simp only [Prod.mk.injEq] at h4; exact absurd h4.1 h3
          · exact h4
theorem rho_sig : ∀ {mem : List (Nat × Blk)} {rt : List Nat}, (mem.map (·.1)).Nodup → rt.Nodup → ∀ {t e g : Nat}, rhoG M mem rt e = some (t, g) → ∃ b, (e, b) ∈ mem ∧ g = genG M b t ∧ t ∈ rt
  | [], _, _, _, t, e, g, h => by simp [rhoG] at h
  | _ :: _, [], _, _, t, e, g, h => by simp [rhoG] at h
  | (k, v) :: mem, s :: rt, hn, hr, t, e, g, h => by
    simp only [List.map_cons, List.nodup_cons] at hn hr
    simp only [rhoG] at h
    split at h
    · rename_i h1
      subst h1
      simp only [Option.some.injEq, Prod.mk.injEq] at h
      exact ⟨v, by simp, by rw [← h.2, h.1], by rw [← h.1]; simp⟩
    · obtain ⟨b, h1, h2, h3⟩ := rho_sig hn.2 hr.2 h
      exact ⟨b, List.mem_cons_of_mem _ h1, h2, List.mem_cons_of_mem _ h3⟩
theorem puts_at {N : Nat → Nat × Option Blk} {ρ : Nat → Option (Nat × Nat)} : ∀ {mem : List (Nat × Blk)} {rt : List Nat}, MemOk M τ mem rt → rt.Nodup → ∀ (M0 : Nat → Nat × Option Blk) (t : Nat),
    (∀ e, sigG mem rt t = some e → ∃ b, (e, b) ∈ mem ∧ setM M0 (puts M N ρ mem rt) t = (genG M b t, some { b with cells := renSVs N ρ b.cells, st := stG M b t }) ∧ ((3 ≤ b.st ∧ tauL τ (b.st - 3) = some t ∧ ∃ b0, (M t).2 = some b0 ∧ b0.esz = b.esz) ∨ b.st < 2)) ∧
    (sigG mem rt t = none → setM M0 (puts M N ρ mem rt) t = M0 t)
  | [], [], _, _, M0, t => by simp [sigG, puts, setM]
  | [], _ :: _, h, _, _, _ => by simp only [MemOk] at h
  | _ :: _, [], h, _, _, _ => by simp only [MemOk] at h
  | (k, v) :: mem, s :: rt, h, hr, M0, t => by
    simp only [MemOk] at h
    simp only [List.nodup_cons] at hr
    obtain ⟨i1, i2⟩ := puts_at (N := N) (ρ := ρ) h.2 hr.2 M0 t
    simp only [puts, setM_app, setM, sigG]
    by_cases h1 : t = s
    · subst h1
      rw [upd_same, if_pos rfl]
      refine ⟨fun e he => ?_, fun he => by cases he⟩
      simp only [Option.some.injEq] at he
      subst he
      exact ⟨v, by simp, rfl, h.1⟩
    · rw [upd_ne _ _ _ _ h1, if_neg h1]
      refine ⟨fun e he => ?_, i2⟩
      obtain ⟨b, b1, b2, b3⟩ := i1 e he
      exact ⟨b, List.mem_cons_of_mem _ b1, b2, b3⟩
theorem backOk_list {mem : List (Nat × Blk)} {rt : List Nat} (hm : MemOk M τ mem rt) (hn : (mem.map (·.1)).Nodup) (hr : rt.Nodup) (hfz : ∀ t ∈ rt, t ∉ fz) :
    BackOk (tauL τ) (frzF M fz) (mkB mem) (setM (noViews M) (msG M fz τ mem rt)) (sigG mem rt) (rhoG M mem rt) := by
  have hf : ∀ t ∈ rt, frzF M fz t = M t := fun t ht => by simp [frzF, hfz t ht]
  have hfg : ∀ t, (frzF M fz t).1 = (M t).1 := fun t => by unfold frzF; split <;> rfl
  refine ⟨fun t e hs => ?_, fun t hs => ?_, fun e t gen he => ?_⟩
  · obtain ⟨b, b1, b2, b3⟩ := (puts_at (N := mkB mem) (ρ := rhoG M mem rt) hm hr (setM (setM (noViews M) (frzMs M fz)) (drops M τ)) t).1 e hs
    obtain ⟨b', c1, c2⟩ := (sig_rho hm hn hr).1 hs
    have hbb : b' = b := by
      have q1 := mkB_at hn b1
      have q2 := mkB_at hn c1
      rw [q1] at q2
      simp only [Prod.mk.injEq, Option.some.injEq, true_and] at q2
      exact q2.symm
    subst hbb
    obtain ⟨_, _, _, htr⟩ := rho_sig hn hr c2
    refine ⟨b', stG M b' t, genG M b' t, by rw [mkB_at hn b1], ?_, c2, ?_⟩
    · rw [msG, setM_app, setM_app]; exact b2
    · rcases b3 with ⟨h3, h4, b0, h5, h6⟩ | h3
      · refine .inl ⟨h3, h4, b0, ?_, ?_, h6⟩
        · rw [hf t htr, genG, if_pos h3, ← h5]
        · simp [stG, h3, h5]
      · refine .inr ⟨h3, by simp [stG, show ¬ 3 ≤ b'.st by omega], by rw [hfg, genG, if_neg (by omega)]⟩
  · have h1 := (puts_at (N := mkB mem) (ρ := rhoG M mem rt) hm hr (setM (setM (noViews M) (frzMs M fz)) (drops M τ)) t).2 hs
    have e : setM (noViews M) (msG M fz τ mem rt) t = setM (setM (noViews M) (frzMs M fz)) (drops M τ) t := by rw [msG, setM_app, setM_app]; exact h1
    by_cases h2 : ∃ p ∈ drops M τ, p.1 = t
    · refine .inr ?_
      rw [e, setM_same (f := fun t => ((M t).1, none)) _ _ t (fun p hp => ?_) h2, hfg]
      simp only [drops, List.mem_map] at hp
      obtain ⟨q, _, rfl⟩ := hp
      rfl
    · refine .inl ⟨?_, fun t' ht' => h2 ⟨_, List.mem_map.2 ⟨_, tauL_mem ht', rfl⟩, rfl⟩⟩
      rw [e, setM_miss _ _ t fun p hp hpt => h2 ⟨p, hp, hpt⟩]
      by_cases h3 : t ∈ fz
      · have hin : ∃ p ∈ frzMs M fz, p.1 = t := ⟨_, by unfold frzMs; exact List.mem_map.2 ⟨t, h3, rfl⟩, rfl⟩
        rw [setM_same (f := fun t => ((M t).1, (M t).2.map fun b => { b with st := 1 })) _ _ t (fun p hp => ?_) hin]
        · simp only [noViews, frzF, h3, if_true]
          cases (M t).2 <;> simp
        · simp only [frzMs, List.mem_map] at hp
          obtain ⟨q, _, rfl⟩ := hp
          rfl
      · rw [setM_miss _ _ t fun p hp hpt => ?_]
        · exact noViews_get (by simp [frzF, h3])
        · simp only [frzMs, List.mem_map] at hp
          obtain ⟨q, hq, rfl⟩ := hp
          exact h3 (hpt ▸ hq)
  · obtain ⟨b, b1, b2, _⟩ := rho_sig hn hr he
    refine (sig_rho hm hn hr).2 ⟨b, b1, ?_⟩
    rw [he, b2]
theorem lentOk_list {m0 : List (Nat × Blk)} {M1 : Nat → Nat × Option Blk} (h : LentL τ M1 (mkB m0) m0) (hτ : (τ.map (·.2)).Nodup) (hk : ∀ p ∈ τ, p.1 ∈ m0.map (·.1)) (hn : (m0.map (·.1)).Nodup) : LentOk (tauL τ) M1 (mkB m0) := by
  refine ⟨fun t' g' b' e => ?_, tauL_inj hτ, fun t' t ht => ?_⟩
  · have hm := (mkB_mem e).2
    have : ∀ l : List (Nat × Blk), LentL τ M1 (mkB m0) l → (t', b') ∈ l → b'.st = 3 + t' ∧ ∃ t b, tauL τ t' = some t ∧ (M1 t).2 = some b ∧ OwS b.st ∧ b'.esz = b.esz ∧ b'.elem = b.elem ∧ b'.row = b.row ∧ svLes (tauL τ) M1 (mkB m0) b'.cells b.cells := by
      intro l
      induction l with
      | nil => intro _ h; cases h
      | cons p l ih =>
        obtain ⟨k, v⟩ := p
        intro h hm
        rcases List.mem_cons.1 hm with h1 | h1
        · simp only [Prod.mk.injEq] at h1
          obtain ⟨rfl, rfl⟩ := h1
          exact h.1
        · exact ih h.2 h1
    exact this m0 h hm
  · obtain ⟨p, hp, hpt⟩ := List.mem_map.1 (hk _ (tauL_mem ht))
    obtain ⟨k, b⟩ := p
    simp only at hpt
    subst hpt
    exact ⟨0, b, mkB_at hn hp⟩
end
section
variable {cx : Cx} {S : St} {a : Act} {w : World} {o : Oper} {fz : List Nat} {τ : List (Nat × Nat)} {m0 mem : List (Nat × Blk)} {rt : List Nat} {args : List SV} {res : List SV}
structure GOkay (S : St) (fz : List Nat) (τ : List (Nat × Nat)) (m0 mem : List (Nat × Blk)) (rt : List Nat) (args ss : List SV) : Prop where
  hfz : FrzOk S.M fz
  lent : LentL τ (frzF S.M fz) (mkB m0) m0
  inj : (τ.map (·.2)).Nodup
  keys : ∀ p ∈ τ, p.1 ∈ m0.map (·.1)
  nd0 : (m0.map (·.1)).Nodup
  hargs : svLes (tauL τ) (frzF S.M fz) (mkB m0) args ss
  hmem : MemOk S.M τ mem rt
  nd1 : (mem.map (·.1)).Nodup
  nd2 : rt.Nodup
  off : ∀ t ∈ rt, t ∉ fz
end
end Go.Ab
set_option linter.unusedVariables false
namespace Go.Ab
open Go.RowKit
def setL (L : List (Nat × Nat × Option Blk)) : List (Nat × Nat × Option Blk) → List (Nat × Nat × Option Blk)
  | [] => L
  | p :: r => setL (p :: L) r
theorem setM_mkM : ∀ (ms L : List (Nat × Nat × Option Blk)), setM (mkM L) ms = mkM (setL L ms)
  | [], L => rfl
  | (t, e) :: r, L => by rw [setM, upd_mkM, setM_mkM r, setL]
section
variable {cx : Cx} {P : Program} {N : Nat} {ops : Array Oper} {rest : List Oper} {l : List (Nat × SV)} {m m' : List (Nat × Nat × Option Blk)} {K : St → Prop} {KD : List It → St → Prop} {its : List It}
  {d f : Nat} {ty : TypeId} {p : String} {af : Array Edge} {gd : Option (Nat × Bool)} {oa : Array Operand} {ts : Array TypeId} {args res ss : List SV} {m0 mem : List (Nat × Blk)}
end
end Go.Ab
set_option linter.unusedVariables false
namespace Go.Ab
open Go.RowKit
section
variable {cx : Cx} {S : St} {a : Act} {w : World} {o : Oper}
end
section
variable {cx : Cx} {P : Program} {N : Nat} {ops : Array Oper} {rest : List Oper} {l : List (Nat × SV)} {m m' : List (Nat × Nat × Option Blk)} {K : St → Prop}
  {ty : TypeId} {p : String} {af : Array Edge} {gd : Option (Nat × Bool)} {x : Operand} {t e : TypeId} {tg g off n st : Nat} {k : IntKind} {L : List Int}
end
end Go.Ab
