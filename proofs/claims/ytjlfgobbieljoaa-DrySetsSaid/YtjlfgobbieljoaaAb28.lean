/- The abstract layer, part 28: calls that write what they are lent: the caller's side. -/
import Derived.Test.YtjlfgobbieljoaaAb27
set_option linter.unusedVariables false
namespace Go.Ab
open Go.RowKit

mutual
/-- A slot value under other tags. -/
def renSV (N : Nat → Nat × Option Blk) (ρ : Nat → Option (Nat × Nat)) : SV → SV
  | .sl e g off n => match ρ e with | some (t, gen) => if (N e).1 = g then .sl t gen off n else .dead | none => .dead
  | .pt e g off => match ρ e with | some (t, gen) => if (N e).1 = g then .pt t gen off else .dead | none => .dead
  | .agg cs => .agg (renSVs N ρ cs)
  | .tup cs => .tup (renSVs N ρ cs)
  | .dead => .dead
  | .dv d => .dv d
  | .nils => .nils
  | .emp b => .emp b
def renSVs (N : Nat → Nat × Option Blk) (ρ : Nat → Option (Nat × Nat)) : List SV → List SV
  | [] => []
  | c :: cs => renSV N ρ c :: renSVs N ρ cs
end

theorem renSVs_map (N : Nat → Nat × Option Blk) (ρ : Nat → Option (Nat × Nat)) : ∀ cs : List SV, renSVs N ρ cs = cs.map (renSV N ρ)
  | [] => by simp [renSVs]
  | c :: cs => by simp [renSVs, renSVs_map N ρ cs]
theorem renSVs_dvs {N : Nat → Nat × Option Blk} {ρ : Nat → Option (Nat × Nat)} {cs : List SV} (h : isDvs cs = true) : renSVs N ρ cs = cs := by
  rw [renSVs_map]
  have h2 := isDvs_iff.1 h
  induction cs with
  | nil => rfl
  | cons c cs ih =>
    obtain ⟨d, rfl⟩ := h2 c (by simp)
    rw [List.map_cons, ih (isDvs_iff.2 fun c hc => h2 c (by simp [hc])) (fun c hc => h2 c (by simp [hc]))]
    simp [renSV]

section
variable {w : World} {N M : Nat → Nat × Option Blk} {ν μ : Nat → Option (Nat × Nat)} {X X' : Nat → Prop} {ρ : Nat → Option (Nat × Nat)}

mutual
theorem ren_rep (hρ : ∀ e t gen, ρ e = some (t, gen) → (M t).1 = gen ∧ ∀ b', M t = (gen, some b') → ∃ b, N e = ((N e).1, some b) ∧ b'.esz = b.esz ∧ μ t = ν e) (hX : ∀ b, X' b → X b) :
    ∀ (c : SV) (v : Value), SVRep w N ν X c v → SVRep w M μ X' (renSV N ρ c) v
  | .dead, _, _ => by simp only [renSV, SVRep]
  | .dv d, v, h => by simp only [renSV, SVRep] at h ⊢; exact h.weaken hX
  | .nils, v, h => by simpa only [renSV, SVRep] using h
  | .emp b, v, h => by simpa only [renSV, SVRep] using h
  | .sl e g off n, v, h => by
    simp only [renSV]
    split
    · rename_i t gen he
      split
      · rename_i hg
        simp only [SVRep] at h ⊢
        obtain ⟨h1, h2⟩ := hρ e t gen he
        refine ⟨⟨h.1.1, by omega⟩, fun b' hb' => ?_⟩
        obtain ⟨b, q1, q2, q3⟩ := h2 b' hb'
        rw [hg] at q1
        have := h.2 b q1
        rw [q3, q2]
        exact this
      · simp only [SVRep]
    · simp only [SVRep]
  | .pt e g off, v, h => by
    simp only [renSV]
    split
    · rename_i t gen he
      split
      · rename_i hg
        simp only [SVRep] at h ⊢
        obtain ⟨h1, h2⟩ := hρ e t gen he
        refine ⟨⟨h.1.1, by omega⟩, fun b' hb' => ?_⟩
        obtain ⟨b, q1, q2, q3⟩ := h2 b' hb'
        rw [hg] at q1
        rw [q3]
        exact h.2 b q1
      · simp only [SVRep]
    · simp only [SVRep]
  | .agg cs, v, h => by
    simp only [renSV, SVRep] at h ⊢
    obtain ⟨vs, rfl, hv⟩ := h
    exact ⟨vs, rfl, ren_reps hρ hX cs vs hv⟩
  | .tup cs, v, h => by
    simp only [renSV, SVRep] at h ⊢
    obtain ⟨vs, rfl, hv⟩ := h
    exact ⟨vs, rfl, ren_reps hρ hX cs vs hv⟩
theorem ren_reps (hρ : ∀ e t gen, ρ e = some (t, gen) → (M t).1 = gen ∧ ∀ b', M t = (gen, some b') → ∃ b, N e = ((N e).1, some b) ∧ b'.esz = b.esz ∧ μ t = ν e) (hX : ∀ b, X' b → X b) :
    ∀ (cs : List SV) (vs : List Value), SVReps w N ν X cs vs → SVReps w M μ X' (renSVs N ρ cs) vs
  | [], [], _ => by simp only [renSVs, SVReps]
  | c :: cs, v :: vs, h => by
    simp only [renSVs, SVReps] at h ⊢
    exact ⟨ren_rep hρ hX c v h.1, ren_reps hρ hX cs vs h.2⟩
  | [], _ :: _, h => by simp only [SVReps] at h
  | _ :: _, [], h => by simp only [SVReps] at h
end
end

/-- The lent blocks as the callee is told of them. -/
def LentOk (τ : Nat → Option Nat) (M1 M0 : Nat → Nat × Option Blk) : Prop :=
  (∀ t' g' b', M0 t' = (g', some b') → b'.st = 3 + t' ∧ ∃ t b, τ t' = some t ∧ (M1 t).2 = some b ∧ OwS b.st ∧ b'.esz = b.esz ∧ b'.elem = b.elem ∧ b'.row = b.row ∧ svLes τ M1 M0 b'.cells b.cells) ∧
  (∀ t1 t2 t, τ t1 = some t → τ t2 = some t → t1 = t2) ∧ (∀ t' t, τ t' = some t → ∃ g' b', M0 t' = (g', some b'))

/-- The memory behind the call: what the callee told of, under the caller's tags; what was lent and is not told of is forgotten. -/
structure BackOk (τ : Nat → Option Nat) (M1 N M2 : Nat → Nat × Option Blk) (σ : Nat → Option Nat) (ρ : Nat → Option (Nat × Nat)) : Prop where
  at_ : ∀ t e, σ t = some e → ∃ b st gen, (N e).2 = some b ∧ M2 t = (gen, some { b with cells := renSVs N ρ b.cells, st := st }) ∧ ρ e = some (t, gen) ∧
    ((3 ≤ b.st ∧ τ (b.st - 3) = some t ∧ ∃ b0, M1 t = (gen, some b0) ∧ b0.st = st ∧ b0.esz = b.esz) ∨ (b.st < 2 ∧ st = b.st ∧ gen = (M1 t).1 + 1))
  off : ∀ t, σ t = none → (M2 t = noViews M1 t ∧ ∀ t', τ t' ≠ some t) ∨ M2 t = ((M1 t).1, none)
  ren : ∀ e t gen, ρ e = some (t, gen) → σ t = some e

section
variable {cx : Cx} {S : St} {a : Act} {w w' : World} {μ ν : Nat → Option (Nat × Nat)} {M1 M0 N M2 : Nat → Nat × Option Blk} {τ σ : Nat → Option Nat} {ρ : Nat → Option (Nat × Nat)}

/-- The callee's view of what it is lent. -/
theorem lent_mem (hg : cx.Good) (h : SimU cx ⟨S.F, M1⟩ a w μ) (hL : LentOk τ M1 M0) :
    MemU w (fun b => Own M0 (relμ τ μ) b ∨ (XX cx M1 μ b ∧ ¬ Own M0 (relμ τ μ) b)) (Own M0 (relμ τ μ)) (relμ τ μ) M0 (relμ τ μ) ∧
    (∀ b, Own M0 (relμ τ μ) b → XX cx M1 μ b ∧ ∃ t g blk cap, M1 t = (g, some blk) ∧ OwS blk.st ∧ μ t = some (b, cap) ∧ ∃ t', τ t' = some t) ∧
    (∀ (args ss : List SV) (vs : List Value), svLes τ M1 M0 args ss → SVReps w M1 μ (XX cx M1 μ) ss vs → SVReps w M0 (relμ τ μ) (fun b => Own M0 (relμ τ μ) b ∨ (XX cx M1 μ b ∧ ¬ Own M0 (relμ τ μ) b)) args vs) := by
  obtain ⟨hL1, hL2, hL3⟩ := hL
  have hW : ∀ b, Own M0 (relμ τ μ) b → XX cx M1 μ b ∧ ∃ t g blk cap, M1 t = (g, some blk) ∧ OwS blk.st ∧ μ t = some (b, cap) ∧ ∃ t', τ t' = some t := by
    rintro b ⟨t', g', b', cap, e1, e2, e3⟩
    obtain ⟨q0, t, b0, q1, q2, q3, _⟩ := hL1 t' g' b' e1
    have hm : μ t = some (b, cap) := by simpa [relμ, q1] using e3
    have hM : M1 t = ((M1 t).1, some b0) := by rw [← q2]
    exact ⟨.inl ⟨t, _, b0, cap, hM, q3, hm⟩, t, _, b0, cap, hM, q3, hm, t', q1⟩
  have hX : ∀ b, (Own M0 (relμ τ μ) b ∨ (XX cx M1 μ b ∧ ¬ Own M0 (relμ τ μ) b)) → XX cx M1 μ b := fun b hb => hb.elim (fun h1 => (hW b h1).1) (fun h1 => h1.1)
  have hrep : ∀ (args ss : List SV) (vs : List Value), svLes τ M1 M0 args ss → SVReps w M1 μ (XX cx M1 μ) ss vs → SVReps w M0 (relμ τ μ) (fun b => Own M0 (relμ τ μ) b ∨ (XX cx M1 μ b ∧ ¬ Own M0 (relμ τ μ) b)) args vs :=
    fun args ss vs h1 h2 => svLes_rep hg h (M' := M0) (fun t' g' b' t e ht => by
      obtain ⟨_, t2, b0, q1, q2, _, q3, _⟩ := hL1 t' g' b' e
      rw [ht] at q1
      obtain rfl : t = t2 := Option.some.inj q1
      exact ⟨b0, q2, q3⟩) hX _ _ _ h1 h2
  refine ⟨⟨fun t' g' b' e => ?_, fun t' g' b' b cap e hm => ?_, fun t1 g1 b1 t2 g2 b2 b c1 c2 hne e1 e2 hst m1 m2 => ?_, fun t' g' b' e h3 => ?_⟩, hW, hrep⟩
  · obtain ⟨q0, t, b0, q1, q2, q3, q4, q5, q6, q7⟩ := hL1 t' g' b' e
    have hm : relμ τ μ t' = μ t := by simp [relμ, q1]
    have hb := h.blk t (M1 t).1 b0 (by show M1 t = _; rw [← q2])
    unfold BlkRep at hb ⊢
    rw [hm]
    cases hmt : μ t with
    | none =>
      rw [hmt] at hb
      have hl := svLes_len q7
      rw [hb.1] at hl
      exact ⟨List.eq_nil_of_length_eq_zero hl, by rw [q6]; exact hb.2⟩
    | some p =>
      obtain ⟨b, cap⟩ := p
      rw [hmt] at hb
      obtain ⟨cur, r1, r2, r3, r4, r5⟩ := hb
      have hl := svLes_len q7
      refine ⟨cur, by rw [q5]; exact r1, by omega, ?_, fun hr => by rw [q4]; exact r4 (by rw [← q6]; exact hr), fun hr => by rw [hl]; exact r5 (by rw [← q6]; exact hr)⟩
      have hall : SVReps w M1 μ (XX cx M1 μ) b0.cells (cur.toList.take b0.cells.length) := SVReps.mk (by simp; omega) fun j c u hj hu => by
        rw [List.getElem?_take] at hu
        split at hu
        · exact r3 j c u hj (by simpa using hu)
        · cases hu
      have h2 := hrep _ _ _ q7 hall
      intro j c u hj hu
      refine h2.get j c u hj ?_
      rw [List.getElem?_take]
      have := (List.getElem?_eq_some_iff.1 hj).1
      rw [if_pos (by omega)]
      simpa using hu
  · obtain ⟨q0, t, b0, q1, q2, q3, _⟩ := hL1 t' g' b' e
    refine ⟨⟨t', g', b', cap, e, by unfold OwS; omega, hm⟩, ?_⟩
    have hmt : μ t = some (b, cap) := by simpa [relμ, q1] using hm
    exact (h.place t (M1 t).1 b0 b cap (by show M1 t = _; rw [← q2]) hmt).2
  · obtain ⟨_, t, b0, q1, q2, q3, _⟩ := hL1 t1 g1 b1 e1
    obtain ⟨_, t', b0', q1', q2', q3', _⟩ := hL1 t2 g2 b2 e2
    have n1 : μ t = some (b, c1) := by simpa [relμ, q1] using m1
    have n2 : μ t' = some (b, c2) := by simpa [relμ, q1'] using m2
    have hne' : t ≠ t' := fun hh => hne (hL2 t1 t2 t q1 (hh ▸ q1'))
    have := (h.uniq t (M1 t).1 b0 t' (M1 t').1 b0' b c1 c2 hne' (by show M1 t = _; rw [← q2]) (by show M1 t' = _; rw [← q2']) q3 n1 n2).1
    unfold OwS at q3'
    omega
  · obtain ⟨q0, _⟩ := hL1 t' g' b' e
    rw [q0]
    congr 1
    omega

/-- Behind the call. -/
theorem back_sim (hg : cx.Good) (h : SimU cx ⟨S.F, M1⟩ a w μ) (hL : LentOk τ M1 M0) (hB : BackOk τ M1 N M2 σ ρ) (hbel : BelowW (Own M0 (relμ τ μ)) w w')
    (hN : MemU w' (fun b => Own N ν b ∨ (XX cx M1 μ b ∧ ¬ Own M0 (relμ τ μ) b)) (fun b => w.heap.size ≤ b ∨ Own M0 (relμ τ μ) b) (relμ τ μ) N ν) :
    ∃ μ2, SimU cx ⟨S.F, M2⟩ a w' μ2 ∧ ∀ c v, SVRep w' N ν (fun b => Own N ν b ∨ (XX cx M1 μ b ∧ ¬ Own M0 (relμ τ μ) b)) c v → SVRep w' M2 μ2 (XX cx M2 μ2) (renSV N ρ c) v := by
  obtain ⟨_, hW, _⟩ := lent_mem hg h hL
  obtain ⟨hL1, hL2, hL3⟩ := hL
  let μ2 : Nat → Option (Nat × Nat) := fun t => match σ t with | some e => ν e | none => μ t
  have mu_at : ∀ {t e}, σ t = some e → μ2 t = ν e := fun {t e} hs => by simp only [μ2, hs]
  have mu_off : ∀ {t}, σ t = none → μ2 t = μ t := fun {t} hs => by simp only [μ2, hs]
  have Nat_ : ∀ {e b}, (N e).2 = some b → N e = ((N e).1, some b) := fun {e b} hh => by rw [← hh]
  -- what is left of the caller's own tags
  have rest : ∀ t g blk, σ t = none → M2 t = (g, some blk) → M1 t = (g, some blk) ∧ blk.st ≠ 2 ∧ (∀ t', τ t' ≠ some t) := by
    intro t g blk hs e
    rcases hB.off t hs with ⟨h1, h2⟩ | h1
    · rw [h1] at e
      unfold noViews at e
      split at e
      · rename_i b'' hb''
        split at e
        · cases e
        · rename_i hne
          refine ⟨e, ?_, h2⟩
          rw [e] at hb''
          simp only [Option.some.injEq] at hb''
          rw [hb'']; exact hne
      · rename_i hn
        rw [e] at hn; cases hn
    · rw [h1] at e; simp at e
  have restW : ∀ t g blk b cap, σ t = none → M2 t = (g, some blk) → μ t = some (b, cap) → ¬ Own M0 (relμ τ μ) b := by
    intro t g blk b cap hs e hm hw
    obtain ⟨h1, h2, h3⟩ := rest t g blk hs e
    obtain ⟨_, t0, g0, b0, c0, f1, f2, f3, t', f4⟩ := hW b hw
    have hne : t0 ≠ t := fun hh => h3 t' (hh ▸ f4)
    exact h2 (h.uniq t0 g0 b0 t g blk b c0 cap hne f1 h1 f2 f3 hm).1
  have hX0 : ∀ b, cx.X0 b → ¬ Own M0 (relμ τ μ) b := by
    intro b hx hw
    obtain ⟨_, t0, g0, b0, c0, f1, f2, f3, _⟩ := hW b hw
    have := (h.place t0 g0 b0 b c0 f1 f3).1
    have h0 := hg b hx
    rcases this with h1 | h1
    · omega
    · exact h0.2 h1
  -- what is owned behind the call
  have own : ∀ b, Own M2 μ2 b → Own N ν b ∨ (Own M1 μ b ∧ ¬ Own M0 (relμ τ μ) b) := by
    rintro b ⟨t, g, blk, cap, e1, e2, e3⟩
    cases hs : σ t with
    | some e =>
      obtain ⟨be, st, gen, q1, q2, q3, q4⟩ := hB.at_ t e hs
      rw [mu_at hs] at e3
      rw [q2] at e1
      simp only [Prod.mk.injEq, Option.some.injEq] at e1
      obtain ⟨_, rfl⟩ := e1
      refine .inl ⟨e, (N e).1, be, cap, Nat_ q1, ?_, e3⟩
      rcases q4 with ⟨h3, _⟩ | ⟨h3, h4, _⟩
      · exact .inr h3
      · simp only at e2; rw [h4] at e2; exact e2
    | none =>
      obtain ⟨h1, _⟩ := rest t g blk hs e1
      rw [mu_off hs] at e3
      exact .inr ⟨⟨t, g, blk, cap, h1, e2, e3⟩, restW t g blk b cap hs e1 e3⟩
  have hXX : ∀ b, XX cx M2 μ2 b → Own N ν b ∨ (XX cx M1 μ b ∧ ¬ Own M0 (relμ τ μ) b) := by
    rintro b (h1 | h1)
    · rcases own b h1 with h2 | ⟨h2, h3⟩
      · exact .inl h2
      · exact .inr ⟨.inl h2, h3⟩
    · exact .inr ⟨.inr h1, hX0 b h1⟩
  have hs : w.heap.size ≤ w'.heap.size := hbel.size
  have hk : ∀ b, b < w.heap.size → ¬ XX cx M1 μ b → w'.heap[b]? = w.heap[b]? ∧ ¬ XX cx M2 μ2 b := by
    intro b hb hx
    have hnw : ¬ Own M0 (relμ τ μ) b := fun hw => hx (hW b hw).1
    refine ⟨hbel.block b hb hnw, fun hx2 => ?_⟩
    rcases hXX b hx2 with ⟨e, g, blk, cap, f1, f2, f3⟩ | ⟨h2, _⟩
    · rcases (hN.place e g blk b cap f1 f3).1 with h3 | h3
      · omega
      · exact hnw h3
    · exact hx h2
  have gen_le : ∀ t, (M1 t).1 ≤ (M2 t).1 := by
    intro t
    cases hs : σ t with
    | some e =>
      obtain ⟨be, st, gen, q1, q2, q3, q4⟩ := hB.at_ t e hs
      rw [q2]
      rcases q4 with ⟨_, _, b0, h4, _⟩ | ⟨_, _, h4⟩
      · rw [h4]; exact Nat.le_refl _
      · rw [h4]; exact Nat.le_succ _
    | none =>
      rcases hB.off t hs with ⟨h1, _⟩ | h1
      · rw [h1]
        unfold noViews
        split
        · split <;> exact Nat.le_refl _
        · exact Nat.le_refl _
      · rw [h1]; exact Nat.le_refl _
  have hBm : ∀ t g blk', M2 t = (g, some blk') → g ≤ (M1 t).1 → ∃ blk, M1 t = (g, some blk) ∧ μ2 t = μ t ∧ blk'.esz = blk.esz := by
    intro t g blk' e hle
    cases hs : σ t with
    | some e' =>
      obtain ⟨be, st, gen, q1, q2, q3, q4⟩ := hB.at_ t e' hs
      rw [q2] at e
      simp only [Prod.mk.injEq, Option.some.injEq] at e
      obtain ⟨rfl, rfl⟩ := e
      rcases q4 with ⟨h3, h5, b0, h4, h6, h7⟩ | ⟨_, _, h4⟩
      · refine ⟨b0, h4, ?_, h7.symm⟩
        rw [mu_at hs, hN.anc e' _ be (Nat_ q1) h3]
        simp [relμ, h5]
      · omega
    | none =>
      obtain ⟨h1, _⟩ := rest t g blk' hs e
      exact ⟨blk', h1, mu_off hs, rfl⟩
  have hρ : ∀ e t gen, ρ e = some (t, gen) → (M2 t).1 = gen ∧ ∀ b', M2 t = (gen, some b') → ∃ b, N e = ((N e).1, some b) ∧ b'.esz = b.esz ∧ μ2 t = ν e := by
    intro e t gen he
    have hs := hB.ren e t gen he
    obtain ⟨be, st, gen', q1, q2, q3, q4⟩ := hB.at_ t e hs
    rw [he] at q3
    simp only [Option.some.injEq, Prod.mk.injEq, true_and] at q3
    subst q3
    refine ⟨by rw [q2], fun b' hb' => ⟨be, Nat_ q1, ?_, mu_at hs⟩⟩
    rw [q2] at hb'
    simp only [Prod.mk.injEq, Option.some.injEq, true_and] at hb'
    rw [← hb']
  have hren := ren_rep (w := w') (N := N) (M := M2) (ν := ν) (μ := μ2) (X := fun b => Own N ν b ∨ (XX cx M1 μ b ∧ ¬ Own M0 (relμ τ μ) b)) (X' := XX cx M2 μ2) hρ hXX
  refine ⟨μ2, ⟨fun t g blk e => ?_, fun i => SVRep.mono hs hk gen_le hBm _ _ (h.slot i), fun t g blk b cap e hm => ?_, fun t1 g1 b1 t2 g2 b2 b c1 c2 hne e1 e2 s1 m1 m2 => ?_, fun t g blk e h3 => ?_, ?_, h.size, h.defers⟩, hren⟩
  · change M2 t = _ at e
    show BlkRep w' M2 μ2 (XX cx M2 μ2) t blk
    cases hσ : σ t with
    | some e' =>
      obtain ⟨be, st, gen, q1, q2, q3, q4⟩ := hB.at_ t e' hσ
      rw [q2] at e
      simp only [Prod.mk.injEq, Option.some.injEq] at e
      obtain ⟨_, rfl⟩ := e
      have hb := hN.blk e' _ be (Nat_ q1)
      unfold BlkRep at hb ⊢
      rw [mu_at hσ]
      cases hm : ν e' with
      | none =>
        rw [hm] at hb
        exact ⟨by rw [hb.1]; simp [renSVs], hb.2⟩
      | some p =>
        obtain ⟨b, cap⟩ := p
        rw [hm] at hb
        obtain ⟨cur, r1, r2, r3, r4, r5⟩ := hb
        have hlen : (renSVs N ρ be.cells).length = be.cells.length := by rw [renSVs_map]; simp
        refine ⟨cur, r1, by simp only [hlen]; exact r2, fun j c u hc hu => ?_, r4, fun hr => by simp only [hlen]; exact r5 hr⟩
        simp only [renSVs_map, List.getElem?_map, Option.map_eq_some_iff] at hc
        obtain ⟨c0, hc0, rfl⟩ := hc
        exact hren c0 u (r3 j c0 u hc0 hu)
    | none =>
      obtain ⟨h1, h2, h3⟩ := rest t g blk hσ e
      have hb := h.blk t g blk h1
      refine BlkRep.mono (st := blk.st) hs hk gen_le hBm (mu_off hσ) (fun b cap hm => hbel.block b ?_ (restW t g blk b cap hσ e hm)) hb
      exact (h.place t g blk b cap h1 hm).2
  · change M2 t = _ at e
    cases hσ : σ t with
    | some e' =>
      obtain ⟨be, st, gen, q1, q2, q3, q4⟩ := hB.at_ t e' hσ
      have hm' : ν e' = some (b, cap) := (mu_at hσ).symm.trans hm
      obtain ⟨p1, p2⟩ := hN.place e' _ be b cap (Nat_ q1) hm'
      refine ⟨?_, p2⟩
      rcases p1 with p1 | p1
      · exact .inl (Nat.le_trans h.below.size p1)
      · obtain ⟨_, t0, g0, b0, c0, f1, f2, f3, _⟩ := hW b p1
        exact (h.place t0 g0 b0 b c0 f1 f3).1
    | none =>
      obtain ⟨h1, _⟩ := rest t g blk hσ e
      have := h.place t g blk b cap h1 ((mu_off hσ).symm.trans hm)
      exact ⟨this.1, Nat.lt_of_lt_of_le this.2 hs⟩
  · change M2 t1 = _ at e1
    change M2 t2 = _ at e2
    exfalso
    have bad : ∀ t g blk e' c c', σ t = none → M2 t = (g, some blk) → μ2 t = some (b, c) → ∀ be, (N e').2 = some be → ν e' = some (b, c') → False := by
      intro t g blk e' c c' hσ e hm be q1 hm'
      rcases (hN.place e' _ be b c' (Nat_ q1) hm').1 with h3 | h3
      · have := (h.place t g blk b c (rest t g blk hσ e).1 ((mu_off hσ).symm.trans hm)).2
        omega
      · exact restW t g blk b c hσ e ((mu_off hσ).symm.trans hm) h3
    cases h1 : σ t1 with
    | some x1 =>
      obtain ⟨be1, st1, gen1, q1, q2, q3, q4⟩ := hB.at_ t1 x1 h1
      have n1 : ν x1 = some (b, c1) := (mu_at h1).symm.trans m1
      have o1 : OwS be1.st := by
        rw [q2] at e1
        simp only [Prod.mk.injEq, Option.some.injEq] at e1
        obtain ⟨_, rfl⟩ := e1
        rcases q4 with ⟨h3, _⟩ | ⟨h3, h4, _⟩
        · exact .inr h3
        · simp only at s1; rw [h4] at s1; exact s1
      cases h2 : σ t2 with
      | some x2 =>
        obtain ⟨be2, st2, gen2, p1, p2, p3, p4⟩ := hB.at_ t2 x2 h2
        have n2 : ν x2 = some (b, c2) := (mu_at h2).symm.trans m2
        have hx : x1 ≠ x2 := fun hh => by
          subst hh
          rw [q3] at p3
          simp only [Option.some.injEq, Prod.mk.injEq] at p3
          exact hne p3.1
        have := (hN.uniq x1 _ be1 x2 _ be2 b c1 c2 hx (Nat_ q1) (Nat_ p1) o1 n1 n2).1
        rcases p4 with ⟨h3, _⟩ | ⟨h3, _⟩ <;> omega
      | none => exact bad t2 g2 b2 x1 c2 c1 h2 e2 m2 be1 q1 n1
    | none =>
      cases h2 : σ t2 with
      | some x2 =>
        obtain ⟨be2, st2, gen2, p1, p2, p3, p4⟩ := hB.at_ t2 x2 h2
        exact bad t1 g1 b1 x2 c1 c2 h1 e1 m1 be2 p1 ((mu_at h2).symm.trans m2)
      | none =>
        have := (h.uniq t1 g1 b1 t2 g2 b2 b c1 c2 hne (rest t1 g1 b1 h1 e1).1 (rest t2 g2 b2 h2 e2).1 s1 ((mu_off h1).symm.trans m1) ((mu_off h2).symm.trans m2)).1
        exact (rest t2 g2 b2 h2 e2).2.1 this
  · change M2 t = _ at e
    cases hσ : σ t with
    | some e' =>
      obtain ⟨be, st, gen, q1, q2, q3, q4⟩ := hB.at_ t e' hσ
      rw [q2] at e
      simp only [Prod.mk.injEq, Option.some.injEq] at e
      obtain ⟨rfl, rfl⟩ := e
      simp only at h3 ⊢
      rcases q4 with ⟨p3, p5, b0, p4, p6, p7⟩ | ⟨p3, p4, _⟩
      · rw [mu_at hσ, hN.anc e' _ be (Nat_ q1) p3]
        have := h.anc t gen b0 p4 (by omega)
        simp only [relμ, p5]
        rw [this, p6]
      · omega
    | none =>
      obtain ⟨h1, _⟩ := rest t g blk hσ e
      rw [mu_off hσ]
      exact h.anc t g blk h1 h3
  · refine h.below.then hbel fun i hi hw hib => ?_
    obtain ⟨_, t0, g0, b0, c0, f1, f2, f3, _⟩ := hW i hib
    rcases (h.place t0 g0 b0 i c0 f1 f3).1 with h1 | h1
    · omega
    · exact hw h1
end
end Go.Ab
