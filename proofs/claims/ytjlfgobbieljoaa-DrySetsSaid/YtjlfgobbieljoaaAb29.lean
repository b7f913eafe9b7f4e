/- The abstract layer, part 29: the moves of calls that write what they are lent. -/
import Derived.Test.YtjlfgobbieljoaaAb28
set_option linter.unusedVariables false
namespace Go.Ab
open Go.RowKit

def mkB (l : List (Nat × Blk)) : Nat → Nat × Option Blk := mkM (l.map fun p => (p.1, 0, some p.2))
/-- The slot value that a call's results are, under other tags. -/
def resG (N : Nat → Nat × Option Blk) (ρ : Nat → Option (Nat × Nat)) (res : List SV) : SV :=
  match res with
  | [r] => renSV N ρ r
  | rs => .tup (renSVs N ρ rs)
/-- What is frozen ahead of the call. -/
def frzF (M : Nat → Nat × Option Blk) (ts : List Nat) : Nat → Nat × Option Blk := fun t => if t ∈ ts then ((M t).1, (M t).2.map fun b => { b with st := 1 }) else M t
def frzMs (M : Nat → Nat × Option Blk) (ts : List Nat) : List (Nat × Nat × Option Blk) := ts.map fun t => (t, (M t).1, (M t).2.map fun b => { b with st := 1 })
def drops (M : Nat → Nat × Option Blk) (τ : List (Nat × Nat)) : List (Nat × Nat × Option Blk) := τ.map fun p => (p.2, (M p.2).1, none)
def genG (M : Nat → Nat × Option Blk) (b : Blk) (t : Nat) : Nat := if 3 ≤ b.st then (M t).1 else (M t).1 + 1
def stG (M : Nat → Nat × Option Blk) (b : Blk) (t : Nat) : Nat := if 3 ≤ b.st then ((M t).2.map (·.st)).getD 0 else b.st
def rhoG (M : Nat → Nat × Option Blk) : List (Nat × Blk) → List Nat → Nat → Option (Nat × Nat)
  | (e, b) :: mem, t :: ts, i => if i = e then some (t, genG M b t) else rhoG M mem ts i
  | _, _, _ => none
def sigG : List (Nat × Blk) → List Nat → Nat → Option Nat
  | (e, _) :: mem, t :: ts, i => if i = t then some e else sigG mem ts i
  | _, _, _ => none
def puts (M N : Nat → Nat × Option Blk) (ρ : Nat → Option (Nat × Nat)) : List (Nat × Blk) → List Nat → List (Nat × Nat × Option Blk)
  | (_, b) :: mem, t :: ts => puts M N ρ mem ts ++ [(t, genG M b t, some { b with cells := renSVs N ρ b.cells, st := stG M b t })]
  | _, _ => []
/-- The caller's memory behind the call, as changes. -/
def msG (M : Nat → Nat × Option Blk) (fz : List Nat) (τ : List (Nat × Nat)) (mem : List (Nat × Blk)) (rt : List Nat) : List (Nat × Nat × Option Blk) :=
  frzMs M fz ++ drops M τ ++ puts M (mkB mem) (rhoG M mem rt) mem rt
def effG (d : Nat) (S : St) (fz : List Nat) (τ : List (Nat × Nat)) (res : List SV) (mem : List (Nat × Blk)) (rt : List Nat) : Eff :=
  ⟨some d, resG (mkB mem) (rhoG S.M mem rt) res, true, msG S.M fz τ mem rt⟩

/-- What is asked of each block that comes back. -/
def MemOk (M : Nat → Nat × Option Blk) (τ : List (Nat × Nat)) : List (Nat × Blk) → List Nat → Prop
  | (_, b) :: mem, t :: ts => ((3 ≤ b.st ∧ tauL τ (b.st - 3) = some t ∧ ∃ b0, (M t).2 = some b0 ∧ b0.esz = b.esz) ∨ b.st < 2) ∧ MemOk M τ mem ts
  | [], [] => True
  | _, _ => False
/-- What is asked of each block that is lent. -/
def LentL (τ : List (Nat × Nat)) (M1 M0 : Nat → Nat × Option Blk) : List (Nat × Blk) → Prop
  | [] => True
  | (t', b') :: m0 => (b'.st = 3 + t' ∧ ∃ t b, tauL τ t' = some t ∧ (M1 t).2 = some b ∧ OwS b.st ∧ b'.esz = b.esz ∧ b'.elem = b.elem ∧ b'.row = b.row ∧ svLes (tauL τ) M1 M0 b'.cells b.cells) ∧ LentL τ M1 M0 m0
def FrzOk (M : Nat → Nat × Option Blk) : List Nat → Prop
  | [] => True
  | t :: ts => (∃ b, (M t).2 = some b ∧ (OwS b.st ∨ b.st = 1)) ∧ FrzOk M ts

theorem mkB_mem : ∀ {l : List (Nat × Blk)} {t g : Nat} {b : Blk}, mkB l t = (g, some b) → g = 0 ∧ (t, b) ∈ l
  | [], t, g, b, h => by simp [mkB, mkM] at h
  | (k, v) :: l, t, g, b, h => by
    simp only [mkB, List.map_cons, mkM] at h
    split at h
    · rename_i e
      subst e
      simp only [Prod.mk.injEq, Option.some.injEq] at h
      obtain ⟨rfl, rfl⟩ := h
      exact ⟨rfl, by simp⟩
    · obtain ⟨h1, h2⟩ := mkB_mem (l := l) h
      exact ⟨h1, List.mem_cons_of_mem _ h2⟩
theorem mkB_at : ∀ {l : List (Nat × Blk)}, (l.map (·.1)).Nodup → ∀ {t : Nat} {b : Blk}, (t, b) ∈ l → mkB l t = (0, some b)
  | [], _, t, b, h => by cases h
  | (k, v) :: l, hn, t, b, h => by
    simp only [List.map_cons, List.nodup_cons] at hn
    simp only [mkB, List.map_cons, mkM]
    rcases List.mem_cons.1 h with h1 | h1
    · simp only [Prod.mk.injEq] at h1
      obtain ⟨rfl, rfl⟩ := h1
      simp
    · have : t ≠ k := fun e => hn.1 (e ▸ List.mem_map.2 ⟨_, h1, rfl⟩)
      rw [if_neg this]
      exact mkB_at hn.2 h1

theorem frz_fold : ∀ (ts : List Nat) (M : Nat → Nat × Option Blk), FrzOk M ts → ∃ M', frz M ts = some M' ∧ M' = frzF M ts
  | [], M, _ => ⟨M, rfl, by funext t; simp [frzF]⟩
  | t :: ts, M, h => by
    obtain ⟨⟨b, h1, h2⟩, h3⟩ := h
    have hM : M t = ((M t).1, some b) := by rw [← h1]
    have h3' : FrzOk (upd M t ((M t).1, some { b with st := 1 })) ts := by
      have : ∀ ts : List Nat, FrzOk M ts → FrzOk (upd M t ((M t).1, some { b with st := 1 })) ts := by
        intro ts
        induction ts with
        | nil => exact fun _ => trivial
        | cons s ts ih =>
          rintro ⟨⟨c, c1, c2⟩, c3⟩
          refine ⟨?_, ih c3⟩
          by_cases hs : s = t
          · subst hs; exact ⟨_, by rw [upd_same], .inr rfl⟩
          · exact ⟨c, by rw [upd_ne _ _ _ _ hs]; exact c1, c2⟩
      exact this ts h3
    obtain ⟨M', e1, e2⟩ := frz_fold ts _ h3'
    refine ⟨M', ?_, ?_⟩
    · rw [frz, hM]
      simp only [h2, if_true]
      exact e1
    · rw [e2]
      funext s
      simp only [frzF, List.mem_cons]
      by_cases hs : s = t
      · subst hs
        rw [upd_same, hM]
        simp
      · rw [upd_ne _ _ _ _ hs]
        simp [hs]

theorem setM_app : ∀ (l l' : List (Nat × Nat × Option Blk)) (M : Nat → Nat × Option Blk), setM M (l ++ l') = setM (setM M l) l'
  | [], _, _ => rfl
  | (t, e) :: l, l', M => setM_app l l' _
theorem setM_miss : ∀ (l : List (Nat × Nat × Option Blk)) (M : Nat → Nat × Option Blk) (t : Nat), (∀ p ∈ l, p.1 ≠ t) → setM M l t = M t
  | [], _, _, _ => rfl
  | (k, e) :: l, M, t, h => by
    rw [setM, setM_miss l _ t fun p hp => h p (List.mem_cons_of_mem _ hp), upd_ne _ _ _ _ (Ne.symm (h (k, e) (by simp)))]
theorem setM_same {f : Nat → Nat × Option Blk} : ∀ (l : List (Nat × Nat × Option Blk)) (M : Nat → Nat × Option Blk) (t : Nat), (∀ p ∈ l, p.2 = f p.1) → (∃ p ∈ l, p.1 = t) → setM M l t = f t
  | [], _, _, _, h => by obtain ⟨p, hp, _⟩ := h; cases hp
  | (k, e) :: l, M, t, hf, h => by
    by_cases h2 : ∃ p ∈ l, p.1 = t
    · exact setM_same l _ t (fun p hp => hf p (List.mem_cons_of_mem _ hp)) h2
    · rw [setM, setM_miss l _ t fun p hp e => h2 ⟨p, hp, e⟩]
      obtain ⟨p, hp, hpt⟩ := h
      rcases List.mem_cons.1 hp with rfl | hp
      · simp only at hpt
        subst hpt
        rw [upd_same]
        exact hf (_, e) (by simp)
      · exact absurd ⟨p, hp, hpt⟩ h2

section
variable {M : Nat → Nat × Option Blk} {fz : List Nat} {τ : List (Nat × Nat)}

theorem sig_rho : ∀ {mem : List (Nat × Blk)} {rt : List Nat}, MemOk M τ mem rt → (mem.map (·.1)).Nodup → rt.Nodup → ∀ {t e : Nat}, sigG mem rt t = some e ↔ ∃ b, (e, b) ∈ mem ∧ rhoG M mem rt e = some (t, genG M b t)
  | [], [], _, _, _, t, e => by simp [sigG, rhoG]
  | [], _ :: _, h, _, _, _, _ => by simp only [MemOk] at h
  | _ :: _, [], h, _, _, _, _ => by simp only [MemOk] at h
  | (k, v) :: mem, s :: rt, h, hn, hr, t, e => by
    simp only [MemOk] at h
    simp only [List.map_cons, List.nodup_cons] at hn hr
    have ih := sig_rho h.2 hn.2 hr.2 (t := t) (e := e)
    have isrt : ∀ {mem : List (Nat × Blk)} {rt : List Nat} {i t g : Nat}, rhoG M mem rt i = some (t, g) → t ∈ rt := by
      intro mem
      induction mem with
      | nil => intro rt i t g h; simp [rhoG] at h
      | cons p mem ih =>
        obtain ⟨k, v⟩ := p
        intro rt i t g h
        cases rt with
        | nil => simp [rhoG] at h
        | cons s rt =>
          simp only [rhoG] at h
          split at h
          · simp only [Option.some.injEq, Prod.mk.injEq] at h; rw [← h.1]; simp
          · exact List.mem_cons_of_mem _ (ih h)
    have ismem : ∀ {mem : List (Nat × Blk)} {rt : List Nat} {t e : Nat}, sigG mem rt t = some e → e ∈ mem.map (·.1) ∧ t ∈ rt := by
      intro mem
      induction mem with
      | nil => intro rt t e h; simp [sigG] at h
      | cons p mem ih =>
        obtain ⟨k, v⟩ := p
        intro rt t e h
        cases rt with
        | nil => simp [sigG] at h
        | cons s rt =>
          simp only [sigG] at h
          split at h
          · rename_i h1; simp only [Option.some.injEq] at h; subst h; subst h1; simp
          · obtain ⟨a, b⟩ := ih h; exact ⟨List.mem_cons_of_mem _ a, List.mem_cons_of_mem _ b⟩
    simp only [sigG, rhoG]
    by_cases h1 : t = s
    · subst h1
      rw [if_pos rfl]
      constructor
      · intro h2
        simp only [Option.some.injEq] at h2
        subst h2
        exact ⟨v, by simp, by rw [if_pos rfl]⟩
      · rintro ⟨b, hb, hb2⟩
        split at hb2
        · rename_i h3; rw [h3]
        · exact absurd (isrt hb2) hr.1
    · rw [if_neg h1, ih]
      constructor
      · rintro ⟨b, hb, hb2⟩
        have : e ≠ k := fun hh => hn.1 (hh ▸ List.mem_map.2 ⟨_, hb, rfl⟩)
        exact ⟨b, List.mem_cons_of_mem _ hb, by rw [if_neg this]; exact hb2⟩
      · rintro ⟨b, hb, hb2⟩
        split at hb2
        · simp only [Option.some.injEq, Prod.mk.injEq] at hb2; exact absurd hb2.1.symm h1
        · rename_i h3
          refine ⟨b, ?_, hb2⟩
          rcases List.mem_cons.1 hb with h4 | h4
          · simp only [Prod.mk.injEq] at h4; exact absurd h4.1 h3
          · exact h4

theorem rho_sig : ∀ {mem : List (Nat × Blk)} {rt : List Nat}, (mem.map (·.1)).Nodup → rt.Nodup → ∀ {t e g : Nat}, rhoG M mem rt e = some (t, g) → ∃ b, (e, b) ∈ mem ∧ g = genG M b t ∧ t ∈ rt
  | [], _, _, _, t, e, g, h => by simp [rhoG] at h
  | _ :: _, [], _, _, t, e, g, h => by simp [rhoG] at h
  | (k, v) :: mem, s :: rt, hn, hr, t, e, g, h => by
    simp only [List.map_cons, List.nodup_cons] at hn hr
    simp only [rhoG] at h
    split at h
    · rename_i h1
      subst h1
      simp only [Option.some.injEq, Prod.mk.injEq] at h
      exact ⟨v, by simp, by rw [← h.2, h.1], by rw [← h.1]; simp⟩
    · obtain ⟨b, h1, h2, h3⟩ := rho_sig hn.2 hr.2 h
      exact ⟨b, List.mem_cons_of_mem _ h1, h2, List.mem_cons_of_mem _ h3⟩

theorem puts_at {N : Nat → Nat × Option Blk} {ρ : Nat → Option (Nat × Nat)} : ∀ {mem : List (Nat × Blk)} {rt : List Nat}, MemOk M τ mem rt → rt.Nodup → ∀ (M0 : Nat → Nat × Option Blk) (t : Nat),
    (∀ e, sigG mem rt t = some e → ∃ b, (e, b) ∈ mem ∧ setM M0 (puts M N ρ mem rt) t = (genG M b t, some { b with cells := renSVs N ρ b.cells, st := stG M b t }) ∧ ((3 ≤ b.st ∧ tauL τ (b.st - 3) = some t ∧ ∃ b0, (M t).2 = some b0 ∧ b0.esz = b.esz) ∨ b.st < 2)) ∧
    (sigG mem rt t = none → setM M0 (puts M N ρ mem rt) t = M0 t)
  | [], [], _, _, M0, t => by simp [sigG, puts, setM]
  | [], _ :: _, h, _, _, _ => by simp only [MemOk] at h
  | _ :: _, [], h, _, _, _ => by simp only [MemOk] at h
  | (k, v) :: mem, s :: rt, h, hr, M0, t => by
    simp only [MemOk] at h
    simp only [List.nodup_cons] at hr
    obtain ⟨i1, i2⟩ := puts_at (N := N) (ρ := ρ) h.2 hr.2 M0 t
    simp only [puts, setM_app, setM, sigG]
    by_cases h1 : t = s
    · subst h1
      rw [upd_same, if_pos rfl]
      refine ⟨fun e he => ?_, fun he => by cases he⟩
      simp only [Option.some.injEq] at he
      subst he
      exact ⟨v, by simp, rfl, h.1⟩
    · rw [upd_ne _ _ _ _ h1, if_neg h1]
      refine ⟨fun e he => ?_, i2⟩
      obtain ⟨b, b1, b2, b3⟩ := i1 e he
      exact ⟨b, List.mem_cons_of_mem _ b1, b2, b3⟩

/-- The list of changes is the memory behind the call. -/
theorem backOk_list {mem : List (Nat × Blk)} {rt : List Nat} (hm : MemOk M τ mem rt) (hn : (mem.map (·.1)).Nodup) (hr : rt.Nodup) (hfz : ∀ t ∈ rt, t ∉ fz) :
    BackOk (tauL τ) (frzF M fz) (mkB mem) (setM (noViews M) (msG M fz τ mem rt)) (sigG mem rt) (rhoG M mem rt) := by
  have hf : ∀ t ∈ rt, frzF M fz t = M t := fun t ht => by simp [frzF, hfz t ht]
  have hfg : ∀ t, (frzF M fz t).1 = (M t).1 := fun t => by unfold frzF; split <;> rfl
  refine ⟨fun t e hs => ?_, fun t hs => ?_, fun e t gen he => ?_⟩
  · obtain ⟨b, b1, b2, b3⟩ := (puts_at (N := mkB mem) (ρ := rhoG M mem rt) hm hr (setM (setM (noViews M) (frzMs M fz)) (drops M τ)) t).1 e hs
    obtain ⟨b', c1, c2⟩ := (sig_rho hm hn hr).1 hs
    have hbb : b' = b := by
      have q1 := mkB_at hn b1
      have q2 := mkB_at hn c1
      rw [q1] at q2
      simp only [Prod.mk.injEq, Option.some.injEq, true_and] at q2
      exact q2.symm
    subst hbb
    obtain ⟨_, _, _, htr⟩ := rho_sig hn hr c2
    refine ⟨b', stG M b' t, genG M b' t, by rw [mkB_at hn b1], ?_, c2, ?_⟩
    · rw [msG, setM_app, setM_app]; exact b2
    · rcases b3 with ⟨h3, h4, b0, h5, h6⟩ | h3
      · refine .inl ⟨h3, h4, b0, ?_, ?_, h6⟩
        · rw [hf t htr, genG, if_pos h3, ← h5]
        · simp [stG, h3, h5]
      · refine .inr ⟨h3, by simp [stG, show ¬ 3 ≤ b'.st by omega], by rw [hfg, genG, if_neg (by omega)]⟩
  · have h1 := (puts_at (N := mkB mem) (ρ := rhoG M mem rt) hm hr (setM (setM (noViews M) (frzMs M fz)) (drops M τ)) t).2 hs
    have e : setM (noViews M) (msG M fz τ mem rt) t = setM (setM (noViews M) (frzMs M fz)) (drops M τ) t := by rw [msG, setM_app, setM_app]; exact h1
    by_cases h2 : ∃ p ∈ drops M τ, p.1 = t
    · refine .inr ?_
      rw [e, setM_same (f := fun t => ((M t).1, none)) _ _ t (fun p hp => ?_) h2, hfg]
      simp only [drops, List.mem_map] at hp
      obtain ⟨q, _, rfl⟩ := hp
      rfl
    · refine .inl ⟨?_, fun t' ht' => h2 ⟨_, List.mem_map.2 ⟨_, tauL_mem ht', rfl⟩, rfl⟩⟩
      rw [e, setM_miss _ _ t fun p hp hpt => h2 ⟨p, hp, hpt⟩]
      by_cases h3 : t ∈ fz
      · have hin : ∃ p ∈ frzMs M fz, p.1 = t := ⟨_, by unfold frzMs; exact List.mem_map.2 ⟨t, h3, rfl⟩, rfl⟩
        rw [setM_same (f := fun t => ((M t).1, (M t).2.map fun b => { b with st := 1 })) _ _ t (fun p hp => ?_) hin]
        · simp only [noViews, frzF, h3, if_true]
          cases (M t).2 <;> simp
        · simp only [frzMs, List.mem_map] at hp
          obtain ⟨q, _, rfl⟩ := hp
          rfl
      · rw [setM_miss _ _ t fun p hp hpt => ?_]
        · exact noViews_get (by simp [frzF, h3])
        · simp only [frzMs, List.mem_map] at hp
          obtain ⟨q, hq, rfl⟩ := hp
          exact h3 (hpt ▸ hq)
  · obtain ⟨b, b1, b2, _⟩ := rho_sig hn hr he
    refine (sig_rho hm hn hr).2 ⟨b, b1, ?_⟩
    rw [he, b2]

theorem lentOk_list {m0 : List (Nat × Blk)} {M1 : Nat → Nat × Option Blk} (h : LentL τ M1 (mkB m0) m0) (hτ : (τ.map (·.2)).Nodup) (hk : ∀ p ∈ τ, p.1 ∈ m0.map (·.1)) (hn : (m0.map (·.1)).Nodup) : LentOk (tauL τ) M1 (mkB m0) := by
  refine ⟨fun t' g' b' e => ?_, tauL_inj hτ, fun t' t ht => ?_⟩
  · have hm := (mkB_mem e).2
    have : ∀ l : List (Nat × Blk), LentL τ M1 (mkB m0) l → (t', b') ∈ l → b'.st = 3 + t' ∧ ∃ t b, tauL τ t' = some t ∧ (M1 t).2 = some b ∧ OwS b.st ∧ b'.esz = b.esz ∧ b'.elem = b.elem ∧ b'.row = b.row ∧ svLes (tauL τ) M1 (mkB m0) b'.cells b.cells := by
      intro l
      induction l with
      | nil => intro _ h; cases h
      | cons p l ih =>
        obtain ⟨k, v⟩ := p
        intro h hm
        rcases List.mem_cons.1 hm with h1 | h1
        · simp only [Prod.mk.injEq] at h1
          obtain ⟨rfl, rfl⟩ := h1
          exact h.1
        · exact ih h.2 h1
    exact this m0 h hm
  · obtain ⟨p, hp, hpt⟩ := List.mem_map.1 (hk _ (tauL_mem ht))
    obtain ⟨k, b⟩ := p
    simp only at hpt
    subst hpt
    exact ⟨0, b, mkB_at hn hp⟩
end

theorem svreps_app {w : World} {M : Nat → Nat × Option Blk} {μ : Nat → Option (Nat × Nat)} {X : Nat → Prop} : ∀ {cs ds : List SV} {us vs : List Value}, SVReps w M μ X cs us → SVReps w M μ X ds vs → SVReps w M μ X (cs ++ ds) (us ++ vs)
  | [], _, [], _, _, h => h
  | c :: cs, _, u :: us, _, h, k => by
    simp only [SVReps] at h
    simp only [List.cons_append, SVReps]
    exact ⟨h.1, svreps_app h.2 k⟩
  | [], _, _ :: _, _, h, _ => by simp only [SVReps] at h
  | _ :: _, _, [], _, h, _ => by simp only [SVReps] at h

section
variable {cx : Cx} {S : St} {a : Act} {w : World} {o : Oper} {fz : List Nat} {τ : List (Nat × Nat)} {m0 mem : List (Nat × Blk)} {rt : List Nat} {args : List SV} {res : List SV}

/-- The facts of such a call. -/
structure GOkay (S : St) (fz : List Nat) (τ : List (Nat × Nat)) (m0 mem : List (Nat × Blk)) (rt : List Nat) (args ss : List SV) : Prop where
  hfz : FrzOk S.M fz
  lent : LentL τ (frzF S.M fz) (mkB m0) m0
  inj : (τ.map (·.2)).Nodup
  keys : ∀ p ∈ τ, p.1 ∈ m0.map (·.1)
  nd0 : (m0.map (·.1)).Nodup
  hargs : svLes (tauL τ) (frzF S.M fz) (mkB m0) args ss
  hmem : MemOk S.M τ mem rt
  nd1 : (mem.map (·.1)).Nodup
  nd2 : rt.Nodup
  off : ∀ t ∈ rt, t ∉ fz

theorem callG_does (hg : cx.Good) (h0 : Sim cx S a w) {f' : Operand} {ops : Array Operand} {ts : Array TypeId} (ho : o.op = .call { callee := .value f', args := ops, argTypes := ts }) {f : FuncId} {pre caps : List DV} (hf : S.ev f' = .dv (.fn f pre caps))
    (hk : GOkay S fz τ m0 mem rt args (ops.toList.map S.ev)) (hcall : ACallsG cx.P f (pre.map .dv ++ args ++ caps.map .dv) (mkB m0) ⟨res, mkB mem⟩) {d : Nat} (hd : o.dst = some d) (hdn : d < cx.n) :
    Does cx ((effG d S fz τ res mem rt).app S) o a w := by
  obtain ⟨μ, h0⟩ := h0
  obtain ⟨M1, hz1, hz2⟩ := frz_fold fz S.M hk.hfz
  have h : SimU cx ⟨S.F, frzF S.M fz⟩ a w μ := by rw [← hz2]; exact frz_sim h0 fz S.M M1 h0 hz1
  have hL := lentOk_list hk.lent hk.inj hk.keys hk.nd0
  have hB := backOk_list (M := S.M) hk.hmem hk.nd1 hk.nd2 hk.off
  obtain ⟨hM0, hW, hrep⟩ := lent_mem hg h hL
  have hfv := h.ev f'
  have hf1 : St.ev ⟨S.F, frzF S.M fz⟩ f' = .dv (.fn f pre caps) := by rw [← hf]; cases f' <;> rfl
  rw [hf1] at hfv
  simp only [SVRep] at hfv
  generalize hv : a.eval f' = vf at *
  cases hfv with
  | fn _ _ _ vp vc p1 p2 p3 p4 =>
    intro Q
    unfold Oper.wp
    rw [call_exec ho hv hcall.1]
    have dvs : ∀ (ds : List DV) (vs : Array Value), vs.size = ds.length → (∀ (j : Nat) c, ds[j]? = some c → RepD w (XX cx (frzF S.M fz) μ) c (vs.getD j undef)) →
        SVReps w (mkB m0) (relμ (tauL τ) μ) (fun b => Own (mkB m0) (relμ (tauL τ) μ) b ∨ (XX cx (frzF S.M fz) μ b ∧ ¬ Own (mkB m0) (relμ (tauL τ) μ) b)) (ds.map .dv) vs.toList := by
      intro ds vs hl hh
      refine SVReps.mk (by simpa using hl) fun j c u hj hu => ?_
      simp only [List.getElem?_map, Option.map_eq_some_iff] at hj
      obtain ⟨x, hx, rfl⟩ := hj
      simp only [SVRep]
      have h1 := hh j x hx
      have e : vs.getD j undef = u := by
        simp only [Array.getElem?_toList] at hu
        simp [hu]
      rw [e] at h1
      exact h1.weaken fun b hb => hb.elim (fun q => (hW b q).1) (fun q => q.1)
    have hargs : SVReps w (mkB m0) (relμ (tauL τ) μ) (fun b => Own (mkB m0) (relμ (tauL τ) μ) b ∨ (XX cx (frzF S.M fz) μ b ∧ ¬ Own (mkB m0) (relμ (tauL τ) μ) b)) args (ops.toList.map a.eval) := by
      refine hrep _ _ _ hk.hargs (SVReps.mk (by simp) fun j c u hj hu => ?_)
      simp only [List.getElem?_map, Option.map_eq_some_iff] at hj hu
      obtain ⟨x, hx, rfl⟩ := hj
      obtain ⟨y, hy, rfl⟩ := hu
      rw [hx] at hy
      obtain rfl := Option.some.inj hy
      have := h.ev x
      have e : St.ev ⟨S.F, frzF S.M fz⟩ x = S.ev x := by cases x <;> rfl
      rw [e] at this
      exact this
    have hall := svreps_app (svreps_app (dvs pre vp p1 p3) hargs) (dvs caps vc p2 p4)
    have harr : (vp ++ ops.map a.eval ++ vc) = (vp.toList ++ ops.toList.map a.eval ++ vc.toList).toArray := by
      apply Array.toList_inj.1
      simp
    rw [harr]
    refine (hcall.2 w (fun b => XX cx (frzF S.M fz) μ b ∧ ¬ Own (mkB m0) (relμ (tauL τ) μ) b) (Own (mkB m0) (relμ (tauL τ) μ)) (relμ (tauL τ) μ) (relμ (tauL τ) μ) _ (fun b hb => ⟨?_, hb.2⟩) hM0 hall).mono fun e w' ⟨us, ν, he, hbel, hN, hR⟩ => ?_
    · rcases hb.1 with ⟨t, g, blk, cap, e1, _, e3⟩ | hx
      · exact (h.place t g blk b cap e1 e3).2
      · exact Nat.lt_of_lt_of_le (hg b hx).1 h.below.size
    · subst he
      show Sim cx _ (a.put o.dst (valOf us)) w'
      obtain ⟨μ2, i1, i2⟩ := back_sim hg h hL hB hbel hN
      rw [hd]
      refine ⟨μ2, ?_⟩
      have hval : SVRep w' (setM (noViews S.M) (msG S.M fz τ mem rt)) μ2 (XX cx (setM (noViews S.M) (msG S.M fz τ mem rt)) μ2) (resG (mkB mem) (rhoG S.M mem rt) res) (valOf us) := by
        have tup : us.length ≠ 1 → SVRep w' (setM (noViews S.M) (msG S.M fz τ mem rt)) μ2 (XX cx (setM (noViews S.M) (msG S.M fz τ mem rt)) μ2) (.tup (renSVs (mkB mem) (rhoG S.M mem rt) res)) (valOf us) := fun hne => by
          have : valOf us = .tuple us.toArray := by
            unfold valOf
            rw [dif_neg (by simpa using hne)]
          rw [this]
          simp only [SVRep]
          refine ⟨us, rfl, ?_⟩
          rw [renSVs_map]
          refine SVReps.mk (by simp [hR.length]) fun j c u hj hu => ?_
          simp only [List.getElem?_map, Option.map_eq_some_iff] at hj
          obtain ⟨c0, hc0, rfl⟩ := hj
          exact i2 c0 u (hR.get j c0 u hc0 hu)
        have hlen := hR.length
        match res, us, hlen, hR, tup with
        | [r], [u], _, hR, _ =>
          simp only [SVReps, and_true] at hR
          show SVRep w' _ μ2 _ (renSV (mkB mem) _ r) (valOf [u])
          have : valOf [u] = u := by simp [valOf]
          rw [this]
          exact i2 r u hR
        | [], [], _, _, tup => exact tup (by simp)
        | r :: r' :: rs, us, hlen, _, tup => exact tup (by simp at hlen; omega)
      have := i1.set hdn hval
      simpa [effG, Eff.app] using this
end
end Go.Ab
