/- The abstract layer, part 21: a state told anew: at a loop's head, where paths meet. -/
import Derived.Test.YtjlfgobbieljoaaAb20
set_option linter.unusedVariables false
namespace Go.Ab
open Go.RowKit

def isLive (M : Nat → Nat × Option Blk) (t g : Nat) : Prop := (M t).1 = g ∧ (M t).2.isSome = true

mutual
/-- The new slot value says no more than the old one; τ: which tag a new one was. -/
def svLe (τ : Nat → Option Nat) (M M' : Nat → Nat × Option Blk) : SV → SV → Prop
  | .dead, _ => True
  | .dv d, .dv d' => d = d'
  | .dv d, .nils => Data (fun st => st = 1) (fun _ => True) M .nils d
  | .dv d, .sl t g o n => Data (fun st => st = 1) (fun _ => True) M (.sl t g o n) d
  | .dv d, .pt t g o => Data (fun st => st = 1) (fun _ => True) M (.pt t g o) d
  | .dv d, .agg cs => Data (fun st => st = 1) (fun _ => True) M (.agg cs) d
  | .dv d, .emp b => Data (fun st => st = 1) (fun _ => True) M (.emp b) d
  | .nils, .nils => True
  | .emp b', .emp b => b' = b
  | .sl t' g' o' n', .sl t g o n => τ t' = some t ∧ isLive M t g ∧ isLive M' t' g' ∧ o' = o ∧ n' = n
  | .sl t' g' o' n', .nils => τ t' = none ∧ isLive M' t' g' ∧ o' = 0 ∧ n' = 0
  | .pt t' g' o', .pt t g o => τ t' = some t ∧ isLive M t g ∧ isLive M' t' g' ∧ o' = o
  | .agg cs', .agg cs => svLes τ M M' cs' cs
  | .agg cs', .dv (.agg ds) => cs' = ds.map .dv
  | .tup cs', .tup cs => svLes τ M M' cs' cs
  | _, _ => False
def svLes (τ : Nat → Option Nat) (M M' : Nat → Nat × Option Blk) : List SV → List SV → Prop
  | [], [] => True
  | c :: cs, d :: ds => svLe τ M M' c d ∧ svLes τ M M' cs ds
  | _, _ => False
end

/-- The new block says no more than the old one. -/
def blkLe (τ : Nat → Option Nat) (M M' : Nat → Nat × Option Blk) (t' : Nat) (b' : Blk) : Prop :=
  match τ t' with
  | none => (b'.cells = [] ∧ b'.row = true) ∧ b'.st < 3
  | some t => ∃ b, (M t).2 = some b ∧ b'.esz = b.esz ∧ b'.elem = b.elem ∧ b'.st = b.st ∧ b'.row = b.row ∧ svLes τ M M' b'.cells b.cells

def FLe (τ : Nat → Option Nat) (S : St) (M' : Nat → Nat × Option Blk) : List (Nat × SV) → Prop
  | [] => True
  | (k, v) :: l => svLe τ S.M M' v (S.F k) ∧ FLe τ S M' l
def MLe (τ : Nat → Option Nat) (S : St) (M' : Nat → Nat × Option Blk) : List (Nat × Nat × Option Blk) → Prop
  | [] => True
  | (k, _, some b) :: l => blkLe τ S.M M' k b ∧ MLe τ S M' l
  | (_, _, none) :: l => MLe τ S M' l

section
variable {cx : Cx} {S S' : St} {a : Act} {w : World} {μ : Nat → Option (Nat × Nat)}

theorem svLes_len {τ : Nat → Option Nat} {M M' : Nat → Nat × Option Blk} : ∀ {cs ds : List SV}, svLes τ M M' cs ds → cs.length = ds.length
  | [], [], _ => rfl
  | _ :: cs, _ :: ds, h => by simp only [svLes] at h; simp [svLes_len h.2]
  | [], _ :: _, h => by simp only [svLes] at h
  | _ :: _, [], h => by simp only [svLes] at h

def relμ (τ : Nat → Option Nat) (μ : Nat → Option (Nat × Nat)) : Nat → Option (Nat × Nat) := fun t => match τ t with | some t => μ t | none => none

mutual
theorem svLe_rep (hg : cx.Good) (h : SimU cx S a w μ) {τ : Nat → Option Nat} {M' : Nat → Nat × Option Blk} (hM : ∀ t' g' b' t, M' t' = (g', some b') → τ t' = some t → ∃ b, (S.M t).2 = some b ∧ b'.esz = b.esz)
    {X' : Nat → Prop} (hX : ∀ b, X' b → XX cx S.M μ b) : ∀ (s' s : SV) (v : Value), svLe τ S.M M' s' s → SVRep w S.M μ (XX cx S.M μ) s v → SVRep w M' (relμ τ μ) X' s' v
  | .dead, _, _, _, _ => trivial
  | .dv d, .dv d', v, e, hv => by simp only [svLe] at e; subst e; simp only [SVRep] at hv ⊢; exact hv.weaken hX
  | .dv d, .nils, v, e, hv => by simp only [svLe] at e; simp only [SVRep]; exact (Lasting.rep hg h e hv).weaken hX
  | .dv d, .sl t g o n, v, e, hv => by simp only [svLe] at e; simp only [SVRep]; exact (Lasting.rep hg h e hv).weaken hX
  | .dv d, .pt t g o, v, e, hv => by simp only [svLe] at e; simp only [SVRep]; exact (Lasting.rep hg h e hv).weaken hX
  | .dv d, .agg cs, v, e, hv => by simp only [svLe] at e; simp only [SVRep]; exact (Lasting.rep hg h e hv).weaken hX
  | .dv d, .emp b, v, e, hv => by simp only [svLe] at e; simp only [SVRep]; exact (Lasting.rep hg h e hv).weaken hX
  | .nils, .nils, v, _, hv => by simpa only [SVRep] using hv
  | .emp b', .emp b, v, e, hv => by simp only [svLe] at e; subst e; simpa only [SVRep] using hv
  | .sl t' g' o' n', .sl t g o n, v, e, hv => by
    simp only [svLe] at e
    obtain ⟨e1, ⟨e2, e3⟩, ⟨e4, e5⟩, rfl, rfl⟩ := e
    simp only [SVRep] at hv ⊢
    refine ⟨⟨hv.1.1, by omega⟩, fun b' hb' => ?_⟩
    obtain ⟨b, hb⟩ := Option.isSome_iff_exists.1 e3
    have hMt : S.M t = (g, some b) := by rw [← e2, ← hb]
    have := hv.2 b hMt
    obtain ⟨b2, q1, q2⟩ := hM t' g' b' t hb' e1
    have : b2 = b := by rw [hb] at q1; exact (Option.some.inj q1).symm
    subst this
    have hrel : relμ τ μ t' = μ t := by simp [relμ, e1]
    rw [hrel, q2]
    assumption
  | .sl t' g' o' n', .nils, v, e, hv => by
    simp only [svLe] at e
    obtain ⟨e1, ⟨e4, e5⟩, rfl, rfl⟩ := e
    simp only [SVRep] at hv ⊢
    subst hv
    refine ⟨⟨rfl, by omega⟩, fun b' hb' => ?_⟩
    have hrel : relμ τ μ t' = none := by simp [relμ, e1]
    rw [hrel]
    exact ⟨rfl, trivial, trivial⟩
  | .pt t' g' o', .pt t g o, v, e, hv => by
    simp only [svLe] at e
    obtain ⟨e1, ⟨e2, e3⟩, ⟨e4, e5⟩, rfl⟩ := e
    simp only [SVRep] at hv ⊢
    refine ⟨⟨hv.1.1, by omega⟩, fun b' hb' => ?_⟩
    obtain ⟨b, hb⟩ := Option.isSome_iff_exists.1 e3
    have hMt : S.M t = (g, some b) := by rw [← e2, ← hb]
    have hrel : relμ τ μ t' = μ t := by simp [relμ, e1]
    rw [hrel]
    exact hv.2 b hMt
  | .agg cs', .agg cs, v, e, hv => by
    simp only [svLe] at e
    simp only [SVRep] at hv ⊢
    obtain ⟨vs, rfl, hv⟩ := hv
    exact ⟨vs, rfl, svLes_rep hg h hM hX cs' cs vs e hv⟩
  | .agg cs', .dv (.agg ds), v, e, hv => by
    simp only [svLe] at e
    subst e
    simp only [SVRep] at hv ⊢
    cases hv with
    | agg _ vs hsz hc =>
      refine ⟨vs.toList, by simp, SVReps.mk (by simpa using hsz) fun j c u hj hu => ?_⟩
      simp only [List.getElem?_map, Option.map_eq_some_iff] at hj
      obtain ⟨d, hd, rfl⟩ := hj
      simp only [SVRep]
      have := hc j d hd
      have e : vs.getD j undef = u := by
        simp only [Array.getElem?_toList] at hu
        simp [hu]
      rw [e] at this
      exact this.weaken hX
  | .tup cs', .tup cs, v, e, hv => by
    simp only [svLe] at e
    simp only [SVRep] at hv ⊢
    obtain ⟨vs, rfl, hv⟩ := hv
    exact ⟨vs, rfl, svLes_rep hg h hM hX cs' cs vs e hv⟩
  | .dv _, .dead, _, e, _ | .dv _, .tup _, _, e, _ | .nils, .emp _, _, e, _ | .emp _, .dead, _, e, _ | .emp _, .dv _, _, e, _ | .emp _, .nils, _, e, _ | .emp _, .sl .., _, e, _ | .emp _, .pt .., _, e, _ | .emp _, .agg _, _, e, _ | .emp _, .tup _, _, e, _ | .sl .., .emp _, _, e, _ | .pt .., .emp _, _, e, _ | .agg _, .emp _, _, e, _ | .tup _, .emp _, _, e, _ | .nils, .dead, _, e, _ | .nils, .dv _, _, e, _ | .nils, .sl .., _, e, _ | .nils, .pt .., _, e, _ | .nils, .agg _, _, e, _ | .nils, .tup _, _, e, _
  | .sl .., .dead, _, e, _ | .sl .., .dv _, _, e, _ | .sl .., .pt .., _, e, _ | .sl .., .agg _, _, e, _ | .sl .., .tup _, _, e, _
  | .pt .., .dead, _, e, _ | .pt .., .dv _, _, e, _ | .pt .., .nils, _, e, _ | .pt .., .sl .., _, e, _ | .pt .., .agg _, _, e, _ | .pt .., .tup _, _, e, _
  | .agg _, .dead, _, e, _ | .agg _, .nils, _, e, _ | .agg _, .sl .., _, e, _ | .agg _, .pt .., _, e, _ | .agg _, .tup _, _, e, _
  | .tup _, .dead, _, e, _ | .tup _, .dv _, _, e, _ | .tup _, .nils, _, e, _ | .tup _, .sl .., _, e, _ | .tup _, .pt .., _, e, _ | .tup _, .agg _, _, e, _ => by simp only [svLe] at e
  | .agg _, .dv (.bool _), _, e, _ | .agg _, .dv (.int _ _), _, e, _ | .agg _, .dv (.str _), _, e, _ | .agg _, .dv (.list _), _, e, _ | .agg _, .dv (.cptr _), _, e, _ | .agg _, .dv .nilptr, _, e, _
  | .agg _, .dv (.fn ..), _, e, _ | .agg _, .dv .nilfn, _, e, _ | .agg _, .dv (.iface ..), _, e, _ | .agg _, .dv .nilIface, _, e, _ => by simp only [svLe] at e
theorem svLes_rep (hg : cx.Good) (h : SimU cx S a w μ) {τ : Nat → Option Nat} {M' : Nat → Nat × Option Blk} (hM : ∀ t' g' b' t, M' t' = (g', some b') → τ t' = some t → ∃ b, (S.M t).2 = some b ∧ b'.esz = b.esz)
    {X' : Nat → Prop} (hX : ∀ b, X' b → XX cx S.M μ b) : ∀ (cs' cs : List SV) (vs : List Value), svLes τ S.M M' cs' cs → SVReps w S.M μ (XX cx S.M μ) cs vs → SVReps w M' (relμ τ μ) X' cs' vs
  | [], [], [], _, _ => trivial
  | c' :: cs', c :: cs, v :: vs, e, hv => by
    simp only [svLes] at e
    simp only [SVReps] at hv ⊢
    exact ⟨svLe_rep hg h hM hX c' c v e.1 hv.1, svLes_rep hg h hM hX cs' cs vs e.2 hv.2⟩
  | [], [], _ :: _, _, hv => by simp only [SVReps] at hv
  | [], _ :: _, _, e, _ => by simp only [svLes] at e
  | _ :: _, [], _, e, _ => by simp only [svLes] at e
  | _ :: _, _ :: _, [], _, hv => by simp only [SVReps] at hv
end

theorem blkLe_get {τ : Nat → Option Nat} {M M' : Nat → Nat × Option Blk} (hM : ∀ t' g' b', M' t' = (g', some b') → blkLe τ M M' t' b') : ∀ t' g' b' t, M' t' = (g', some b') → τ t' = some t → ∃ b, (M t).2 = some b ∧ b'.esz = b.esz := fun t' g' b' t e h => by
  have hbl := hM t' g' b' e
  unfold blkLe at hbl
  rw [h] at hbl
  obtain ⟨b2, q1, q2, _⟩ := hbl
  exact ⟨b2, q1, q2⟩

theorem relab_sim (hg : cx.Good) (h : SimU cx S a w μ) {τ : Nat → Option Nat} (hF : ∀ i, svLe τ S.M S'.M (S'.F i) (S.F i)) (hM : ∀ t' g' b', S'.M t' = (g', some b') → blkLe τ S.M S'.M t' b')
    (hinj : ∀ t1 t2 t, τ t1 = some t → τ t2 = some t → t1 = t2) : SimU cx S' a w (relμ τ μ) := by
  have old : ∀ t' g' b' b cap, S'.M t' = (g', some b') → relμ τ μ t' = some (b, cap) → ∃ t g blk, τ t' = some t ∧ S.M t = (g, some blk) ∧ μ t = some (b, cap) ∧ b'.esz = blk.esz ∧ b'.elem = blk.elem ∧ b'.st = blk.st ∧ b'.row = blk.row ∧ svLes τ S.M S'.M b'.cells blk.cells := by
    intro t' g' b' b cap e hm
    have hb := hM t' g' b' e
    unfold blkLe at hb
    unfold relμ at hm
    cases hτ : τ t' with
    | none => rw [hτ] at hm; cases hm
    | some t =>
      rw [hτ] at hm hb
      obtain ⟨blk, q1, q2⟩ := hb
      exact ⟨t, (S.M t).1, blk, rfl, by rw [← q1], hm, q2⟩
  have hX : ∀ b, XX cx S'.M (relμ τ μ) b → XX cx S.M μ b := by
    rintro b (⟨t', g', b', cap, e1, e2, e3⟩ | hx)
    · obtain ⟨t, g, blk, q1, q2, q3, q4, q5, q6, _⟩ := old t' g' b' b cap e1 e3
      exact .inl ⟨t, g, blk, cap, q2, by rw [← q6]; exact e2, q3⟩
    · exact .inr hx
  refine ⟨fun t' g' b' e => ?_, fun i => svLe_rep hg h (blkLe_get hM) hX _ _ _ (hF i) (h.slot i), fun t' g' b' b cap e hm => ?_, fun t1 g1 b1 t2 g2 b2 b c1 c2 hne e1 e2 hst m1 m2 => ?_, fun t' g' b' e h3 => ?anc, h.below, h.size, h.defers⟩
  case anc =>
    have hb := hM t' g' b' e
    unfold blkLe at hb
    cases hτ : τ t' with
    | none => rw [hτ] at hb; have := hb.2; omega
    | some t =>
      rw [hτ] at hb
      obtain ⟨blk, q1, q2, q3, q4, q5, q6⟩ := hb
      have := h.anc t (S.M t).1 blk (by rw [← q1]) (by omega)
      simp only [relμ, hτ, this, q4]
  · have hb := hM t' g' b' e
    unfold BlkRep
    cases hm : relμ τ μ t' with
    | none =>
      unfold blkLe at hb
      unfold relμ at hm
      cases hτ : τ t' with
      | none => rw [hτ] at hb; exact hb.1
      | some t =>
        rw [hτ] at hb hm
        obtain ⟨blk, q1, q2, q3, q4, q5, q6⟩ := hb
        have := h.blk t (S.M t).1 blk (by rw [← q1])
        unfold BlkRep at this
        have hm : μ t = none := hm
        rw [hm] at this
        have hl := svLes_len q6
        rw [this.1] at hl
        exact ⟨List.eq_nil_of_length_eq_zero hl, by rw [q5]; exact this.2⟩
    | some p =>
      obtain ⟨b, cap⟩ := p
      obtain ⟨t, g, blk, q1, q2, q3, q4, q5, q6, q7, q8⟩ := old t' g' b' b cap e hm
      have := h.blk t g blk q2
      unfold BlkRep at this
      rw [q3] at this
      obtain ⟨cur, r1, r2, r3, r4, r5⟩ := this
      have hl := svLes_len q8
      refine ⟨cur, by rw [q5]; exact r1, by omega, ?_, fun hr => by rw [q4]; exact r4 (by rw [← q7]; exact hr), fun hr => by rw [hl]; exact r5 (by rw [← q7]; exact hr)⟩
      have hall : SVReps w S.M μ (XX cx S.M μ) blk.cells (cur.toList.take blk.cells.length) := SVReps.mk (by simp; omega) fun j c u hj hu => by
        rw [List.getElem?_take] at hu
        split at hu
        · exact r3 j c u hj (by simpa using hu)
        · cases hu
      have h2 := svLes_rep hg h (blkLe_get hM) hX _ _ _ q8 hall
      intro j c u hj hu
      refine h2.get j c u hj ?_
      rw [List.getElem?_take]
      have := (List.getElem?_eq_some_iff.1 hj).1
      rw [if_pos (by omega)]
      simpa using hu
  · obtain ⟨t, g, blk, q1, q2, q3, _⟩ := old t' g' b' b cap e hm
    exact h.place t g blk b cap q2 q3
  · obtain ⟨t, g, blk, q1, q2, q3, q4, q5, q6, q7, q8⟩ := old t1 g1 b1 b c1 e1 m1
    obtain ⟨t', g', blk', q1', q2', q3', q4', q5', q6', q7', q8'⟩ := old t2 g2 b2 b c2 e2 m2
    have hne' : t ≠ t' := fun hh => hne (hinj t1 t2 t q1 (hh ▸ q1'))
    have := h.uniq t g blk t' g' blk' b c1 c2 hne' q2 q2' (by rw [← q6]; exact hst) q3 q3'
    rw [q6', svLes_len q8', svLes_len q8]
    exact this

/-- Which tag a new one was, as a list. -/
def tauL : List (Nat × Nat) → Nat → Option Nat
  | [], _ => none
  | (k, v) :: l, i => if i = k then some v else tauL l i

theorem tauL_mem : ∀ {l : List (Nat × Nat)} {i v : Nat}, tauL l i = some v → (i, v) ∈ l
  | (k, u) :: l, i, v, h => by
    simp only [tauL] at h
    split at h
    · rename_i e; simp only [Option.some.injEq] at h; subst e; subst h; simp
    · exact List.mem_cons_of_mem _ (tauL_mem h)

theorem tauL_inj {l : List (Nat × Nat)} (h : (l.map (·.2)).Nodup) : ∀ t1 t2 t, tauL l t1 = some t → tauL l t2 = some t → t1 = t2 := by
  intro t1 t2 t h1 h2
  have m1 := tauL_mem h1
  have m2 := tauL_mem h2
  clear h1 h2
  induction l with
  | nil => cases m1
  | cons p l ih =>
    simp only [List.map_cons, List.nodup_cons] at h
    rcases List.mem_cons.1 m1 with e1 | e1 <;> rcases List.mem_cons.1 m2 with e2 | e2
    · rw [← e1] at e2; simpa using e2.symm
    · exact absurd (List.mem_map.2 ⟨_, e2, by rw [← e1]⟩) h.1
    · exact absurd (List.mem_map.2 ⟨_, e1, by rw [← e2]⟩) h.1
    · exact ih h.2 e1 e2

theorem FLe_get {τ : Nat → Option Nat} {S : St} {M' : Nat → Nat × Option Blk} : ∀ {l : List (Nat × SV)}, FLe τ S M' l → ∀ i, svLe τ S.M M' (lk l i) (S.F i)
  | [], _, i => by simp only [lk, svLe]
  | (k, v) :: l, h, i => by
    simp only [FLe] at h
    simp only [lk]
    split
    · rename_i e; subst e; exact h.1
    · exact FLe_get h.2 i
theorem MLe_get {τ : Nat → Option Nat} {S : St} {M' : Nat → Nat × Option Blk} : ∀ {m : List (Nat × Nat × Option Blk)}, MLe τ S M' m → ∀ t' g' b', mkM m t' = (g', some b') → blkLe τ S.M M' t' b'
  | [], _, t', g', b', e => by simp [mkM] at e
  | (k, g, ob) :: m, h, t', g', b', e => by
    simp only [mkM] at e
    split at e
    · rename_i hk
      subst hk
      simp only [Prod.mk.injEq] at e
      obtain ⟨rfl, rfl⟩ := e
      simp only [MLe] at h
      exact h.1
    · cases ob with
      | none => exact MLe_get (by simpa only [MLe] using h) t' g' b' e
      | some b => exact MLe_get (by simp only [MLe] at h; exact h.2) t' g' b' e

/-- A state told anew. -/
theorem Le.tell (hg : cx.Good) (τ : List (Nat × Nat)) {l : List (Nat × SV)} {m : List (Nat × Nat × Option Blk)} (hF : FLe (tauL τ) S (mkM m) l) (hM : MLe (tauL τ) S (mkM m) m) (hτ : (τ.map (·.2)).Nodup) : Le cx S ⟨lk l, mkM m⟩ := by
  rintro a w ⟨μ, h⟩
  exact ⟨_, relab_sim (S' := ⟨lk l, mkM m⟩) hg h (FLe_get hF) (MLe_get hM) (tauL_inj hτ)⟩

/-- An empty slice is nil or not. -/
theorem AWp.split {c : Code} {K : Exit → St → Prop} {l : List (Nat × SV)} {m : List (Nat × Nat × Option Blk)} {t : Nat} (h0 : lk l t = .dv (.list [])) (h : ∀ b, AWp cx c K ⟨lk ((t, .emp b) :: l), mkM m⟩) : AWp cx c K ⟨lk l, mkM m⟩ := by
  rintro a w ⟨μ, hs⟩
  have hv := hs.slot t
  rw [show (⟨lk l, mkM m⟩ : St).F t = .dv (.list []) from h0] at hv
  simp only [SVRep] at hv
  have he : ∃ ad cap, a.tmps.getD t undef = .slice ad 0 cap := by
    generalize a.tmps.getD t undef = v at hv
    cases hv with
    | listNil ad cap => exact ⟨ad, cap, rfl⟩
    | list _ b off cap esz u h1 h2 h3 h4 h5 h6 => exact ⟨_, cap, rfl⟩
  obtain ⟨ad, cap, he⟩ := he
  refine h ad.isNone a w ⟨μ, ⟨hs.blk, fun i => ?_, hs.place, hs.uniq, hs.anc, hs.below, hs.size, hs.defers⟩⟩
  show SVRep w (mkM m) μ _ (lk ((t, .emp ad.isNone) :: l) i) _
  simp only [lk]
  split
  · rename_i e
    subst e
    rw [he]
    simp only [SVRep]
    exact ⟨ad, cap, rfl, rfl⟩
  · exact hs.slot i

/-- An owned block is written no more. -/
theorem Le.freeze {t g : Nat} {b : Blk} (h0 : S.M t = (g, some b)) (hst : OwS b.st ∨ b.st = 1) : Le cx S ⟨S.F, upd S.M t (g, some { b with st := 1 })⟩ := by
  rintro a w ⟨μ, h⟩
  exact ⟨μ, frz_sim h [t] S.M _ h (by simp [frz, h0, hst])⟩

end
end Go.Ab
