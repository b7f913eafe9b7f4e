/- The abstract layer, part 4: a slot value read as plain data; what may be forgotten. -/
import Derived.Test.YtjlfgobbieljoaaAb3
namespace Go.Ab
open Go.RowKit

/-- The slot value reads as the datum. ok: which blocks may be looked into; okd: which data may be taken as they are. -/
inductive Data (ok : Nat → Prop) (okd : DV → Prop) (M : Nat → Nat × Option Blk) : SV → DV → Prop
  | dv (d : DV) : okd d → Data ok okd M (.dv d) d
  | nils : Data ok okd M .nils (.list [])
  | emp (b : Bool) : Data ok okd M (.emp b) (.list [])
  | sl (t g off n : Nat) (blk : Blk) (l : List DV) (s : Nat → SV) : M t = (g, some blk) → ok blk.st → l.length = n → (∀ d ∈ l, d.cells.length = blk.esz) →
      (∀ j c, (flat l)[j]? = some c → blk.cells[off * blk.esz + j]? = some (s j)) → (∀ j c, (flat l)[j]? = some c → Data ok okd M (s j) c) → Data ok okd M (.sl t g off n) (.list l)
  | pt (t g off : Nat) (blk : Blk) (cs : List DV) (s : Nat → SV) : M t = (g, some blk) → ok blk.st →
      (∀ j c, cs[j]? = some c → blk.cells[off + j]? = some (s j)) → (∀ j c, cs[j]? = some c → Data ok okd M (s j) c) → Data ok okd M (.pt t g off) (.cptr cs)
  | agg (ss : List SV) (ds : List DV) : ss.length = ds.length → (∀ (j : Nat) s c, ss[j]? = some s → ds[j]? = some c → Data ok okd M s c) → Data ok okd M (.agg ss) (.agg ds)

/-- Data that hold no memory at all. -/
inductive Scalar : DV → Prop
  | bool (b : Bool) : Scalar (.bool b)
  | int (k : IntKind) (n : Int) : Scalar (.int k n)
  | str (s : ByteArray) : Scalar (.str s)
  | nilptr : Scalar .nilptr
  | nilfn : Scalar .nilfn
  | nilIface : Scalar .nilIface
  | iface (t : TypeId) (d : DV) : Scalar d → Scalar (.iface t d)
  | agg (cs : List DV) : (∀ c ∈ cs, Scalar c) → Scalar (.agg cs)
  | fn (f : FuncId) (pre caps : List DV) : (∀ c ∈ pre, Scalar c) → (∀ c ∈ caps, Scalar c) → Scalar (.fn f pre caps)

theorem Scalar.rep {w w' : World} {X X' : Nat → Prop} {d : DV} {v : Value} (h : Scalar d) (hr : RepD w X d v) : RepD w' X' d v := by
  induction h generalizing v with
  | bool b => cases hr; exact .bool b
  | int k n => cases hr; exact .int k n
  | str s => cases hr; exact .str s
  | nilptr => cases hr; exact .nilptr
  | nilfn => cases hr; exact .nilfn
  | nilIface => cases hr; exact .nilIface
  | iface t d _ ih => cases hr with | iface _ _ v' h' => exact .iface t d v' (ih h')
  | agg cs _ ih =>
    cases hr with
    | agg _ vs hsz hc => exact .agg cs vs hsz fun j c hj => ih c (List.mem_of_getElem? hj) (hc j c hj)
  | fn f pre caps _ _ ih1 ih2 =>
    cases hr with
    | fn _ _ _ vp vc h1 h2 h3 h4 => exact .fn f pre caps vp vc h1 h2 (fun j c hj => ih1 c (List.mem_of_getElem? hj) (h3 j c hj)) fun j c hj => ih2 c (List.mem_of_getElem? hj) (h4 j c hj)

theorem svreps_arr {w : World} {M : Nat → Nat × Option Blk} {μ : Nat → Option (Nat × Nat)} {X : Nat → Prop} {cs : List SV} {vs : List Value} (h : SVReps w M μ X cs vs) :
    vs.length = cs.length ∧ ∀ (j : Nat) c, cs[j]? = some c → SVRep w M μ X c (vs.toArray.getD j undef) := by
  refine ⟨h.length, fun j c hc => ?_⟩
  have hj : j < vs.length := by have := h.length; have := (List.getElem?_eq_some_iff.1 hc).1; omega
  have : vs.toArray.getD j undef = vs[j] := by simp [Array.getD, hj]
  rw [this]
  exact h.get j c _ hc (by simp [hj])

/-- The relation's general use: every block that is looked into lies where μ says. -/
theorem Data.rep {cx : Cx} {S : St} {a : Act} {w : World} {μ : Nat → Option (Nat × Nat)} (h : SimU cx S a w μ) {ok : Nat → Prop} {okd : DV → Prop} {Y : Nat → Prop}
    (hY : ∀ t g blk b cap, S.M t = (g, some blk) → ok blk.st → μ t = some (b, cap) → ¬ Y b)
    (hd : ∀ d v, okd d → RepD w (XX cx S.M μ) d v → RepD w Y d v) {s : SV} {d : DV} (hD : Data ok okd S.M s d) : ∀ v, SVRep w S.M μ (XX cx S.M μ) s v → RepD w Y d v := by
  induction hD with
  | dv d hok => intro v hv; simp only [SVRep] at hv; exact hd d v hok hv
  | nils => intro v hv; simp only [SVRep] at hv; subst hv; exact .listNil _ _
  | emp b => intro v hv; simp only [SVRep] at hv; obtain ⟨a, cap, rfl, _⟩ := hv; exact .listNil _ _
  | sl t g off n blk l s e hst hn he hc _ ih =>
    intro v hv
    simp only [SVRep] at hv
    have hv := hv.2 blk e
    have hb := h.blk t g blk e
    unfold BlkRep at hb
    cases hm : μ t with
    | none =>
      rw [hm] at hv
      simp only at hv
      obtain ⟨rfl, rfl, rfl⟩ := hv
      have : l = [] := List.eq_nil_of_length_eq_zero hn
      subst this
      exact .listNil _ _
    | some p =>
      obtain ⟨b, cap⟩ := p
      rw [hm] at hv hb
      simp only at hv hb
      obtain ⟨rfl, hcap⟩ := hv
      obtain ⟨cur, q1, q2, q3, _, _⟩ := hb
      subst hn
      have hx : ∀ j c, (flat l)[j]? = some c → ∃ u, cur[off * blk.esz + j]? = some u := fun j c hj => by
        have h1 := hc j c hj
        have h2 := (List.getElem?_eq_some_iff.1 h1).1
        have h3 : off * blk.esz + j < cur.size := by omega
        exact ⟨cur[off * blk.esz + j], by simp [h3]⟩
      refine .list l b (off * blk.esz) (cap - off) blk.esz (fun j => cur.getD (off * blk.esz + j) undef) (hY t g blk b cap e hst hm) (h.place t g blk b cap e hm).2 (by omega) he ?_ ?_
      · intro j c hj
        obtain ⟨u, hu⟩ := hx j c hj
        simp [World.cell?, q1, hu]
      · intro j c hj
        obtain ⟨u, hu⟩ := hx j c hj
        have hg : cur.getD (off * blk.esz + j) undef = u := by simp [hu]
        rw [hg]
        exact ih j c hj u (q3 _ _ u (hc j c hj) hu)
  | pt t g off blk cs s e hst hc _ ih =>
    intro v hv
    simp only [SVRep] at hv
    obtain ⟨b, cap, hm, rfl⟩ := hv.2 blk e
    have hb := h.blk t g blk e
    unfold BlkRep at hb
    rw [hm] at hb
    simp only at hb
    obtain ⟨cur, q1, q2, q3, _, _⟩ := hb
    have hx : ∀ j c, cs[j]? = some c → ∃ u, cur[off + j]? = some u := fun j c hj => by
      have h1 := hc j c hj
      have h2 := (List.getElem?_eq_some_iff.1 h1).1
      have h3 : off + j < cur.size := by omega
      exact ⟨cur[off + j], by simp [h3]⟩
    refine .cptr cs b off (fun j => cur.getD (off + j) undef) (hY t g blk b cap e hst hm) (h.place t g blk b cap e hm).2 ?_ ?_
    · intro j c hj
      obtain ⟨u, hu⟩ := hx j c hj
      simp [World.cell?, q1, hu]
    · intro j c hj
      obtain ⟨u, hu⟩ := hx j c hj
      have hg : cur.getD (off + j) undef = u := by simp [hu]
      rw [hg]
      exact ih j c hj u (q3 _ _ u (hc j c hj) hu)
  | agg ss ds hl _ ih =>
    intro v hv
    simp only [SVRep] at hv
    obtain ⟨vs, rfl, hvs⟩ := hv
    obtain ⟨h1, h2⟩ := svreps_arr hvs
    refine .agg ds vs.toArray (by simp; omega) fun j c hj => ?_
    have hj' : j < ss.length := by have := (List.getElem?_eq_some_iff.1 hj).1; omega
    exact ih j ss[j] c (by simp [hj']) hj _ (h2 j _ (by simp [hj']))

/-- Borrowed: for a callee that keeps nothing of it. -/
abbrev Borrow := Data (fun _ => True) (fun _ => True)
/-- For good: nobody will write it any more. -/
abbrev Lasting := Data (fun st => st = 1) (fun _ => True)
/-- In memory of the call's own, or in none. -/
abbrev Fresh := Data (fun _ => True) Scalar

theorem Borrow.rep {cx : Cx} {S : St} {a : Act} {w : World} {μ : Nat → Option (Nat × Nat)} (h : SimU cx S a w μ) {s : SV} {d : DV} (hD : Borrow S.M s d) {v : Value}
    (hv : SVRep w S.M μ (XX cx S.M μ) s v) : RepD w (fun _ => False) d v :=
  Data.rep h (Y := fun _ => False) (fun _ _ _ _ _ _ _ _ h => h) (fun _ _ _ hr => hr.weaken (fun _ h => h.elim)) hD v hv

theorem Lasting.rep {cx : Cx} (hg : cx.Good) {S : St} {a : Act} {w : World} {μ : Nat → Option (Nat × Nat)} (h : SimU cx S a w μ) {s : SV} {d : DV} (hD : Lasting S.M s d) {v : Value}
    (hv : SVRep w S.M μ (XX cx S.M μ) s v) : RepD w (XX cx S.M μ) d v :=
  Data.rep h (Y := XX cx S.M μ) (fun t g blk b cap e hst hm hx => by
    rcases hx with ⟨t', g', blk', cap', e', hst', hm'⟩ | hx
    · have hne : t' ≠ t := fun ht => by subst ht; rw [e] at e'; simp only [Prod.mk.injEq, Option.some.injEq] at e'; obtain ⟨_, rfl⟩ := e'; unfold OwS at hst'; omega
      have := (h.uniq t' g' blk' t g blk b cap' cap hne e' e hst' hm' hm).1
      omega
    · have := (h.place t g blk b cap e hm).1
      have h0 := hg b hx
      rcases this with h1 | h1
      · omega
      · exact h0.2 h1) (fun _ _ _ hr => hr) hD v hv

theorem Fresh.rep {cx : Cx} {S : St} {a : Act} {w : World} {μ : Nat → Option (Nat × Nat)} (h : SimU cx S a w μ) (hW : ∀ b, ¬ cx.Wr b) {s : SV} {d : DV} (hD : Fresh S.M s d) {v : Value}
    (hv : SVRep w S.M μ (XX cx S.M μ) s v) : RepD w (fun b => b < cx.w0.heap.size) d v :=
  Data.rep h (Y := fun b => b < cx.w0.heap.size) (fun t g blk b cap e _ hm hx => by
    rcases (h.place t g blk b cap e hm).1 with h1 | h1
    · omega
    · exact hW b h1) (fun _ _ hs hr => hs.rep hr) hD v hv

/-- Forgetting slots and blocks. -/
theorem SimU.weak {cx : Cx} {S S' : St} {a : Act} {w : World} {μ : Nat → Option (Nat × Nat)} (h : SimU cx S a w μ)
    (hF : ∀ i, S'.F i = .dead ∨ S'.F i = S.F i) (hM : ∀ t, S'.M t = S.M t ∨ S'.M t = ((S.M t).1, none)) : SimU cx S' a w μ := by
  have hM1 : ∀ t g blk, S'.M t = (g, some blk) → S.M t = (g, some blk) := fun t g blk e => by
    rcases hM t with h1 | h1
    · rw [← h1]; exact e
    · rw [h1] at e; simp at e
  have hg : ∀ t, (S.M t).1 ≤ (S'.M t).1 := fun t => by
    rcases hM t with h1 | h1 <;> rw [h1] <;> exact Nat.le_refl _
  have hown : ∀ b, Own S'.M μ b → Own S.M μ b := by
    rintro b ⟨t, g, blk, cap, e1, e2, e3⟩
    exact ⟨t, g, blk, cap, hM1 t g blk e1, e2, e3⟩
  have hk : ∀ b, b < w.heap.size → ¬ XX cx S.M μ b → w.heap[b]? = w.heap[b]? ∧ ¬ XX cx S'.M μ b := fun b _ hx => ⟨rfl, fun ho => hx (ho.imp (hown b) id)⟩
  have hB : ∀ t g blk', S'.M t = (g, some blk') → g ≤ (S.M t).1 → ∃ blk, S.M t = (g, some blk) ∧ μ t = μ t ∧ blk'.esz = blk.esz := fun t g blk' e _ => ⟨blk', hM1 t g blk' e, rfl, rfl⟩
  exact {
    blk := fun t g blk e => (h.blk t g blk (hM1 t g blk e)).mono (st := blk.st) (Nat.le_refl _) hk hg hB rfl (fun _ _ _ => rfl)
    slot := fun i => by
      rcases hF i with h1 | h1
      · rw [h1]; trivial
      · rw [h1]; exact SVRep.mono (Nat.le_refl _) hk hg hB _ _ (h.slot i)
    place := fun t g blk b cap e hm => h.place t g blk b cap (hM1 t g blk e) hm
    uniq := fun t g blk t' g' blk' b cap cap' hne e e' => h.uniq t g blk t' g' blk' b cap cap' hne (hM1 t g blk e) (hM1 t' g' blk' e')
    anc := fun t g blk e h3 => h.anc t g blk (hM1 t g blk e) h3
    below := h.below
    size := h.size
    defers := h.defers }

/-- What a slot holds may be said otherwise. -/
theorem SimU.reslot {cx : Cx} {S : St} {a : Act} {w : World} {μ : Nat → Option (Nat × Nat)} (h : SimU cx S a w μ) (i : Nat) (r : SV)
    (hr : ∀ v, SVRep w S.M μ (XX cx S.M μ) (S.F i) v → SVRep w S.M μ (XX cx S.M μ) r v) : SimU cx { S with F := upd S.F i r } a w μ :=
  { h with
    slot := fun j => by
      show SVRep w S.M μ _ (upd S.F i r j) _
      by_cases hj : j = i
      · subst hj; rw [upd_same]; exact hr _ (h.slot j)
      · rw [upd_ne _ _ _ _ hj]; exact h.slot j }

/-- The nil slice as an empty row that can grow. -/
theorem SimU.virt {cx : Cx} {S : St} {a : Act} {w : World} {μ : Nat → Option (Nat × Nat)} (h : SimU cx S a w μ) (t esz : Nat) (elem : TypeId) :
    SimU cx { S with M := upd S.M t ((S.M t).1 + 1, some ⟨[], esz, elem, 0, true⟩) } a w (upd μ t none) := by
  have hown : ∀ b, Own (upd S.M t ((S.M t).1 + 1, some ⟨[], esz, elem, 0, true⟩)) (upd μ t none) b → Own S.M μ b := by
    rintro b ⟨t', g', blk', cap', e1, e2, e3⟩
    by_cases ht : t' = t
    · subst ht; rw [upd_same] at e3; cases e3
    · rw [upd_ne _ _ _ _ ht] at e1 e3; exact ⟨t', g', blk', cap', e1, e2, e3⟩
  have hk : ∀ b, b < w.heap.size → ¬ XX cx S.M μ b → w.heap[b]? = w.heap[b]? ∧ ¬ XX cx (upd S.M t ((S.M t).1 + 1, some ⟨[], esz, elem, 0, true⟩)) (upd μ t none) b :=
    fun b _ hx => ⟨rfl, fun ho => hx (ho.imp (hown b) id)⟩
  have hM : ∀ t', (S.M t').1 ≤ (upd S.M t ((S.M t).1 + 1, some ⟨[], esz, elem, 0, true⟩) t').1 := fun t' => by
    by_cases ht : t' = t
    · subst ht; rw [upd_same]; exact Nat.le_succ _
    · rw [upd_ne _ _ _ _ ht]; exact Nat.le_refl _
  have hB : ∀ t' g blk', upd S.M t ((S.M t).1 + 1, some ⟨[], esz, elem, 0, true⟩) t' = (g, some blk') → g ≤ (S.M t').1 →
      ∃ blk, S.M t' = (g, some blk) ∧ upd μ t none t' = μ t' ∧ blk'.esz = blk.esz := fun t' g blk' e hg => by
    by_cases ht : t' = t
    · subst ht; rw [upd_same] at e; simp at e; omega
    · rw [upd_ne _ _ _ _ ht] at e ⊢; exact ⟨blk', e, rfl, rfl⟩
  refine { blk := ?_, slot := ?_, place := ?_, uniq := ?_, anc := ?anc, below := h.below, size := h.size, defers := h.defers }
  case anc =>
    intro t' g' blk' e h3
    by_cases ht : t' = t
    · subst ht
      simp only [upd_same, Prod.mk.injEq, Option.some.injEq] at e
      obtain ⟨_, rfl⟩ := e
      simp at h3
    · rw [upd_ne _ _ _ _ ht]
      simp only [upd_ne _ _ _ _ ht] at e
      exact h.anc t' g' blk' e h3
  · intro t' g blk' e
    by_cases ht : t' = t
    · subst ht
      simp only [upd_same, Prod.mk.injEq, Option.some.injEq] at e
      obtain ⟨_, rfl⟩ := e
      unfold BlkRep
      rw [upd_same]
      exact ⟨rfl, rfl⟩
    · simp only [upd_ne _ _ _ _ ht] at e
      exact (h.blk t' g blk' e).mono (st := blk'.st) (Nat.le_refl _) hk hM hB (upd_ne _ _ _ _ ht) (fun _ _ _ => rfl)
  · exact fun i => SVRep.mono (Nat.le_refl _) hk hM hB _ _ (h.slot i)
  · intro t' g blk' b cap' e hm
    by_cases ht : t' = t
    · subst ht; rw [upd_same] at hm; cases hm
    · simp only [upd_ne _ _ _ _ ht] at e hm; exact h.place _ _ _ _ _ e hm
  · intro t1 g1 b1 t2 g2 b2 b c1 c2 hne e1 e2 s1 m1 m2
    by_cases h1 : t1 = t
    · subst h1; rw [upd_same] at m1; cases m1
    · by_cases h2 : t2 = t
      · subst h2; rw [upd_same] at m2; cases m2
      · simp only [upd_ne _ _ _ _ h1] at e1 m1
        simp only [upd_ne _ _ _ _ h2] at e2 m2
        exact h.uniq t1 g1 b1 t2 g2 b2 b c1 c2 hne e1 e2 s1 m1 m2

end Go.Ab
