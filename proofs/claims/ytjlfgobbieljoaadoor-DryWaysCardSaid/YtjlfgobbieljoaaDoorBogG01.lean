/- Ab0, Ab1, Ab2, Ab3. -/
import Derived.WalkKit
import Derived.WalkSpells
import Derived.WalkLawsBesides
set_option linter.all false
namespace Go.Ab
def laidTab : List (Nat × List (Value → Prop)) := []
end Go.Ab
namespace Go.Ab
open Go.RowKit
inductive DV where
  | bool (b : Bool)
  | int (k : IntKind) (n : Int)
  | str (s : ByteArray)
  | list (l : List DV)
  | agg (cs : List DV)
  | cptr (cs : List DV)
  | nilptr
  | fn (f : FuncId) (pre caps : List DV)
  | nilfn
  | iface (t : TypeId) (d : DV)
  | nilIface
  deriving Inhabited
def DV.cells : DV → List DV
  | .agg cs => cs
  | d => [d]
def flat (l : List DV) : List DV := l.flatMap DV.cells
inductive SV where
  | dead
  | dv (d : DV)
  | nils
  | emp (b : Bool)
  | sl (t g off n : Nat)
  | pt (t g off : Nat)
  | agg (cs : List SV)
  | tup (cs : List SV)
  | val (v : Value)
  deriving Inhabited
structure Blk where
  cells : List SV
  esz : Nat
  elem : TypeId
  st : Nat
  row : Bool
def OwS (s : Nat) : Prop := s = 0 ∨ 3 ≤ s
instance (s : Nat) : Decidable (OwS s) := by unfold OwS; infer_instance
theorem owS0 : OwS 0 := .inl rfl
structure St where
  F : Nat → SV
  M : Nat → Nat × Option Blk
def upd {α : Type} (f : Nat → α) (i : Nat) (v : α) : Nat → α := fun j => if j = i then v else f j
theorem upd_same {α : Type} (f : Nat → α) (i : Nat) (v : α) : upd f i v i = v := by simp [upd]
theorem upd_ne {α : Type} (f : Nat → α) (i j : Nat) (v : α) (h : j ≠ i) : upd f i v j = f j := by simp [upd, h]
inductive RepD (w : World) (X : Nat → Prop) : DV → Value → Prop
  | bool (b : Bool) : RepD w X (.bool b) (.bool b)
  | int (k : IntKind) (n : Int) : RepD w X (.int k n) (.int k n)
  | str (s : ByteArray) : RepD w X (.str s) (.string s)
  | nilptr : RepD w X .nilptr (.pointer none)
  | nilfn : RepD w X .nilfn .nilFunc
  | nilIface : RepD w X .nilIface .nilIface
  | iface (t : TypeId) (d : DV) (v : Value) : RepD w X d v → RepD w X (.iface t d) (.iface t v)
  | listNil (a : Option Addr) (cap : Nat) : RepD w X (.list []) (.slice a 0 cap)
  | list (l : List DV) (b off cap esz : Nat) (u : Nat → Value) : ¬ X b → b < w.heap.size → l.length ≤ cap → (∀ d ∈ l, d.cells.length = esz) →
      (∀ j c, (flat l)[j]? = some c → w.cell? ⟨b, off + j, none⟩ = some (u j)) →
      (∀ j c, (flat l)[j]? = some c → RepD w X c (u j)) → RepD w X (.list l) (.slice (some ⟨b, off, none⟩) l.length cap)
  | agg (cs : List DV) (vs : Array Value) : vs.size = cs.length →
      (∀ j c, cs[j]? = some c → RepD w X c (vs.getD j undef)) → RepD w X (.agg cs) (.agg vs)
  | cptr (cs : List DV) (b off : Nat) (u : Nat → Value) : ¬ X b → b < w.heap.size →
      (∀ j c, cs[j]? = some c → w.cell? ⟨b, off + j, none⟩ = some (u j)) →
      (∀ j c, cs[j]? = some c → RepD w X c (u j)) → RepD w X (.cptr cs) (.pointer (some ⟨b, off, none⟩))
  | fn (f : FuncId) (pre caps : List DV) (vp vc : Array Value) : vp.size = pre.length → vc.size = caps.length →
      (∀ j c, pre[j]? = some c → RepD w X c (vp.getD j undef)) →
      (∀ j c, caps[j]? = some c → RepD w X c (vc.getD j undef)) → RepD w X (.fn f pre caps) (.func (.func f) vp vc)
theorem cell_of_heap {w w' : World} {b o : Nat} (h : w'.heap[b]? = w.heap[b]?) : w'.cell? ⟨b, o, none⟩ = w.cell? ⟨b, o, none⟩ := by
  simp [World.cell?, h]
theorem RepD.mono {w w' : World} {X X' : Nat → Prop} (hs : w.heap.size ≤ w'.heap.size)
    (hk : ∀ b, b < w.heap.size → ¬ X b → w'.heap[b]? = w.heap[b]? ∧ ¬ X' b) {d : DV} {v : Value} (h : RepD w X d v) : RepD w' X' d v := by
  induction h with
  | bool b => exact .bool b
  | int k n => exact .int k n
  | str s => exact .str s
  | nilptr => exact .nilptr
  | nilfn => exact .nilfn
  | nilIface => exact .nilIface
  | iface t d v _ ih => exact .iface t d v ih
  | listNil a cap => exact .listNil a cap
  | list l b off cap esz u hx hb hcap he hc _ ih =>
    obtain ⟨h1, h2⟩ := hk b hb hx
    exact .list l b off cap esz u h2 (Nat.lt_of_lt_of_le hb hs) hcap he (fun j c hj => by rw [cell_of_heap h1]; exact hc j c hj) ih
  | agg cs vs hsz _ ih => exact .agg cs vs hsz ih
  | cptr cs b off u hx hb hc _ ih =>
    obtain ⟨h1, h2⟩ := hk b hb hx
    exact .cptr cs b off u h2 (Nat.lt_of_lt_of_le hb hs) (fun j c hj => by rw [cell_of_heap h1]; exact hc j c hj) ih
  | fn f pre caps vp vc h1 h2 _ _ ih1 ih2 => exact .fn f pre caps vp vc h1 h2 ih1 ih2
theorem RepD.weaken {w : World} {X X' : Nat → Prop} (hX : ∀ b, X' b → X b) {d : DV} {v : Value} (h : RepD w X d v) : RepD w X' d v :=
  h.mono (Nat.le_refl _) (fun b _ hb => ⟨rfl, fun h' => hb (hX b h')⟩)
mutual
def SVRep (w : World) (M : Nat → Nat × Option Blk) (μ : Nat → Option (Nat × Nat)) (X : Nat → Prop) : SV → Value → Prop
  | .dead, _ => True
  | .dv d, v => RepD w X d v
  | .nils, v => v = .slice none 0 0
  | .emp b, v => ∃ a cap, v = .slice a 0 cap ∧ a.isNone = b
  | .sl t g off n, v => (v.oneCell' = true ∧ g ≤ (M t).1) ∧ ∀ blk, M t = (g, some blk) →
      match μ t with
      | none => v = .slice none 0 0 ∧ n = 0 ∧ off = 0
      | some (b, cap) => v = .slice (some ⟨b, off * blk.esz, none⟩) n (cap - off) ∧ off + n ≤ cap
  | .pt t g off, v => (v.oneCell' = true ∧ g ≤ (M t).1) ∧ ∀ blk, M t = (g, some blk) → ∃ b cap, μ t = some (b, cap) ∧ v = .pointer (some ⟨b, off, none⟩)
  | .agg cs, v => ∃ vs : List Value, v = .agg vs.toArray ∧ SVReps w M μ X cs vs
  | .tup cs, v => ∃ vs : List Value, v = .tuple vs.toArray ∧ SVReps w M μ X cs vs
  | .val u, v => v = u
def SVReps (w : World) (M : Nat → Nat × Option Blk) (μ : Nat → Option (Nat × Nat)) (X : Nat → Prop) : List SV → List Value → Prop
  | [], [] => True
  | c :: cs, v :: vs => SVRep w M μ X c v ∧ SVReps w M μ X cs vs
  | _, _ => False
end
def Own (M : Nat → Nat × Option Blk) (μ : Nat → Option (Nat × Nat)) (b : Nat) : Prop :=
  ∃ t g blk cap, M t = (g, some blk) ∧ OwS blk.st ∧ μ t = some (b, cap)
def BlkRep (w : World) (M : Nat → Nat × Option Blk) (μ : Nat → Option (Nat × Nat)) (X : Nat → Prop) (t : Nat) (blk : Blk) : Prop :=
  match μ t with
  | none => blk.cells = [] ∧ blk.row = true
  | some (b, cap) => ∃ cur, w.heap[b]? = some (.cells cur blk.elem (0, 0)) ∧ blk.cells.length ≤ cur.size ∧
      (∀ (j : Nat) c u, blk.cells[j]? = some c → cur[j]? = some u → SVRep w M μ X c u) ∧
      (blk.row = true → cur.size = cap * blk.esz ∧ cap ≤ maxLen) ∧ (blk.row = false → blk.cells.length = cur.size)
structure Cx where
  P : Program
  w0 : World
  n : Nat
  Wr : Nat → Prop
  X0 : Nat → Prop
  loc : Nat → Option (Nat × Nat) := fun _ => none
  rnd : Option Nat := none
  dq : List Deferred := []
  fin : Act → World → Prop := fun _ _ => False
structure BelowW (Wr : Nat → Prop) (w w' : World) : Prop where
  os : w'.os = w.os
  tape : w'.tape = w.tape
  output : w'.output = w.output
  size : w.heap.size ≤ w'.heap.size
  block : ∀ k, k < w.heap.size → ¬ Wr k → w'.heap[k]? = w.heap[k]?
theorem BelowW.refl (Wr : Nat → Prop) (w : World) : BelowW Wr w w := ⟨rfl, rfl, rfl, Nat.le_refl _, fun _ _ _ => rfl⟩
theorem BelowW.trans {Wr : Nat → Prop} {a b c : World} (h : BelowW Wr a b) (k : BelowW Wr b c) : BelowW Wr a c :=
  ⟨k.os.trans h.os, k.tape.trans h.tape, k.output.trans h.output, Nat.le_trans h.size k.size, fun i hi hw => (k.block i (Nat.lt_of_lt_of_le hi h.size) hw).trans (h.block i hi hw)⟩
theorem BelowW.then {Wr Wr' : Nat → Prop} {a b c : World} (h : BelowW Wr a b) (k : BelowW Wr' b c) (hw : ∀ i, i < a.heap.size → ¬ Wr i → ¬ Wr' i) : BelowW Wr a c :=
  ⟨k.os.trans h.os, k.tape.trans h.tape, k.output.trans h.output, Nat.le_trans h.size k.size, fun i hi hi' => (k.block i (Nat.lt_of_lt_of_le hi h.size) (hw i hi hi')).trans (h.block i hi hi')⟩
def XX (cx : Cx) (M : Nat → Nat × Option Blk) (μ : Nat → Option (Nat × Nat)) (b : Nat) : Prop := Own M μ b ∨ cx.X0 b
structure SimU (cx : Cx) (S : St) (a : Act) (w : World) (μ : Nat → Option (Nat × Nat)) : Prop where
  blk : ∀ t g blk, S.M t = (g, some blk) → BlkRep w S.M μ (XX cx S.M μ) t blk
  slot : ∀ i, SVRep w S.M μ (XX cx S.M μ) (S.F i) (a.tmps.getD i undef)
  place : ∀ t g blk b cap, S.M t = (g, some blk) → μ t = some (b, cap) → (cx.w0.heap.size ≤ b ∨ cx.Wr b) ∧ b < w.heap.size
  uniq : ∀ t g blk t' g' blk' b cap cap', t ≠ t' → S.M t = (g, some blk) → S.M t' = (g', some blk') → OwS blk.st → μ t = some (b, cap) → μ t' = some (b, cap') → blk'.st = 2 ∧ blk'.cells.length ≤ blk.cells.length
  anc : ∀ t g blk, S.M t = (g, some blk) → 3 ≤ blk.st → μ t = cx.loc (blk.st - 3)
  below : BelowW cx.Wr cx.w0 w
  size : a.tmps.size = cx.n
  defers : a.defers = cx.dq
def Laid (w : World) : Prop := ∀ p ∈ laidTab, (∃ cur t, w.heap[p.1]? = some (.cells cur t (0, 0))) ∧ ∀ (j : Nat) C, p.2[j]? = some C → ∃ v, w.cell? ⟨p.1, j, none⟩ = some v ∧ C v
def laidK (g : Nat) : Prop := ∃ p ∈ laidTab, p.1 = g
theorem Laid.lt {w : World} (h : Laid w) {g : Nat} (hg : laidK g) : g < w.heap.size := by
  obtain ⟨p, hp, rfl⟩ := hg
  obtain ⟨⟨cur, t, hc⟩, _⟩ := h p hp
  exact (Array.getElem?_eq_some_iff.1 hc).1
theorem Laid.keep {w w' : World} (h : Laid w) (hk : ∀ g, laidK g → w'.heap[g]? = w.heap[g]?) : Laid w' := by
  intro p hp
  have e := hk p.1 ⟨p, hp, rfl⟩
  refine ⟨by rw [e]; exact (h p hp).1, fun j C hC => ?_⟩
  rw [cell_of_heap e]
  exact (h p hp).2 j C hC
def Cx.Good (cx : Cx) : Prop := (∀ b, cx.X0 b → b < cx.w0.heap.size ∧ ¬ cx.Wr b) ∧ Laid cx.w0 ∧ ∀ g, laidK g → ¬ cx.X0 g ∧ ¬ cx.Wr g
theorem SimU.laid {cx : Cx} (hg : cx.Good) {S : St} {a : Act} {w : World} {μ : Nat → Option (Nat × Nat)} (h : SimU cx S a w μ) : Laid w ∧ ∀ g, laidK g → ¬ XX cx S.M μ g := by
  refine ⟨hg.2.1.keep fun g hk => h.below.block g (hg.2.1.lt hk) (hg.2.2 g hk).2, fun g hk hx => ?_⟩
  rcases hx with ⟨t, g', blk, cap, e1, _, e3⟩ | hx
  · rcases (h.place t g' blk g cap e1 e3).1 with h1 | h1
    · have := hg.2.1.lt hk; omega
    · exact (hg.2.2 g hk).2 h1
  · exact (hg.2.2 g hk).1 hx
def Sim (cx : Cx) (S : St) (a : Act) (w : World) : Prop := ∃ μ, SimU cx S a w μ
end Go.Ab
namespace Go.Ab
open Go.RowKit
mutual
theorem SVRep.mono {w w' : World} {M M' : Nat → Nat × Option Blk} {μ μ' : Nat → Option (Nat × Nat)} {X X' : Nat → Prop}
    (hs : w.heap.size ≤ w'.heap.size) (hk : ∀ b, b < w.heap.size → ¬ X b → w'.heap[b]? = w.heap[b]? ∧ ¬ X' b)
    (hM : ∀ t, (M t).1 ≤ (M' t).1)
    (hB : ∀ t g blk', M' t = (g, some blk') → g ≤ (M t).1 → ∃ blk, M t = (g, some blk) ∧ μ' t = μ t ∧ blk'.esz = blk.esz) :
    ∀ (c : SV) (v : Value), SVRep w M μ X c v → SVRep w' M' μ' X' c v
  | .dead, _, _ => trivial
  | .dv _, _, h => by
    simp only [SVRep] at h ⊢
    exact h.mono hs hk
  | .nils, _, h => by
    simp only [SVRep] at h ⊢
    exact h
  | .emp b, v, h => by
    simp only [SVRep] at h ⊢
    exact h
  | .sl t g off n, v, h => by
    simp only [SVRep] at h ⊢
    refine ⟨⟨h.1.1, Nat.le_trans h.1.2 (hM t)⟩, fun blk' hb' => ?_⟩
    obtain ⟨blk, hb, hmu, hez⟩ := hB t g blk' hb' h.1.2
    have := h.2 blk hb
    rw [hmu, hez]
    exact this
  | .pt t g off, v, h => by
    simp only [SVRep] at h ⊢
    refine ⟨⟨h.1.1, Nat.le_trans h.1.2 (hM t)⟩, fun blk' hb' => ?_⟩
    obtain ⟨blk, hb, hmu, hez⟩ := hB t g blk' hb' h.1.2
    have := h.2 blk hb
    rw [hmu]
    exact this
  | .agg cs, v, h => by
    simp only [SVRep] at h ⊢
    obtain ⟨vs, rfl, hv⟩ := h
    exact ⟨vs, rfl, SVReps.mono hs hk hM hB cs vs hv⟩
  | .tup cs, v, h => by
    simp only [SVRep] at h ⊢
    obtain ⟨vs, rfl, hv⟩ := h
    exact ⟨vs, rfl, SVReps.mono hs hk hM hB cs vs hv⟩
  | .val u, v, h => by simpa only [SVRep] using h
theorem SVReps.mono {w w' : World} {M M' : Nat → Nat × Option Blk} {μ μ' : Nat → Option (Nat × Nat)} {X X' : Nat → Prop}
    (hs : w.heap.size ≤ w'.heap.size) (hk : ∀ b, b < w.heap.size → ¬ X b → w'.heap[b]? = w.heap[b]? ∧ ¬ X' b)
    (hM : ∀ t, (M t).1 ≤ (M' t).1)
    (hB : ∀ t g blk', M' t = (g, some blk') → g ≤ (M t).1 → ∃ blk, M t = (g, some blk) ∧ μ' t = μ t ∧ blk'.esz = blk.esz) :
    ∀ (cs : List SV) (vs : List Value), SVReps w M μ X cs vs → SVReps w' M' μ' X' cs vs
  | [], [], _ => trivial
  | [], _ :: _, h => by simp only [SVReps] at h
  | _ :: _, [], h => by simp only [SVReps] at h
  | c :: cs, v :: vs, h => by
    simp only [SVReps] at h ⊢
    exact ⟨SVRep.mono hs hk hM hB c v h.1, SVReps.mono hs hk hM hB cs vs h.2⟩
end
theorem SVReps.length {w : World} {M : Nat → Nat × Option Blk} {μ : Nat → Option (Nat × Nat)} {X : Nat → Prop} :
    ∀ {cs : List SV} {vs : List Value}, SVReps w M μ X cs vs → vs.length = cs.length
  | [], [], _ => rfl
  | [], _ :: _, h => by simp only [SVReps] at h
  | _ :: _, [], h => by simp only [SVReps] at h
  | _ :: cs, _ :: vs, h => by
    simp only [SVReps] at h
    simp [SVReps.length h.2]
theorem SVReps.get {w : World} {M : Nat → Nat × Option Blk} {μ : Nat → Option (Nat × Nat)} {X : Nat → Prop} :
    ∀ {cs : List SV} {vs : List Value}, SVReps w M μ X cs vs → ∀ (j : Nat) c v, cs[j]? = some c → vs[j]? = some v → SVRep w M μ X c v
  | [], _, _, j, c, v, hc, _ => by simp at hc
  | _ :: _, [], h, _, _, _, _, _ => by simp only [SVReps] at h
  | c0 :: cs, v0 :: vs, h, j, c, v, hc, hv => by
    simp only [SVReps] at h
    cases j with
    | zero =>
      simp at hc hv
      subst hc; subst hv
      exact h.1
    | succ j => exact SVReps.get h.2 j c v (by simpa using hc) (by simpa using hv)
theorem SVReps.mk {w : World} {M : Nat → Nat × Option Blk} {μ : Nat → Option (Nat × Nat)} {X : Nat → Prop} :
    ∀ {cs : List SV} {vs : List Value}, vs.length = cs.length → (∀ (j : Nat) c v, cs[j]? = some c → vs[j]? = some v → SVRep w M μ X c v) → SVReps w M μ X cs vs
  | [], [], _, _ => trivial
  | [], _ :: _, h, _ => by simp at h
  | _ :: _, [], h, _ => by simp at h
  | c0 :: cs, v0 :: vs, hl, h => by
    simp only [SVReps]
    refine ⟨h 0 c0 v0 rfl rfl, SVReps.mk (by simpa using hl) fun j c v hc hv => h (j + 1) c v (by simpa using hc) (by simpa using hv)⟩
theorem SimU.set {cx : Cx} {S : St} {a : Act} {w : World} {μ : Nat → Option (Nat × Nat)} (h : SimU cx S a w μ) {d : Nat} (hd : d < cx.n) {r : SV} {v : Value}
    (hr : SVRep w S.M μ (XX cx S.M μ) r v) : SimU cx { S with F := upd S.F d r } (a.put (some d) v) w μ where
  blk := h.blk
  slot := fun i => by
    show SVRep w S.M μ (XX cx S.M μ) (upd S.F d r i) _
    by_cases hi : i = d
    · subst hi
      rw [upd_same]
      have hsz : i < a.tmps.size := by rw [h.size]; exact hd
      simpa [Act.put, Array.getElem?_setIfInBounds_self_of_lt hsz] using hr
    · rw [upd_ne _ _ _ _ hi]
      have := h.slot i
      simpa [Act.put, Array.getElem?_setIfInBounds_ne (Ne.symm hi)] using this
  place := h.place
  uniq := h.uniq
  anc := h.anc
  below := h.below
  size := by simpa [Act.put] using h.size
  defers := h.defers
theorem BlkRep.mono {w w' : World} {M M' : Nat → Nat × Option Blk} {μ μ' : Nat → Option (Nat × Nat)} {X X' : Nat → Prop}
    (hs : w.heap.size ≤ w'.heap.size) (hk : ∀ b, b < w.heap.size → ¬ X b → w'.heap[b]? = w.heap[b]? ∧ ¬ X' b)
    (hM : ∀ t, (M t).1 ≤ (M' t).1)
    (hB : ∀ t g blk', M' t = (g, some blk') → g ≤ (M t).1 → ∃ blk, M t = (g, some blk) ∧ μ' t = μ t ∧ blk'.esz = blk.esz)
    {t : Nat} {blk : Blk} (ht : μ' t = μ t) (hh : ∀ b cap, μ t = some (b, cap) → w'.heap[b]? = w.heap[b]?) {st : Nat} (h : BlkRep w M μ X t blk) : BlkRep w' M' μ' X' t { blk with st := st } := by
  unfold BlkRep at *
  rw [ht]
  cases hm : μ t with
  | none => rw [hm] at h; exact h
  | some p =>
    obtain ⟨b, cap⟩ := p
    rw [hm] at h
    obtain ⟨cur, h1, h2, h3, h4, h5⟩ := h
    exact ⟨cur, by rw [hh b cap hm]; exact h1, h2, fun j c u hj hu => SVRep.mono hs hk hM hB c u (h3 j c u hj hu), h4, h5⟩
theorem SimU.grow {cx : Cx} {S : St} {a : Act} {w w' : World} {μ : Nat → Option (Nat × Nat)} (h : SimU cx S a w μ) (hb : Below w.heap.size w w') : SimU cx S a w' μ := by
  have hk : ∀ b, b < w.heap.size → ¬ XX cx S.M μ b → w'.heap[b]? = w.heap[b]? ∧ ¬ XX cx S.M μ b := fun b hlt hx => ⟨hb.block b hlt, hx⟩
  have hB : ∀ t g blk', S.M t = (g, some blk') → g ≤ (S.M t).1 → ∃ blk, S.M t = (g, some blk) ∧ μ t = μ t ∧ blk'.esz = blk.esz := fun t g blk' e _ => ⟨blk', e, rfl, rfl⟩
  exact {
    blk := fun t g blk e => (h.blk t g blk e).mono (st := blk.st) hb.size hk (fun _ => Nat.le_refl _) hB rfl (fun b cap hm => hb.block b (h.place t g blk b cap e hm).2)
    slot := fun i => SVRep.mono hb.size hk (fun _ => Nat.le_refl _) hB _ _ (h.slot i)
    place := fun t g blk b cap e hm => ⟨(h.place t g blk b cap e hm).1, Nat.lt_of_lt_of_le (h.place t g blk b cap e hm).2 hb.size⟩
    uniq := h.uniq
    anc := h.anc
    below := h.below.then (Wr' := fun _ => False) ⟨hb.os, hb.tape, hb.output, hb.size, fun k hk _ => hb.block k hk⟩ (fun _ _ _ h => h)
    size := h.size
    defers := h.defers }
theorem SimU.create {cx : Cx} {S : St} {a : Act} {w : World} {μ : Nat → Option (Nat × Nat)} (h : SimU cx S a w μ) (t : Nat) (blk : Blk) (cur : Array Value) (cap : Nat)
    (hst3 : blk.st < 3) (hlen : blk.cells.length ≤ cur.size) (hc : ∀ (j : Nat) c u, blk.cells[j]? = some c → cur[j]? = some u → SVRep w S.M μ (XX cx S.M μ) c u)
    (hrow : blk.row = true → cur.size = cap * blk.esz ∧ cap ≤ maxLen) (hbox : blk.row = false → blk.cells.length = cur.size) :
    SimU cx { S with M := upd S.M t ((S.M t).1 + 1, some blk) } a (w.alloc (.cells cur blk.elem)) (upd μ t (some (w.heap.size, cap))) := by
  have hsz : w.heap.size ≤ (w.alloc (.cells cur blk.elem)).heap.size := by simp
  have hheap : ∀ b, b < w.heap.size → (w.alloc (.cells cur blk.elem)).heap[b]? = w.heap[b]? := fun b hlt => Below.heap_alloc _ _ _ hlt
  have hown : ∀ b, b < w.heap.size → Own (upd S.M t ((S.M t).1 + 1, some blk)) (upd μ t (some (w.heap.size, cap))) b → Own S.M μ b := by
    rintro b hlt ⟨t', g', blk', cap', e1, e2, e3⟩
    by_cases ht : t' = t
    · subst ht
      rw [upd_same] at e3
      simp at e3
      omega
    · rw [upd_ne _ _ _ _ ht] at e1 e3
      exact ⟨t', g', blk', cap', e1, e2, e3⟩
  have hk : ∀ b, b < w.heap.size → ¬ XX cx S.M μ b → (w.alloc (.cells cur blk.elem)).heap[b]? = w.heap[b]? ∧ ¬ XX cx (upd S.M t ((S.M t).1 + 1, some blk)) (upd μ t (some (w.heap.size, cap))) b :=
    fun b hlt hx => ⟨hheap b hlt, fun ho => hx (ho.imp (hown b hlt) id)⟩
  have hM : ∀ t', (S.M t').1 ≤ (upd S.M t ((S.M t).1 + 1, some blk) t').1 := fun t' => by
    by_cases ht : t' = t
    · subst ht; rw [upd_same]; exact Nat.le_succ _
    · rw [upd_ne _ _ _ _ ht]; exact Nat.le_refl _
  have hB : ∀ t' g blk', upd S.M t ((S.M t).1 + 1, some blk) t' = (g, some blk') → g ≤ (S.M t').1 →
      ∃ blk, S.M t' = (g, some blk) ∧ upd μ t (some (w.heap.size, cap)) t' = μ t' ∧ blk'.esz = blk.esz := fun t' g blk' e hg => by
    by_cases ht : t' = t
    · subst ht; rw [upd_same] at e; simp at e; omega
    · rw [upd_ne _ _ _ _ ht] at e ⊢; exact ⟨blk', e, rfl, rfl⟩
  have hplace := h.place
  refine { blk := ?_, slot := ?_, place := ?_, uniq := ?_, anc := ?anc, below := ?_, size := h.size, defers := h.defers }
  case anc =>
    intro t' g' blk' e h3
    by_cases ht : t' = t
    · subst ht
      simp only [upd_same, Prod.mk.injEq, Option.some.injEq] at e
      obtain ⟨_, rfl⟩ := e
      omega
    · show upd μ t _ t' = _
      rw [upd_ne _ _ _ _ ht]
      simp only [upd_ne _ _ _ _ ht] at e
      exact h.anc t' g' blk' e h3
  · intro t' g blk' e
    by_cases ht : t' = t
    · subst ht
      simp only [upd_same, Prod.mk.injEq, Option.some.injEq] at e
      obtain ⟨_, rfl⟩ := e
      unfold BlkRep
      rw [upd_same]
      refine ⟨cur, heap_alloc_new w _, hlen, fun j c u hj hu => ?_, hrow, hbox⟩
      exact SVRep.mono hsz hk hM hB c u (hc j c u hj hu)
    · have e' := e
      simp only [upd_ne _ _ _ _ ht] at e'
      refine (h.blk t' g blk' e').mono (st := blk'.st) hsz hk hM hB (upd_ne _ _ _ _ ht) (fun b cap' hm => hheap b (hplace t' g blk' b cap' e' hm).2)
  · exact fun i => SVRep.mono hsz hk hM hB _ _ (h.slot i)
  · intro t' g blk' b cap' e hm
    by_cases ht : t' = t
    · subst ht
      rw [upd_same] at hm
      simp only [Option.some.injEq, Prod.mk.injEq] at hm
      obtain ⟨rfl, rfl⟩ := hm
      exact ⟨.inl h.below.size, by simp⟩
    · simp only [upd_ne _ _ _ _ ht] at e hm
      have := hplace t' g blk' b cap' e hm
      exact ⟨this.1, Nat.lt_of_lt_of_le this.2 hsz⟩
  · intro t1 g1 b1 t2 g2 b2 b c1 c2 hne e1 e2 s1 m1 m2
    by_cases h1 : t1 = t
    · subst h1
      have h2 : t2 ≠ t1 := Ne.symm hne
      rw [upd_same] at m1
      simp only [Option.some.injEq, Prod.mk.injEq] at m1
      simp only [upd_ne _ _ _ _ h2] at e2 m2
      have := (hplace t2 g2 b2 b c2 e2 m2).2
      omega
    · by_cases h2 : t2 = t
      · subst h2
        simp only [upd_ne _ _ _ _ h1] at e1 m1
        rw [upd_same] at m2
        have := (hplace t1 g1 b1 b c1 e1 m1).2
        simp only [Option.some.injEq, Prod.mk.injEq] at m2
        omega
      · simp only [upd_ne _ _ _ _ h1] at e1 m1
        simp only [upd_ne _ _ _ _ h2] at e2 m2
        exact h.uniq t1 g1 b1 t2 g2 b2 b c1 c2 hne e1 e2 s1 m1 m2
  · exact h.below.trans ⟨rfl, rfl, rfl, hsz, fun k hk' _ => hheap k hk'⟩
theorem SimU.lower {cx : Cx} {S : St} {a : Act} {w : World} {μ : Nat → Option (Nat × Nat)} (h : SimU cx S a w μ) {t g : Nat} {blk : Blk} (e : S.M t = (g, some blk)) {st : Nat} (hst : st = 1 ∨ st = 2) (hst' : OwS blk.st ∨ blk.st = st) :
    SimU cx { S with M := upd S.M t (g, some { blk with st := st }) } a w μ := by
  have hown : ∀ b, Own (upd S.M t (g, some { blk with st := st })) μ b → Own S.M μ b := by
    rintro b ⟨t', g', blk', cap', e1, e2, e3⟩
    by_cases ht : t' = t
    · subst ht
      simp only [upd_same, Prod.mk.injEq, Option.some.injEq] at e1
      obtain ⟨_, rfl⟩ := e1
      simp only [OwS] at e2
      omega
    · rw [upd_ne _ _ _ _ ht] at e1
      exact ⟨t', g', blk', cap', e1, e2, e3⟩
  have hk : ∀ b, b < w.heap.size → ¬ XX cx S.M μ b → w.heap[b]? = w.heap[b]? ∧ ¬ XX cx (upd S.M t (g, some { blk with st := st })) μ b := fun b _ hx => ⟨rfl, fun ho => hx (ho.imp (hown b) id)⟩
  have hM : ∀ t', (S.M t').1 ≤ (upd S.M t (g, some { blk with st := st }) t').1 := fun t' => by
    by_cases ht : t' = t
    · subst ht; rw [upd_same, e]; exact Nat.le_refl _
    · rw [upd_ne _ _ _ _ ht]; exact Nat.le_refl _
  have hB : ∀ t' g' blk', upd S.M t (g, some { blk with st := st }) t' = (g', some blk') → g' ≤ (S.M t').1 →
      ∃ blk, S.M t' = (g', some blk) ∧ μ t' = μ t' ∧ blk'.esz = blk.esz := fun t' g' blk' e' _ => by
    by_cases ht : t' = t
    · subst ht
      simp only [upd_same, Prod.mk.injEq, Option.some.injEq] at e'
      obtain ⟨rfl, rfl⟩ := e'
      exact ⟨blk, e, rfl, rfl⟩
    · rw [upd_ne _ _ _ _ ht] at e'; exact ⟨blk', e', rfl, rfl⟩
  refine { blk := ?_, slot := ?_, place := ?_, uniq := ?_, anc := ?anc, below := h.below, size := h.size, defers := h.defers }
  case anc =>
    intro t' g' blk' e' h3
    by_cases ht : t' = t
    · subst ht
      simp only [upd_same, Prod.mk.injEq, Option.some.injEq] at e'
      obtain ⟨_, rfl⟩ := e'
      simp only at h3
      omega
    · simp only [upd_ne _ _ _ _ ht] at e'
      exact h.anc t' g' blk' e' h3
  · intro t' g' blk' e'
    by_cases ht : t' = t
    · subst ht
      simp only [upd_same, Prod.mk.injEq, Option.some.injEq] at e'
      obtain ⟨rfl, rfl⟩ := e'
      exact (h.blk _ _ _ e).mono (Nat.le_refl _) hk hM hB rfl (fun _ _ _ => rfl)
    · simp only [upd_ne _ _ _ _ ht] at e'
      exact (h.blk _ _ _ e').mono (st := blk'.st) (Nat.le_refl _) hk hM hB rfl (fun _ _ _ => rfl)
  · exact fun i => SVRep.mono (Nat.le_refl _) hk hM hB _ _ (h.slot i)
  · intro t' g' blk' b cap' e' hm
    by_cases ht : t' = t
    · subst ht
      exact h.place _ _ _ _ _ e hm
    · simp only [upd_ne _ _ _ _ ht] at e'
      exact h.place _ _ _ _ _ e' hm
  · intro t1 g1 b1 t2 g2 b2 b c1 c2 hne e1 e2 s1 m1 m2
    by_cases h1 : t1 = t
    · subst h1
      simp only [upd_same, Prod.mk.injEq, Option.some.injEq] at e1
      obtain ⟨_, rfl⟩ := e1
      simp only [OwS] at s1
      omega
    · simp only [upd_ne _ _ _ _ h1] at e1
      by_cases h2 : t2 = t
      · subst h2
        simp only [upd_same, Prod.mk.injEq, Option.some.injEq] at e2
        obtain ⟨_, rfl⟩ := e2
        have := h.uniq t1 g1 b1 t2 g blk b c1 c2 hne e1 e s1 m1 m2
        exact ⟨by simp only [OwS] at hst' ⊢; omega, this.2⟩
      · simp only [upd_ne _ _ _ _ h2] at e2
        exact h.uniq t1 g1 b1 t2 g2 b2 b c1 c2 hne e1 e2 s1 m1 m2
theorem SimU.appendRoom {cx : Cx} {S : St} {a : Act} {w : World} {μ : Nat → Option (Nat × Nat)} (h : SimU cx S a w μ) {src g b cap : Nat} {blk : Blk} {cur : Array Value} (dst : Nat)
    (e : S.M src = (g, some blk)) (hst : OwS blk.st) (hrow : blk.row = true) (hm : μ src = some (b, cap)) (hh : w.heap[b]? = some (.cells cur blk.elem (0, 0)))
    (news : List SV) (nv : List Value) (hl : nv.length = news.length) (hnews : ∀ (j : Nat) c u, news[j]? = some c → nv[j]? = some u → SVRep w S.M μ (XX cx S.M μ) c u)
    (hfit : blk.cells.length + nv.length ≤ cur.size) :
    SimU cx { S with M := upd (upd S.M src (g, some { blk with st := 2 })) dst ((S.M dst).1 + 1, some { blk with cells := blk.cells ++ news, st := 0 }) } a
      (w.setRow b (cur.toList.take blk.cells.length ++ nv ++ cur.toList.drop (blk.cells.length + nv.length)).toArray) (upd μ dst (some (b, cap))) := by
  have hX : Own S.M μ b := ⟨src, g, blk, cap, e, hst, hm⟩
  generalize hcur' : (cur.toList.take blk.cells.length ++ nv ++ cur.toList.drop (blk.cells.length + nv.length)).toArray = cur'
  have hsz' : cur'.size = cur.size := by subst hcur'; simp; omega
  have hpre : ∀ j, j < blk.cells.length → cur'[j]? = cur[j]? := fun j hj => by
    subst hcur'
    simp only [List.getElem?_toArray, List.append_assoc]
    rw [List.getElem?_append_left (by simp; omega), List.getElem?_take_of_lt hj]
    simp
  have hnew : ∀ j, j < nv.length → cur'[blk.cells.length + j]? = nv[j]? := fun j hj => by
    subst hcur'
    simp only [List.getElem?_toArray, List.append_assoc]
    rw [List.getElem?_append_right (by simp; omega)]
    have : blk.cells.length + j - (cur.toList.take blk.cells.length).length = j := by simp; omega
    rw [this, List.getElem?_append_left hj]
  clear hcur'
  have hheap : (w.setRow b cur').heap[b]? = some (.cells cur' blk.elem (0, 0)) := setRow_heap w b cur cur' blk.elem (0, 0) hh
  have hoth : ∀ b', b' ≠ b → (w.setRow b cur').heap[b']? = w.heap[b']? := fun b' hb' => setRow_other w b b' cur' hb'
  generalize hM' : upd (upd S.M src (g, some { blk with st := 2 })) dst ((S.M dst).1 + 1, some { blk with cells := blk.cells ++ news, st := 0 }) = M'
  have hMd : M' dst = ((S.M dst).1 + 1, some { blk with cells := blk.cells ++ news, st := 0 }) := by subst hM'; rw [upd_same]
  have hMs : src ≠ dst → M' src = (g, some { blk with st := 2 }) := fun hne => by subst hM'; rw [upd_ne _ _ _ _ hne, upd_same]
  have hMo : ∀ t, t ≠ dst → t ≠ src → M' t = S.M t := fun t h1 h2 => by subst hM'; rw [upd_ne _ _ _ _ h1, upd_ne _ _ _ _ h2]
  have hmo : ∀ t, t ≠ dst → upd μ dst (some (b, cap)) t = μ t := fun t h1 => upd_ne _ _ _ _ h1
  have hmd : upd μ dst (some (b, cap)) dst = some (b, cap) := upd_same _ _ _
  have hown : ∀ b', Own M' (upd μ dst (some (b, cap))) b' → Own S.M μ b' := by
    rintro b' ⟨t, g', blk', cap', e1, e2, e3⟩
    by_cases h1 : t = dst
    · subst h1; rw [hmd] at e3; simp only [Option.some.injEq, Prod.mk.injEq] at e3; rw [← e3.1]; exact hX
    · by_cases h2 : t = src
      · subst h2; rw [hMs h1] at e1; simp only [Prod.mk.injEq, Option.some.injEq] at e1; rw [← e1.2] at e2; simp [OwS] at e2
      · rw [hMo t h1 h2] at e1; rw [hmo t h1] at e3; exact ⟨t, g', blk', cap', e1, e2, e3⟩
  have hs : w.heap.size ≤ (w.setRow b cur').heap.size := by simp
  have hk : ∀ b', b' < w.heap.size → ¬ XX cx S.M μ b' → (w.setRow b cur').heap[b']? = w.heap[b']? ∧ ¬ XX cx M' (upd μ dst (some (b, cap))) b' :=
    fun b' _ hx => ⟨hoth b' (fun e => hx (.inl (e ▸ hX))), fun ho => hx (ho.imp (hown b') id)⟩
  have hM : ∀ t, (S.M t).1 ≤ (M' t).1 := fun t => by
    by_cases h1 : t = dst
    · subst h1; rw [hMd]; exact Nat.le_succ _
    · by_cases h2 : t = src
      · subst h2; rw [hMs h1, e]; exact Nat.le_refl _
      · rw [hMo t h1 h2]; exact Nat.le_refl _
  have hB : ∀ t g' blk', M' t = (g', some blk') → g' ≤ (S.M t).1 → ∃ blk, S.M t = (g', some blk) ∧ upd μ dst (some (b, cap)) t = μ t ∧ blk'.esz = blk.esz := fun t g' blk' e' hg => by
    by_cases h1 : t = dst
    · subst h1; rw [hMd] at e'; simp only [Prod.mk.injEq] at e'; omega
    · by_cases h2 : t = src
      · subst h2
        rw [hMs h1] at e'
        simp only [Prod.mk.injEq, Option.some.injEq] at e'
        obtain ⟨rfl, rfl⟩ := e'
        exact ⟨blk, e, hmo t h1, rfl⟩
      · rw [hMo t h1 h2] at e'
        exact ⟨blk', e', hmo t h1, rfl⟩
  have hsrc := h.blk src g blk e
  unfold BlkRep at hsrc
  rw [hm] at hsrc
  obtain ⟨cur0, q1, q2, q3, q4, q5⟩ := hsrc
  rw [hh] at q1
  simp only [Option.some.injEq, Obj.cells.injEq, and_true] at q1
  subst q1
  refine { blk := ?_, slot := ?_, place := ?_, uniq := ?_, anc := ?anc, below := ?_, size := h.size, defers := h.defers }
  case anc =>
    intro t g' blk' e' h3
    change M' t = _ at e'
    by_cases h1 : t = dst
    · subst h1; rw [hMd] at e'; simp only [Prod.mk.injEq, Option.some.injEq] at e'; rw [← e'.2] at h3; simp at h3
    · show upd μ dst (some (b, cap)) t = _
      rw [hmo t h1]
      by_cases h2 : t = src
      · subst h2; rw [hMs h1] at e'; simp only [Prod.mk.injEq, Option.some.injEq] at e'; rw [← e'.2] at h3; simp at h3
      · rw [hMo t h1 h2] at e'; exact h.anc t g' blk' e' h3
  · intro t g' blk' e'
    change M' t = _ at e'
    show BlkRep _ M' _ (XX cx M' _) t blk'
    by_cases h1 : t = dst
    · subst h1
      rw [hMd] at e'
      simp only [Prod.mk.injEq, Option.some.injEq] at e'
      obtain ⟨_, rfl⟩ := e'
      unfold BlkRep
      rw [hmd]
      refine ⟨cur', hheap, ?_, ?_, ?_, ?_⟩
      · simp only [List.length_append]; omega
      · intro j c u hc hu
        by_cases hj : j < blk.cells.length
        · rw [hpre j hj] at hu
          simp only [List.getElem?_append_left hj] at hc
          exact SVRep.mono hs hk hM hB c u (q3 j c u hc hu)
        · simp only [List.getElem?_append_right (Nat.le_of_not_lt hj)] at hc
          have hjl : j - blk.cells.length < nv.length := by
            have := (List.getElem?_eq_some_iff.1 hc).1
            omega
          have := hnew (j - blk.cells.length) hjl
          rw [show blk.cells.length + (j - blk.cells.length) = j by omega, hu] at this
          exact SVRep.mono hs hk hM hB c u (hnews _ c u hc this.symm)
      · intro _; rw [hsz']; exact q4 hrow
      · intro hf; simp only [hrow] at hf; cases hf
    · by_cases h2 : t = src
      · subst h2
        rw [hMs h1] at e'
        simp only [Prod.mk.injEq, Option.some.injEq] at e'
        obtain ⟨_, rfl⟩ := e'
        unfold BlkRep
        rw [hmo t h1, hm]
        refine ⟨cur', hheap, by simp only; omega, ?_, ?_, ?_⟩
        · intro j c u hc hu
          have hj : j < blk.cells.length := (List.getElem?_eq_some_iff.1 hc).1
          rw [hpre j hj] at hu
          exact SVRep.mono hs hk hM hB c u (q3 j c u hc hu)
        · intro _; rw [hsz']; exact q4 hrow
        · intro hf; simp only [hrow] at hf; cases hf
      · rw [hMo t h1 h2] at e'
        have ho := h.blk t g' blk' e'
        unfold BlkRep at ho ⊢
        rw [hmo t h1]
        cases hmt : μ t with
        | none => rw [hmt] at ho; exact ho
        | some p =>
          obtain ⟨b', cap'⟩ := p
          rw [hmt] at ho
          obtain ⟨c0, r1, r2, r3, r4, r5⟩ := ho
          by_cases hb : b' = b
          · subst hb
            have hu := h.uniq src g blk t g' blk' b' cap cap' (Ne.symm h2) e e' hst hm hmt
            rw [hh] at r1
            simp only [Option.some.injEq, Obj.cells.injEq, and_true] at r1
            obtain ⟨rfl, hel⟩ := r1
            refine ⟨cur', by rw [hheap, hel], by omega, ?_, ?_, ?_⟩
            · intro j c u hc hu'
              have hj : j < blk'.cells.length := (List.getElem?_eq_some_iff.1 hc).1
              rw [hpre j (by omega)] at hu'
              exact SVRep.mono hs hk hM hB c u (r3 j c u hc hu')
            · intro hf; rw [hsz']; exact r4 hf
            · intro hf; rw [hsz']; exact r5 hf
          · exact ⟨c0, by rw [hoth b' hb]; exact r1, r2, fun j c u hc hu => SVRep.mono hs hk hM hB c u (r3 j c u hc hu), r4, r5⟩
  · exact fun i => SVRep.mono hs hk hM hB _ _ (h.slot i)
  · intro t g' blk' b' cap' e' hm'
    change M' t = _ at e'
    rw [show (w.setRow b cur').heap.size = w.heap.size by simp]
    by_cases h1 : t = dst
    · subst h1
      rw [hmd] at hm'
      simp only [Option.some.injEq, Prod.mk.injEq] at hm'
      rw [← hm'.1]
      exact h.place _ _ _ _ _ e hm
    · rw [hmo t h1] at hm'
      by_cases h2 : t = src
      · subst h2; exact h.place _ _ _ _ _ e hm'
      · rw [hMo t h1 h2] at e'; exact h.place _ _ _ _ _ e' hm'
  · intro t1 g1 b1 t2 g2 b2 b' c1 c2 hne e1 e2 s1 m1 m2
    change M' t1 = _ at e1
    change M' t2 = _ at e2
    by_cases h1 : t1 = dst
    · subst h1
      have h2 : t2 ≠ t1 := Ne.symm hne
      rw [hMd] at e1
      simp only [Prod.mk.injEq, Option.some.injEq] at e1
      obtain ⟨_, rfl⟩ := e1
      rw [hmd] at m1
      simp only [Option.some.injEq, Prod.mk.injEq] at m1
      obtain ⟨rfl, rfl⟩ := m1
      rw [hmo t2 h2] at m2
      by_cases h3 : t2 = src
      · subst h3
        rw [hMs h2] at e2
        simp only [Prod.mk.injEq, Option.some.injEq] at e2
        obtain ⟨_, rfl⟩ := e2
        exact ⟨rfl, by simp⟩
      · rw [hMo t2 h2 h3] at e2
        have := h.uniq src g blk t2 g2 b2 b cap c2 (Ne.symm h3) e e2 hst hm m2
        exact ⟨this.1, by simp only [List.length_append]; omega⟩
    · rw [hmo t1 h1] at m1
      by_cases h3 : t1 = src
      · subst h3
        rw [hMs h1] at e1
        simp only [Prod.mk.injEq, Option.some.injEq] at e1
        rw [← e1.2] at s1
        simp [OwS] at s1
      · rw [hMo t1 h1 h3] at e1
        by_cases h2 : t2 = dst
        · subst h2
          rw [hmd] at m2
          simp only [Option.some.injEq, Prod.mk.injEq] at m2
          obtain ⟨rfl, _⟩ := m2
          have := h.uniq src g blk t1 g1 b1 b cap c1 (Ne.symm h3) e e1 hst hm m1
          unfold OwS at s1
          omega
        · rw [hmo t2 h2] at m2
          by_cases h4 : t2 = src
          · subst h4
            rw [hMs h2] at e2
            simp only [Prod.mk.injEq, Option.some.injEq] at e2
            obtain ⟨_, rfl⟩ := e2
            have := h.uniq t1 g1 b1 t2 g blk b' c1 c2 hne e1 e s1 m1 m2
            exact ⟨rfl, this.2⟩
          · rw [hMo t2 h2 h4] at e2
            exact h.uniq t1 g1 b1 t2 g2 b2 b' c1 c2 hne e1 e2 s1 m1 m2
  · refine h.below.then (Wr' := fun k => k = b) ⟨rfl, rfl, rfl, by simp, fun k _ hk' => hoth k hk'⟩ ?_
    intro i hi hw hib
    have := (h.place src g blk b cap e hm).1
    subst hib
    exact this.elim (fun h => by omega) hw
end Go.Ab
namespace Go.Ab
open Go.RowKit
def noViews (M : Nat → Nat × Option Blk) : Nat → Nat × Option Blk := fun t =>
  match (M t).2 with
  | some b => if b.st = 2 then ((M t).1, none) else M t
  | none => M t
def putCells {α : Type} (l : List α) (off : Nat) (news : List α) : List α := l.take off ++ news ++ l.drop (off + news.length)
theorem putCells_length {α : Type} (l news : List α) (off : Nat) (h : off + news.length ≤ l.length) : (putCells l off news).length = l.length := by
  unfold putCells; simp; omega
theorem putCells_get {α : Type} (l news : List α) (off j : Nat) (h : off + news.length ≤ l.length) :
    (putCells l off news)[j]? = if j < off then l[j]? else if j < off + news.length then news[j - off]? else l[j]? := by
  unfold putCells
  by_cases h1 : j < off
  · rw [if_pos h1, List.append_assoc, List.getElem?_append_left (by simp; omega), List.getElem?_take_of_lt h1]
  · rw [if_neg h1, List.append_assoc, List.getElem?_append_right (by simp; omega)]
    have e1 : j - (List.take off l).length = j - off := by simp; omega
    rw [e1]
    by_cases h2 : j < off + news.length
    · rw [if_pos h2, List.getElem?_append_left (by omega)]
    · rw [if_neg h2, List.getElem?_append_right (by omega), List.getElem?_drop]
      congr 1
      omega
theorem SimU.write {cx : Cx} {S : St} {a : Act} {w : World} {μ : Nat → Option (Nat × Nat)} (h : SimU cx S a w μ) {t g b cap : Nat} {blk : Blk} {cur : Array Value}
    (e : S.M t = (g, some blk)) (hst : OwS blk.st) (hm : μ t = some (b, cap)) (hh : w.heap[b]? = some (.cells cur blk.elem (0, 0)))
    (off : Nat) (news : List SV) (nv : List Value) (hl : nv.length = news.length) (hnews : ∀ (j : Nat) c u, news[j]? = some c → nv[j]? = some u → SVRep w S.M μ (XX cx S.M μ) c u)
    (hfit : off + news.length ≤ blk.cells.length) :
    SimU cx { S with M := upd (noViews S.M) t (g, some { blk with cells := putCells blk.cells off news }) } a (w.setRow b (putCells cur.toList off nv).toArray) μ := by
  have hX : Own S.M μ b := ⟨t, g, blk, cap, e, hst, hm⟩
  have hsrc := h.blk t g blk e
  unfold BlkRep at hsrc
  rw [hm] at hsrc
  obtain ⟨cur0, q1, q2, q3, q4, q5⟩ := hsrc
  rw [hh] at q1
  simp only [Option.some.injEq, Obj.cells.injEq, and_true] at q1
  subst q1
  have hcur : ∀ j, (putCells cur.toList off nv).toArray[j]? = if j < off then cur[j]? else if j < off + news.length then nv[j - off]? else cur[j]? := fun j => by
    rw [List.getElem?_toArray, putCells_get _ _ _ _ (by simp; omega), hl]; simp
  have hsz' : (putCells cur.toList off nv).toArray.size = cur.size := by
    rw [List.size_toArray, putCells_length _ _ _ (by simp; omega)]; simp
  generalize (putCells cur.toList off nv).toArray = cur' at *
  have hheap : (w.setRow b cur').heap[b]? = some (.cells cur' blk.elem (0, 0)) := setRow_heap w b cur cur' blk.elem (0, 0) hh
  have hoth : ∀ b', b' ≠ b → (w.setRow b cur').heap[b']? = w.heap[b']? := fun b' hb' => setRow_other w b b' cur' hb'
  generalize hM' : upd (noViews S.M) t (g, some { blk with cells := putCells blk.cells off news }) = M'
  have hMt : M' t = (g, some { blk with cells := putCells blk.cells off news }) := by subst hM'; rw [upd_same]
  have hMo : ∀ t', t' ≠ t → M' t' = noViews S.M t' := fun t' h1 => by subst hM'; rw [upd_ne _ _ _ _ h1]
  have hMs : ∀ t' g' b', t' ≠ t → M' t' = (g', some b') → S.M t' = (g', some b') ∧ b'.st ≠ 2 := fun t' g' b' h1 e' => by
    rw [hMo t' h1] at e'
    unfold noViews at e'
    split at e'
    · rename_i b'' hb''
      split at e'
      · cases e'
      · rename_i hne
        refine ⟨e', ?_⟩
        rw [e'] at hb''
        simp only [Option.some.injEq] at hb''
        rw [hb'']; exact hne
    · rename_i hn
      rw [e'] at hn; cases hn
  have hMg : ∀ t', (S.M t').1 ≤ (M' t').1 := fun t' => by
    by_cases h1 : t' = t
    · subst h1; rw [hMt, e]; exact Nat.le_refl _
    · rw [hMo t' h1]
      unfold noViews
      split
      · split <;> exact Nat.le_refl _
      · exact Nat.le_refl _
  have hown : ∀ b', Own M' μ b' → Own S.M μ b' := by
    rintro b' ⟨t', g', blk', cap', e1, e2, e3⟩
    by_cases h1 : t' = t
    · subst h1; exact ⟨t', g, blk, cap', e, hst, e3⟩
    · exact ⟨t', g', blk', cap', (hMs t' g' blk' h1 e1).1, e2, e3⟩
  have hs : w.heap.size ≤ (w.setRow b cur').heap.size := by simp
  have hk : ∀ b', b' < w.heap.size → ¬ XX cx S.M μ b' → (w.setRow b cur').heap[b']? = w.heap[b']? ∧ ¬ XX cx M' μ b' :=
    fun b' _ hx => ⟨hoth b' (fun e => hx (.inl (e ▸ hX))), fun ho => hx (ho.imp (hown b') id)⟩
  have hB : ∀ t' g' blk', M' t' = (g', some blk') → g' ≤ (S.M t').1 → ∃ blk, S.M t' = (g', some blk) ∧ μ t' = μ t' ∧ blk'.esz = blk.esz := fun t' g' blk' e' _ => by
    by_cases h1 : t' = t
    · subst h1
      rw [hMt] at e'
      simp only [Prod.mk.injEq, Option.some.injEq] at e'
      obtain ⟨rfl, rfl⟩ := e'
      exact ⟨blk, e, rfl, rfl⟩
    · exact ⟨blk', (hMs t' g' blk' h1 e').1, rfl, rfl⟩
  refine { blk := ?_, slot := ?_, place := ?_, uniq := ?_, anc := ?anc, below := ?_, size := h.size, defers := h.defers }
  case anc =>
    intro t' g' blk' e' h3
    change M' t' = _ at e'
    by_cases h1 : t' = t
    · subst h1
      rw [hMt] at e'
      simp only [Prod.mk.injEq, Option.some.injEq] at e'
      obtain ⟨_, rfl⟩ := e'
      exact h.anc t' g blk e h3
    · exact h.anc t' g' blk' (hMs t' g' blk' h1 e').1 h3
  · intro t' g' blk' e'
    change M' t' = _ at e'
    show BlkRep _ M' _ (XX cx M' _) t' blk'
    by_cases h1 : t' = t
    · subst h1
      rw [hMt] at e'
      simp only [Prod.mk.injEq, Option.some.injEq] at e'
      obtain ⟨_, rfl⟩ := e'
      unfold BlkRep
      rw [hm]
      refine ⟨cur', hheap, ?_, ?_, ?_, ?_⟩
      · simp only [putCells_length _ _ _ hfit]; omega
      · intro j c u hc hu
        simp only [putCells_get _ _ _ _ hfit] at hc
        rw [hcur] at hu
        split at hc
        · rename_i hj; rw [if_pos hj] at hu; exact SVRep.mono hs hk hMg hB c u (q3 j c u hc hu)
        · rename_i hj
          rw [if_neg hj] at hu
          split at hc
          · rename_i hj2; rw [if_pos hj2] at hu; exact SVRep.mono hs hk hMg hB c u (hnews _ c u hc hu)
          · rename_i hj2; rw [if_neg hj2] at hu; exact SVRep.mono hs hk hMg hB c u (q3 j c u hc hu)
      · intro hr; rw [hsz']; exact q4 hr
      · intro hr; simp only [putCells_length _ _ _ hfit]; rw [hsz']; exact q5 hr
    · obtain ⟨e2, hv⟩ := hMs t' g' blk' h1 e'
      have ho := h.blk t' g' blk' e2
      unfold BlkRep at ho ⊢
      cases hmt : μ t' with
      | none => rw [hmt] at ho; exact ho
      | some p =>
        obtain ⟨b', cap'⟩ := p
        rw [hmt] at ho
        obtain ⟨c0, r1, r2, r3, r4, r5⟩ := ho
        have hb : b' ≠ b := fun hb => by
          subst hb
          exact hv (h.uniq t g blk t' g' blk' b' cap cap' (Ne.symm h1) e e2 hst hm hmt).1
        exact ⟨c0, by rw [hoth b' hb]; exact r1, r2, fun j c u hc hu => SVRep.mono hs hk hMg hB c u (r3 j c u hc hu), r4, r5⟩
  · exact fun i => SVRep.mono hs hk hMg hB _ _ (h.slot i)
  · intro t' g' blk' b' cap' e' hm'
    change M' t' = _ at e'
    rw [show (w.setRow b cur').heap.size = w.heap.size by simp]
    by_cases h1 : t' = t
    · subst h1; exact h.place _ _ _ _ _ e hm'
    · exact h.place _ _ _ _ _ (hMs t' g' blk' h1 e').1 hm'
  · intro t1 g1 b1 t2 g2 b2 b' c1 c2 hne e1 e2 s1 m1 m2
    change M' t1 = _ at e1
    change M' t2 = _ at e2
    have two : ∃ b1', S.M t1 = (g1, some b1') ∧ OwS b1'.st ∧ b1'.cells.length = b1.cells.length := by
      by_cases h1 : t1 = t
      · subst h1
        rw [hMt] at e1
        simp only [Prod.mk.injEq, Option.some.injEq] at e1
        obtain ⟨rfl, rfl⟩ := e1
        exact ⟨blk, e, hst, (putCells_length _ _ _ hfit).symm⟩
      · exact ⟨b1, (hMs t1 g1 b1 h1 e1).1, s1, rfl⟩
    obtain ⟨b1', f1, f2, f3⟩ := two
    by_cases h2 : t2 = t
    · subst h2
      have := h.uniq t1 g1 b1' t2 g blk b' c1 c2 hne f1 e f2 m1 m2
      unfold OwS at hst; omega
    · have := h.uniq t1 g1 b1' t2 g2 b2 b' c1 c2 hne f1 (hMs t2 g2 b2 h2 e2).1 f2 m1 m2
      exact absurd this.1 (hMs t2 g2 b2 h2 e2).2
  · refine h.below.then (Wr' := fun k => k = b) ⟨rfl, rfl, rfl, by simp, fun k _ hk' => hoth k hk'⟩ ?_
    intro i hi hw hib
    have := (h.place t g blk b cap e hm).1
    subst hib
    exact this.elim (fun h => by omega) hw
end Go.Ab
