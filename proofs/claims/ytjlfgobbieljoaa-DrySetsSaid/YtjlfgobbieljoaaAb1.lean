/- The abstract layer, part 1: data, slot values, what it means that a value of the machine reads as such a datum. -/
import Derived.WalkKit
import Derived.WalkSpells
import Derived.WalkLawsBesides
namespace Go.Ab
open Go.RowKit

/-- Plain data. 'list': a slice (nil or not); 'agg': a struct's cells; 'cptr': a pointer to cells that nobody writes. -/
inductive DV where
  | bool (b : Bool)
  | int (k : IntKind) (n : Int)
  | str (s : ByteArray)
  | list (l : List DV)
  | agg (cs : List DV)
  | cptr (cs : List DV)
  | nilptr
  | fn (f : FuncId) (pre caps : List DV)
  | nilfn
  | iface (t : TypeId) (d : DV)
  | nilIface
  deriving Inhabited

def DV.cells : DV → List DV
  | .agg cs => cs
  | d => [d]

def flat (l : List DV) : List DV := l.flatMap DV.cells

/-- A value of a slot. 'sl t g off n': n elements from off on of the row that was made at slot t (its g-th); 'pt': a pointer into such a block. -/
inductive SV where
  | dead
  | dv (d : DV)
  | nils
  | emp (b : Bool)
  | sl (t g off n : Nat)
  | pt (t g off : Nat)
  | agg (cs : List SV)
  | tup (cs : List SV)
  deriving Inhabited

/-- A block of the call's own. st: 0 owned, 1 frozen, 2 a view, 3 + i: owned, the caller's i-th block that was lent. -/
structure Blk where
  cells : List SV
  esz : Nat
  elem : TypeId
  st : Nat
  row : Bool

/-- Owned. -/
def OwS (s : Nat) : Prop := s = 0 ∨ 3 ≤ s
instance (s : Nat) : Decidable (OwS s) := by unfold OwS; infer_instance
theorem owS0 : OwS 0 := .inl rfl
theorem owS3 {n : Nat} : OwS (n + 3) := .inr (by omega)

structure St where
  F : Nat → SV
  M : Nat → Nat × Option Blk

def upd {α : Type} (f : Nat → α) (i : Nat) (v : α) : Nat → α := fun j => if j = i then v else f j

theorem upd_same {α : Type} (f : Nat → α) (i : Nat) (v : α) : upd f i v i = v := by simp [upd]
theorem upd_ne {α : Type} (f : Nat → α) (i j : Nat) (v : α) (h : j ≠ i) : upd f i v j = f j := by simp [upd, h]

/-- The value v reads in w as the datum d, and no cell of it lies in a block of X. -/
inductive RepD (w : World) (X : Nat → Prop) : DV → Value → Prop
  | bool (b : Bool) : RepD w X (.bool b) (.bool b)
  | int (k : IntKind) (n : Int) : RepD w X (.int k n) (.int k n)
  | str (s : ByteArray) : RepD w X (.str s) (.string s)
  | nilptr : RepD w X .nilptr (.pointer none)
  | nilfn : RepD w X .nilfn .nilFunc
  | nilIface : RepD w X .nilIface .nilIface
  | iface (t : TypeId) (d : DV) (v : Value) : RepD w X d v → RepD w X (.iface t d) (.iface t v)
  | listNil (a : Option Addr) (cap : Nat) : RepD w X (.list []) (.slice a 0 cap)
  | list (l : List DV) (b off cap esz : Nat) (u : Nat → Value) : ¬ X b → b < w.heap.size → l.length ≤ cap → (∀ d ∈ l, d.cells.length = esz) →
      (∀ j c, (flat l)[j]? = some c → w.cell? ⟨b, off + j, none⟩ = some (u j)) →
      (∀ j c, (flat l)[j]? = some c → RepD w X c (u j)) → RepD w X (.list l) (.slice (some ⟨b, off, none⟩) l.length cap)
  | agg (cs : List DV) (vs : Array Value) : vs.size = cs.length →
      (∀ j c, cs[j]? = some c → RepD w X c (vs.getD j undef)) → RepD w X (.agg cs) (.agg vs)
  | cptr (cs : List DV) (b off : Nat) (u : Nat → Value) : ¬ X b → b < w.heap.size →
      (∀ j c, cs[j]? = some c → w.cell? ⟨b, off + j, none⟩ = some (u j)) →
      (∀ j c, cs[j]? = some c → RepD w X c (u j)) → RepD w X (.cptr cs) (.pointer (some ⟨b, off, none⟩))
  | fn (f : FuncId) (pre caps : List DV) (vp vc : Array Value) : vp.size = pre.length → vc.size = caps.length →
      (∀ j c, pre[j]? = some c → RepD w X c (vp.getD j undef)) →
      (∀ j c, caps[j]? = some c → RepD w X c (vc.getD j undef)) → RepD w X (.fn f pre caps) (.func (.func f) vp vc)

theorem cell_of_heap {w w' : World} {b o : Nat} (h : w'.heap[b]? = w.heap[b]?) : w'.cell? ⟨b, o, none⟩ = w.cell? ⟨b, o, none⟩ := by
  simp [World.cell?, h]

/-- Reading is kept where the blocks outside X are as they were, and none of them has come into X'. -/
theorem RepD.mono {w w' : World} {X X' : Nat → Prop} (hs : w.heap.size ≤ w'.heap.size)
    (hk : ∀ b, b < w.heap.size → ¬ X b → w'.heap[b]? = w.heap[b]? ∧ ¬ X' b) {d : DV} {v : Value} (h : RepD w X d v) : RepD w' X' d v := by
  induction h with
  | bool b => exact .bool b
  | int k n => exact .int k n
  | str s => exact .str s
  | nilptr => exact .nilptr
  | nilfn => exact .nilfn
  | nilIface => exact .nilIface
  | iface t d v _ ih => exact .iface t d v ih
  | listNil a cap => exact .listNil a cap
  | list l b off cap esz u hx hb hcap he hc _ ih =>
    obtain ⟨h1, h2⟩ := hk b hb hx
    exact .list l b off cap esz u h2 (Nat.lt_of_lt_of_le hb hs) hcap he (fun j c hj => by rw [cell_of_heap h1]; exact hc j c hj) ih
  | agg cs vs hsz _ ih => exact .agg cs vs hsz ih
  | cptr cs b off u hx hb hc _ ih =>
    obtain ⟨h1, h2⟩ := hk b hb hx
    exact .cptr cs b off u h2 (Nat.lt_of_lt_of_le hb hs) (fun j c hj => by rw [cell_of_heap h1]; exact hc j c hj) ih
  | fn f pre caps vp vc h1 h2 _ _ ih1 ih2 => exact .fn f pre caps vp vc h1 h2 ih1 ih2

theorem RepD.weaken {w : World} {X X' : Nat → Prop} (hX : ∀ b, X' b → X b) {d : DV} {v : Value} (h : RepD w X d v) : RepD w X' d v :=
  h.mono (Nat.le_refl _) (fun b _ hb => ⟨rfl, fun h' => hb (hX b h')⟩)

mutual
/-- The value v is what the slot value says. μ: where the call's own blocks lie (block and capacity; none: the nil slice). -/
def SVRep (w : World) (M : Nat → Nat × Option Blk) (μ : Nat → Option (Nat × Nat)) (X : Nat → Prop) : SV → Value → Prop
  | .dead, _ => True
  | .dv d, v => RepD w X d v
  | .nils, v => v = .slice none 0 0
  | .emp b, v => ∃ a cap, v = .slice a 0 cap ∧ a.isNone = b
  | .sl t g off n, v => (v.oneCell' = true ∧ g ≤ (M t).1) ∧ ∀ blk, M t = (g, some blk) →
      match μ t with
      | none => v = .slice none 0 0 ∧ n = 0 ∧ off = 0
      | some (b, cap) => v = .slice (some ⟨b, off * blk.esz, none⟩) n (cap - off) ∧ off + n ≤ cap
  | .pt t g off, v => (v.oneCell' = true ∧ g ≤ (M t).1) ∧ ∀ blk, M t = (g, some blk) → ∃ b cap, μ t = some (b, cap) ∧ v = .pointer (some ⟨b, off, none⟩)
  | .agg cs, v => ∃ vs : List Value, v = .agg vs.toArray ∧ SVReps w M μ X cs vs
  | .tup cs, v => ∃ vs : List Value, v = .tuple vs.toArray ∧ SVReps w M μ X cs vs
def SVReps (w : World) (M : Nat → Nat × Option Blk) (μ : Nat → Option (Nat × Nat)) (X : Nat → Prop) : List SV → List Value → Prop
  | [], [] => True
  | c :: cs, v :: vs => SVRep w M μ X c v ∧ SVReps w M μ X cs vs
  | _, _ => False
end

/-- The blocks that are written by nobody else: those of the tags that are owned. -/
def Own (M : Nat → Nat × Option Blk) (μ : Nat → Option (Nat × Nat)) (b : Nat) : Prop :=
  ∃ t g blk cap, M t = (g, some blk) ∧ OwS blk.st ∧ μ t = some (b, cap)

/-- What is asked of a tag's block. -/
def BlkRep (w : World) (M : Nat → Nat × Option Blk) (μ : Nat → Option (Nat × Nat)) (X : Nat → Prop) (t : Nat) (blk : Blk) : Prop :=
  match μ t with
  | none => blk.cells = [] ∧ blk.row = true
  | some (b, cap) => ∃ cur, w.heap[b]? = some (.cells cur blk.elem (0, 0)) ∧ blk.cells.length ≤ cur.size ∧
      (∀ (j : Nat) c u, blk.cells[j]? = some c → cur[j]? = some u → SVRep w M μ X c u) ∧
      (blk.row = true → cur.size = cap * blk.esz ∧ cap ≤ maxLen) ∧ (blk.row = false → blk.cells.length = cur.size)

/-- A call: its program, the world in which it began, its frame's size; which old blocks it may write (Wr), which blocks its arguments' data avoid (X0). -/
structure Cx where
  P : Program
  w0 : World
  n : Nat
  Wr : Nat → Prop
  X0 : Nat → Prop
  loc : Nat → Option (Nat × Nat) := fun _ => none

/-- Nothing that was there has turned, but for the blocks of Wr. -/
structure BelowW (Wr : Nat → Prop) (w w' : World) : Prop where
  os : w'.os = w.os
  tape : w'.tape = w.tape
  output : w'.output = w.output
  size : w.heap.size ≤ w'.heap.size
  block : ∀ k, k < w.heap.size → ¬ Wr k → w'.heap[k]? = w.heap[k]?

theorem BelowW.refl (Wr : Nat → Prop) (w : World) : BelowW Wr w w := ⟨rfl, rfl, rfl, Nat.le_refl _, fun _ _ _ => rfl⟩

theorem BelowW.trans {Wr : Nat → Prop} {a b c : World} (h : BelowW Wr a b) (k : BelowW Wr b c) : BelowW Wr a c :=
  ⟨k.os.trans h.os, k.tape.trans h.tape, k.output.trans h.output, Nat.le_trans h.size k.size, fun i hi hw => (k.block i (Nat.lt_of_lt_of_le hi h.size) hw).trans (h.block i hi hw)⟩

theorem BelowW.then {Wr Wr' : Nat → Prop} {a b c : World} (h : BelowW Wr a b) (k : BelowW Wr' b c) (hw : ∀ i, i < a.heap.size → ¬ Wr i → ¬ Wr' i) : BelowW Wr a c :=
  ⟨k.os.trans h.os, k.tape.trans h.tape, k.output.trans h.output, Nat.le_trans h.size k.size, fun i hi hi' => (k.block i (Nat.lt_of_lt_of_le hi h.size) (hw i hi hi')).trans (h.block i hi hi')⟩

/-- What no datum of a slot lies in: what is owned, and what the caller owns. -/
def XX (cx : Cx) (M : Nat → Nat × Option Blk) (μ : Nat → Option (Nat × Nat)) (b : Nat) : Prop := Own M μ b ∨ cx.X0 b

/-- The state S says true of the frame a and the world w, the call's own blocks lying where μ says. -/
structure SimU (cx : Cx) (S : St) (a : Act) (w : World) (μ : Nat → Option (Nat × Nat)) : Prop where
  blk : ∀ t g blk, S.M t = (g, some blk) → BlkRep w S.M μ (XX cx S.M μ) t blk
  slot : ∀ i, SVRep w S.M μ (XX cx S.M μ) (S.F i) (a.tmps.getD i undef)
  place : ∀ t g blk b cap, S.M t = (g, some blk) → μ t = some (b, cap) → (cx.w0.heap.size ≤ b ∨ cx.Wr b) ∧ b < w.heap.size
  uniq : ∀ t g blk t' g' blk' b cap cap', t ≠ t' → S.M t = (g, some blk) → S.M t' = (g', some blk') → OwS blk.st → μ t = some (b, cap) → μ t' = some (b, cap') → blk'.st = 2 ∧ blk'.cells.length ≤ blk.cells.length
  anc : ∀ t g blk, S.M t = (g, some blk) → 3 ≤ blk.st → μ t = cx.loc (blk.st - 3)
  below : BelowW cx.Wr cx.w0 w
  size : a.tmps.size = cx.n
  defers : a.defers = []

/-- What the caller keeps for itself lies in old blocks that the call does not write. -/
def Cx.Good (cx : Cx) : Prop := ∀ b, cx.X0 b → b < cx.w0.heap.size ∧ ¬ cx.Wr b

def Sim (cx : Cx) (S : St) (a : Act) (w : World) : Prop := ∃ μ, SimU cx S a w μ

end Go.Ab
