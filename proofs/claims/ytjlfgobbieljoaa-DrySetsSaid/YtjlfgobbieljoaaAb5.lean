/- The abstract layer, part 5: what an operation yields. -/
import Derived.Test.YtjlfgobbieljoaaAb4
namespace Go.Ab
open Go.RowKit

/-! what the program says of its types -/
def szP (P : Program) (t : TypeId) : Option Nat := (P.info? t).map (·.size)
def bytesP (P : Program) (t : TypeId) : Option Nat := (P.info? t).map (·.bytes)
def aggP (P : Program) (t : TypeId) : Option Bool := (P.underlying t).map fun | .struct _ | .array _ _ => true | _ => false
def elemP (P : Program) (t : TypeId) : Option TypeId := match P.underlying t with | some (.slice e) => some e | _ => none
def kindP (P : Program) (t : TypeId) : Option IntKind := match P.underlying t with | some (.int k) => some k | _ => none
def fieldP (P : Program) (s : TypeId) (f : Nat) : Option Nat :=
  match P.underlying s with
  | some (.struct fs) => match fs[f]? with
    | some fl => match szP P fl.type with
      | some (_ + 1) => some fl.offset
      | _ => none
    | none => none
  | _ => none

def svOfCell : Value → SV
  | .bool b => .dv (.bool b)
  | .int k n => .dv (.int k n)
  | .string s => .dv (.str s)
  | .slice none 0 0 => .nils
  | .pointer none => .dv .nilptr
  | .nilFunc => .dv .nilfn
  | .nilIface => .dv .nilIface
  | _ => .dead
def svOf : Value → SV
  | .agg cs => .agg (cs.toList.map svOfCell)
  | v => svOfCell v

def zeroP (P : Program) (t : TypeId) : Option (List SV) := match P.info? t with | some i => i.zero.map fun z => z.cells.toList.map svOfCell | none => none

section
variable {w : World} {M : Nat → Nat × Option Blk} {μ : Nat → Option (Nat × Nat)} {X : Nat → Prop}

theorem svOfCell_rep (v : Value) : SVRep w M μ X (svOfCell v) v := by
  unfold svOfCell
  split <;> simp only [SVRep]
  · exact .bool _
  · exact .int _ _
  · exact .str _
  · exact .nilptr
  · exact .nilfn
  · exact .nilIface

theorem svreps_map (l : List Value) : SVReps w M μ X (l.map svOfCell) l := by
  induction l with
  | nil => trivial
  | cons a l ih => simp only [List.map_cons, SVReps]; exact ⟨svOfCell_rep a, ih⟩

theorem svOf_rep (v : Value) : SVRep w M μ X (svOf v) v := by
  unfold svOf
  split
  · rename_i cs
    simp only [SVRep]
    exact ⟨cs.toList, by simp, svreps_map _⟩
  · exact svOfCell_rep v
end

def St.ev (S : St) : Operand → SV
  | .tmp t => S.F t
  | .const v => svOf v
  | .func f => .dv (.fn f [] [])
  | .global _ => .dead

theorem SimU.ev {cx : Cx} {S : St} {a : Act} {w : World} {μ : Nat → Option (Nat × Nat)} (h : SimU cx S a w μ) (x : Operand) :
    SVRep w S.M μ (XX cx S.M μ) (S.ev x) (a.eval x) := by
  cases x with
  | tmp t => exact h.slot t
  | const v => exact svOf_rep v
  | func f => simp only [St.ev, SVRep, Act.eval]; exact .fn f [] [] #[] #[] rfl rfl (fun j c hj => by simp at hj) (fun j c hj => by simp at hj)
  | global g => trivial

def blkOf (M : Nat → Nat × Option Blk) : SV → Option Blk
  | .sl t g _ _ => if (M t).1 = g then (M t).2 else none
  | .pt t g _ => if (M t).1 = g then (M t).2 else none
  | _ => none

theorem blkOf_sl {M : Nat → Nat × Option Blk} {t g off n : Nat} {blk : Blk} (h : blkOf M (.sl t g off n) = some blk) : M t = (g, some blk) := by
  simp only [blkOf] at h
  split at h
  · rename_i e; rw [← e, ← h]
  · cases h
theorem blkOf_pt {M : Nat → Nat × Option Blk} {t g off : Nat} {blk : Blk} (h : blkOf M (.pt t g off) = some blk) : M t = (g, some blk) := by
  simp only [blkOf] at h
  split at h
  · rename_i e; rw [← e, ← h]
  · cases h

abbrev Lk := Operand → SV × Option Blk
def St.look (S : St) : Lk := fun x => (S.ev x, blkOf S.M (S.ev x))

def cellsSV : SV → Option (List SV)
  | .dv (.agg ds) => some (ds.map .dv)
  | .dv d => some [.dv d]
  | .nils => some [.nils]
  | .emp b => some [.emp b]
  | .sl t g o n => some [.sl t g o n]
  | .pt t g o => some [.pt t g o]
  | .agg cs => some cs
  | _ => none

def cellOk : SV → Bool
  | .dv (.agg _) => false
  | .dv _ => true
  | .nils => true
  | .emp _ => true
  | .sl .. => true
  | .pt .. => true
  | _ => false

theorem repD_cell {w : World} {X : Nat → Prop} {d : DV} {v : Value} (h : RepD w X d v) (hd : ∀ cs, d ≠ .agg cs) : v.cells = #[v] ∧ v.oneCell' = true := by
  cases h <;> first | exact ⟨rfl, rfl⟩ | exact absurd rfl (hd _)

theorem cellOk_rep {w : World} {M : Nat → Nat × Option Blk} {μ : Nat → Option (Nat × Nat)} {X : Nat → Prop} {c : SV} {v : Value} (hc : cellOk c = true) (h : SVRep w M μ X c v) : v.oneCell' = true := by
  cases c with
  | dead => simp [cellOk] at hc
  | dv d =>
    simp only [SVRep] at h
    refine (repD_cell h fun cs e => ?_).2
    subst e
    simp [cellOk] at hc
  | nils => simp only [SVRep] at h; subst h; rfl
  | emp b => simp only [SVRep] at h; obtain ⟨a, cap, rfl, _⟩ := h; rfl
  | sl t g o n => simp only [SVRep] at h; exact h.1.1
  | pt t g o => simp only [SVRep] at h; exact h.1.1
  | agg cs => simp [cellOk] at hc
  | tup cs => simp [cellOk] at hc

theorem cells_of_one {v : Value} (h : v.oneCell' = true) : v.cells = #[v] := by
  cases v <;> first | rfl | simp [Value.oneCell'] at h

theorem cellsSV_rep {w : World} {M : Nat → Nat × Option Blk} {μ : Nat → Option (Nat × Nat)} {X : Nat → Prop} {s : SV} {cs : List SV} {v : Value} (hc : cellsSV s = some cs) (h : SVRep w M μ X s v) :
    SVReps w M μ X cs v.cells.toList := by
  cases s with
  | dead => simp [cellsSV] at hc
  | dv d =>
    simp only [SVRep] at h
    cases d with
    | agg ds =>
      simp only [cellsSV, Option.some.injEq] at hc
      subst hc
      cases h with
      | agg _ vs hsz hh =>
        refine SVReps.mk (by simpa [Value.cells] using hsz) fun j c u hj hu => ?_
        simp only [List.getElem?_map, Option.map_eq_some_iff] at hj
        obtain ⟨d, hd, rfl⟩ := hj
        have := hh j d hd
        simp only [Value.cells, Array.getElem?_toList] at hu
        simp only [SVRep]
        simpa [hu] using this
    | _ =>
      simp only [cellsSV, Option.some.injEq] at hc
      subst hc
      rw [(repD_cell h (by simp)).1]
      exact ⟨by simpa only [SVRep] using h, trivial⟩
  | nils =>
    simp only [cellsSV, Option.some.injEq] at hc
    subst hc
    simp only [SVRep] at h
    subst h
    exact ⟨rfl, trivial⟩
  | emp b =>
    simp only [cellsSV, Option.some.injEq] at hc
    subst hc
    have h' := h
    simp only [SVRep] at h'
    obtain ⟨a, cap, rfl, _⟩ := h'
    exact ⟨h, trivial⟩
  | sl t g o n =>
    simp only [cellsSV, Option.some.injEq] at hc
    subst hc
    rw [cells_of_one (by simp only [SVRep] at h; exact h.1.1)]
    exact ⟨h, trivial⟩
  | pt t g o =>
    simp only [cellsSV, Option.some.injEq] at hc
    subst hc
    rw [cells_of_one (by simp only [SVRep] at h; exact h.1.1)]
    exact ⟨h, trivial⟩
  | agg cs' =>
    simp only [cellsSV, Option.some.injEq] at hc
    subst hc
    simp only [SVRep] at h
    obtain ⟨vs, rfl, hv⟩ := h
    simpa [Value.cells] using hv
  | tup cs' => simp [cellsSV] at hc

/-- A struct's value: as a datum where all its cells are. -/
def allDv : List SV → Option (List DV)
  | [] => some []
  | .dv d :: r => match allDv r with | some l => some (d :: l) | none => none
  | _ :: _ => none
def aggSV (cs : List SV) : SV := match allDv cs with | some ds => .dv (.agg ds) | none => .agg cs

theorem allDv_map : ∀ (cs : List SV) (ds : List DV), allDv cs = some ds → cs = ds.map .dv
  | [], ds, h => by simp [allDv] at h; subst h; rfl
  | .dv d :: r, ds, h => by
    simp only [allDv] at h
    split at h
    · rename_i l hl
      simp only [Option.some.injEq] at h
      subst h
      rw [allDv_map r l hl]
      rfl
    · cases h
  | .dead :: _, _, h | .nils :: _, _, h | .emp _ :: _, _, h | .sl .. :: _, _, h | .pt .. :: _, _, h | .agg _ :: _, _, h | .tup _ :: _, _, h => by simp [allDv] at h

theorem allDv_of_map (ds : List DV) : allDv (ds.map .dv) = some ds := by
  induction ds with
  | nil => rfl
  | cons d ds ih => simp [allDv, ih]

theorem aggSV_rep {w : World} {M : Nat → Nat × Option Blk} {μ : Nat → Option (Nat × Nat)} {X : Nat → Prop} {cs : List SV} {vs : List Value} (h : SVReps w M μ X cs vs) : SVRep w M μ X (aggSV cs) (.agg vs.toArray) := by
  unfold aggSV
  split
  · rename_i ds hd
    have e := allDv_map cs ds hd
    subst e
    simp only [SVRep]
    obtain ⟨h1, h2⟩ := svreps_arr h
    refine .agg ds vs.toArray (by simpa using h1) fun j c hj => ?_
    have := h2 j (.dv c) (by simp [hj])
    simpa only [SVRep] using this
  · simp only [SVRep]
    exact ⟨vs, rfl, h⟩

end Go.Ab
