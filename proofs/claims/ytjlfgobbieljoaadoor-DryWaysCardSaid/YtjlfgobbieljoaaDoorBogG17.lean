/- Ab27, Ab28, Ab29, Ab30. -/
import Derived.Test.YtjlfgobbieljoaaDoorBogG16
set_option linter.all false
set_option linter.unusedVariables false
namespace Go.Ab
open Go.RowKit
structure MemU (w : World) (X : Nat → Prop) (Pl : Nat → Prop) (loc : Nat → Option (Nat × Nat)) (M : Nat → Nat × Option Blk) (μ : Nat → Option (Nat × Nat)) : Prop where
  blk : ∀ t g blk, M t = (g, some blk) → BlkRep w M μ X t blk
  place : ∀ t g blk b cap, M t = (g, some blk) → μ t = some (b, cap) → Pl b ∧ b < w.heap.size
  uniq : ∀ t g blk t' g' blk' b cap cap', t ≠ t' → M t = (g, some blk) → M t' = (g', some blk') → OwS blk.st → μ t = some (b, cap) → μ t' = some (b, cap') → blk'.st = 2 ∧ blk'.cells.length ≤ blk.cells.length
  anc : ∀ t g blk, M t = (g, some blk) → 3 ≤ blk.st → μ t = loc (blk.st - 3)
structure Yld where
  res : List SV
  mem : Nat → Nat × Option Blk
end Go.Ab
set_option linter.unusedVariables false
namespace Go.Ab
open Go.RowKit
mutual
def renSV (N : Nat → Nat × Option Blk) (ρ : Nat → Option (Nat × Nat)) : SV → SV
  | .sl e g off n => match ρ e with | some (t, gen) => if (N e).1 = g then .sl t gen off n else .dead | none => .dead
  | .pt e g off => match ρ e with | some (t, gen) => if (N e).1 = g then .pt t gen off else .dead | none => .dead
  | .agg cs => .agg (renSVs N ρ cs)
  | .tup cs => .tup (renSVs N ρ cs)
  | .val v => .val v
  | .dead => .dead
  | .dv d => .dv d
  | .nils => .nils
  | .emp b => .emp b
def renSVs (N : Nat → Nat × Option Blk) (ρ : Nat → Option (Nat × Nat)) : List SV → List SV
  | [] => []
  | c :: cs => renSV N ρ c :: renSVs N ρ cs
end
section
variable {w : World} {N M : Nat → Nat × Option Blk} {ν μ : Nat → Option (Nat × Nat)} {X X' : Nat → Prop} {ρ : Nat → Option (Nat × Nat)}
end
structure BackOk (τ : Nat → Option Nat) (M1 N M2 : Nat → Nat × Option Blk) (σ : Nat → Option Nat) (ρ : Nat → Option (Nat × Nat)) : Prop where
  at_ : ∀ t e, σ t = some e → ∃ b st gen, (N e).2 = some b ∧ M2 t = (gen, some { b with cells := renSVs N ρ b.cells, st := st }) ∧ ρ e = some (t, gen) ∧
    ((3 ≤ b.st ∧ τ (b.st - 3) = some t ∧ ∃ b0, M1 t = (gen, some b0) ∧ b0.st = st ∧ b0.esz = b.esz) ∨ (b.st < 2 ∧ st = b.st ∧ gen = (M1 t).1 + 1))
  off : ∀ t, σ t = none → (M2 t = noViews M1 t ∧ ∀ t', τ t' ≠ some t) ∨ M2 t = ((M1 t).1, none)
  ren : ∀ e t gen, ρ e = some (t, gen) → σ t = some e
section
variable {cx : Cx} {S : St} {a : Act} {w w' : World} {μ ν : Nat → Option (Nat × Nat)} {M1 M0 N M2 : Nat → Nat × Option Blk} {τ σ : Nat → Option Nat} {ρ : Nat → Option (Nat × Nat)}
end
end Go.Ab
set_option linter.unusedVariables false
namespace Go.Ab
open Go.RowKit
def mkB (l : List (Nat × Blk)) : Nat → Nat × Option Blk := mkM (l.map fun p => (p.1, 0, some p.2))
def frzF (M : Nat → Nat × Option Blk) (ts : List Nat) : Nat → Nat × Option Blk := fun t => if t ∈ ts then ((M t).1, (M t).2.map fun b => { b with st := 1 }) else M t
def MemOk (M : Nat → Nat × Option Blk) (τ : List (Nat × Nat)) : List (Nat × Blk) → List Nat → Prop
  | (_, b) :: mem, t :: ts => ((3 ≤ b.st ∧ tauL τ (b.st - 3) = some t ∧ ∃ b0, (M t).2 = some b0 ∧ b0.esz = b.esz) ∨ b.st < 2) ∧ MemOk M τ mem ts
  | [], [] => True
  | _, _ => False
def LentL (τ : List (Nat × Nat)) (M1 M0 : Nat → Nat × Option Blk) : List (Nat × Blk) → Prop
  | [] => True
  | (t', b') :: m0 => (b'.st = 3 + t' ∧ ∃ t b, tauL τ t' = some t ∧ (M1 t).2 = some b ∧ OwS b.st ∧ b'.esz = b.esz ∧ b'.elem = b.elem ∧ b'.row = b.row ∧ svLes (tauL τ) M1 M0 b'.cells b.cells) ∧ LentL τ M1 M0 m0
def FrzOk (M : Nat → Nat × Option Blk) : List Nat → Prop
  | [] => True
  | t :: ts => (∃ b, (M t).2 = some b ∧ (OwS b.st ∨ b.st = 1)) ∧ FrzOk M ts
section
variable {M : Nat → Nat × Option Blk} {fz : List Nat} {τ : List (Nat × Nat)}
end
section
variable {cx : Cx} {S : St} {a : Act} {w : World} {o : Oper} {fz : List Nat} {τ : List (Nat × Nat)} {m0 mem : List (Nat × Blk)} {rt : List Nat} {args : List SV} {res : List SV}
structure GOkay (S : St) (fz : List Nat) (τ : List (Nat × Nat)) (m0 mem : List (Nat × Blk)) (rt : List Nat) (args ss : List SV) : Prop where
  hfz : FrzOk S.M fz
  lent : LentL τ (frzF S.M fz) (mkB m0) m0
  inj : (τ.map (·.2)).Nodup
  keys : ∀ p ∈ τ, p.1 ∈ m0.map (·.1)
  nd0 : (m0.map (·.1)).Nodup
  hargs : svLes (tauL τ) (frzF S.M fz) (mkB m0) args ss
  hmem : MemOk S.M τ mem rt
  nd1 : (mem.map (·.1)).Nodup
  nd2 : rt.Nodup
  off : ∀ t ∈ rt, t ∉ fz
end
end Go.Ab
set_option linter.unusedVariables false
namespace Go.Ab
open Go.RowKit
section
variable {cx : Cx} {P : Program} {N : Nat} {ops : Array Oper} {rest : List Oper} {l : List (Nat × SV)} {m m' : List (Nat × Nat × Option Blk)} {K : St → Prop} {KD : List It → St → Prop} {its : List It}
  {d f : Nat} {ty : TypeId} {p : String} {af : Array Edge} {gd : Option (Nat × Bool)} {oa : Array Operand} {ts : Array TypeId} {args res ss : List SV} {m0 mem : List (Nat × Blk)}
end
end Go.Ab
