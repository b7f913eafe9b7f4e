/- Ab31, Ab32, Ab33, Ab34, Ab35. -/
import Derived.Test.YtjlfgobbieljoaaDoorBogG17
import Derived.RangeFuncCalls
set_option linter.all false
set_option linter.unusedVariables false
namespace Go.Ab
open Go.RowKit
section
variable {cx : Cx} {S : St} {a : Act} {w : World} {o : Oper}
end
section
variable {cx : Cx} {P : Program} {N : Nat} {ops : Array Oper} {rest : List Oper} {l : List (Nat × SV)} {m m' : List (Nat × Nat × Option Blk)} {K : St → Prop}
  {ty : TypeId} {p : String} {af : Array Edge} {gd : Option (Nat × Bool)} {x : Operand} {t e : TypeId} {tg g off n st : Nat} {k : IntKind} {L : List Int}
end
end Go.Ab
set_option linter.unusedVariables false
namespace Go.Ab
open Go.RowKit
section
variable {cx : Cx} {S : St}
theorem frzd_rep {a : Act} {w : World} {μ : Nat → Option (Nat × Nat)} (hg : cx.Good) (h : SimU cx S a w μ) {s : SV} {d : DV} (hD : Data (fun st => st = 1) (fun _ => True) S.M s d) (v : Value) (hv : SVRep w S.M μ (XX cx S.M μ) s v) : RepD w (XX cx S.M μ) d v :=
  Data.rep h (Y := XX cx S.M μ) (fun t g blk b cap e hst hm hx => by
    rcases hx with ⟨t', g', blk', cap', e', ho, hm'⟩ | hx
    · by_cases ht : t' = t
      · subst ht
        rw [e] at e'
        cases e'
        simp [OwS, hst] at ho
      · have := h.uniq t' g' blk' t g blk b cap' cap ht e' e ho hm' hm
        omega
    · rcases (h.place t g blk b cap e hm).1 with h1 | h1
      · have := (hg.1 b hx).1; omega
      · exact (hg.1 b hx).2 h1) (fun _ _ _ hr => hr) hD v hv
theorem Le.sink (hg : cx.Good) {i : Nat} {d : DV} (hD : Data (fun st => st = 1) (fun _ => True) S.M (S.F i) d) : Le cx S ⟨upd S.F i (.dv d), S.M⟩ := by
  rintro a w ⟨μ, h⟩
  refine ⟨μ, ⟨h.blk, fun j => ?_, h.place, h.uniq, h.anc, h.below, h.size, h.defers⟩⟩
  show SVRep w S.M μ _ (upd S.F i (.dv d) j) _
  by_cases hj : j = i
  · subst hj
    rw [upd_same]
    exact frzd_rep hg h hD _ (h.slot j)
  · rw [upd_ne _ _ _ _ hj]
    exact h.slot j
def sinkC (M : Nat → Nat × Option Blk) : List SV → List SV → Prop
  | [], [] => True
  | c :: cs, c' :: cs' => (c' = c ∨ ∃ d, c' = .dv d ∧ Data (fun st => st = 1) (fun _ => True) M c d) ∧ sinkC M cs cs'
  | _, _ => False
theorem sinkC_len {M : Nat → Nat × Option Blk} : ∀ {cs cs' : List SV}, sinkC M cs cs' → cs'.length = cs.length
  | [], [], _ => rfl
  | c :: cs, c' :: cs', h => by simp [sinkC_len h.2]
  | [], _ :: _, h => h.elim
  | _ :: _, [], h => h.elim
theorem sinkC_get {M : Nat → Nat × Option Blk} : ∀ {cs cs' : List SV} (h : sinkC M cs cs') (j : Nat) (c' : SV), cs'[j]? = some c' → ∃ c, cs[j]? = some c ∧ (c' = c ∨ ∃ d, c' = .dv d ∧ Data (fun st => st = 1) (fun _ => True) M c d)
  | [], [], _, j, c', hj => by simp at hj
  | c :: cs, e :: cs', h, 0, c', hj => by
    simp only [List.getElem?_cons_zero, Option.some.injEq] at hj
    subst hj
    exact ⟨c, rfl, h.1⟩
  | c :: cs, e :: cs', h, j + 1, c', hj => by
    simp only [List.getElem?_cons_succ] at hj ⊢
    exact sinkC_get h.2 j c' hj
  | [], _ :: _, h, _, _, _ => h.elim
  | _ :: _, [], h, _, _, _ => h.elim
theorem sinkC_refl {M : Nat → Nat × Option Blk} : ∀ cs : List SV, sinkC M cs cs
  | [] => trivial
  | c :: cs => ⟨.inl rfl, sinkC_refl cs⟩
theorem sinkC_app {M : Nat → Nat × Option Blk} : ∀ {a a' b b' : List SV}, sinkC M a a' → sinkC M b b' → sinkC M (a ++ b) (a' ++ b')
  | [], [], b, b', _, h => h
  | c :: a, c' :: a', b, b', h, k => ⟨h.1, sinkC_app h.2 k⟩
  | [], _ :: _, _, _, h, _ => h.elim
  | _ :: _, [], _, _, h, _ => h.elim
theorem Le.sinkB (hg : cx.Good) {t g : Nat} {b : Blk} {cs : List SV} (h0 : S.M t = (g, some b)) (hc : sinkC S.M b.cells cs) : Le cx S ⟨S.F, upd S.M t (g, some { b with cells := cs })⟩ := by
  rintro a w ⟨μ, h⟩
  have hM : ∀ t' g' blk', upd S.M t (g, some { b with cells := cs }) t' = (g', some blk') → ∃ blk, S.M t' = (g', some blk) ∧ blk'.st = blk.st ∧ blk'.esz = blk.esz ∧ blk'.cells.length = blk.cells.length := fun t' g' blk' e => by
    by_cases ht : t' = t
    · subst ht
      rw [upd_same] at e
      cases e
      exact ⟨b, h0, rfl, rfl, sinkC_len hc⟩
    · rw [upd_ne _ _ _ _ ht] at e
      exact ⟨blk', e, rfl, rfl, rfl⟩
  have hgen : ∀ t', (S.M t').1 ≤ (upd S.M t (g, some { b with cells := cs }) t').1 := fun t' => by
    by_cases ht : t' = t
    · subst ht; rw [upd_same, h0]; exact Nat.le_refl _
    · rw [upd_ne _ _ _ _ ht]; exact Nat.le_refl _
  have hk : ∀ x, x < w.heap.size → ¬ XX cx S.M μ x → w.heap[x]? = w.heap[x]? ∧ ¬ XX cx (upd S.M t (g, some { b with cells := cs })) μ x := fun x _ hx => ⟨rfl, fun ho => hx (by
    rcases ho with ⟨t', g', blk', cap, e, e2, e3⟩ | ho
    · obtain ⟨blk, e4, e5, _⟩ := hM t' g' blk' e
      exact .inl ⟨t', g', blk, cap, e4, by rw [← e5]; exact e2, e3⟩
    · exact .inr ho)⟩
  have hB : ∀ t' g' blk', upd S.M t (g, some { b with cells := cs }) t' = (g', some blk') → g' ≤ (S.M t').1 → ∃ blk, S.M t' = (g', some blk) ∧ μ t' = μ t' ∧ blk'.esz = blk.esz := fun t' g' blk' e _ => by
    obtain ⟨blk, e1, _, e2, _⟩ := hM t' g' blk' e
    exact ⟨blk, e1, rfl, e2⟩
  refine ⟨μ, ⟨fun t' g' blk' e => ?_, fun i => SVRep.mono (Nat.le_refl _) hk hgen hB _ _ (h.slot i), fun t' g' blk' x cap e hm => ?_, fun t1 g1 b1 t2 g2 b2 x cap cap' hne e1 e2 ho m1 m2 => ?_, fun t' g' blk' e h3 => ?_, h.below, h.size, h.defers⟩⟩
  · by_cases ht : t' = t
    · subst ht
      have e' : upd S.M t' (g, some { b with cells := cs }) t' = (g', some blk') := e
      rw [upd_same] at e'
      cases e'
      have hb := h.blk t' g b h0
      unfold BlkRep at hb ⊢
      cases hm : μ t' with
      | none =>
        rw [hm] at hb
        obtain ⟨q1, q2⟩ := hb
        refine ⟨?_, q2⟩
        have := sinkC_len hc
        rw [q1] at this
        exact List.eq_nil_of_length_eq_zero this
      | some p =>
        rw [hm] at hb
        obtain ⟨cur, q1, q2, q3, q4, q5⟩ := hb
        have hl := sinkC_len hc
        refine ⟨cur, q1, by show cs.length ≤ _; omega, fun j c u hj hu => ?_, q4, fun hr => by show cs.length = _; rw [hl]; exact q5 hr⟩
        obtain ⟨c0, hc0, h1⟩ := sinkC_get hc j c hj
        have q := q3 j c0 u hc0 hu
        rcases h1 with rfl | ⟨d, rfl, hD⟩
        · exact SVRep.mono (Nat.le_refl _) hk hgen hB _ _ q
        · exact (frzd_rep hg h hD u q).mono (Nat.le_refl _) hk
    · have e' : upd S.M t (g, some { b with cells := cs }) t' = (g', some blk') := e
      rw [upd_ne _ _ _ _ ht] at e'
      exact BlkRep.mono (st := blk'.st) (Nat.le_refl _) hk hgen hB rfl (fun _ _ _ => rfl) (h.blk t' g' blk' e')
  · obtain ⟨blk, e1, _⟩ := hM t' g' blk' e
    exact h.place t' g' blk x cap e1 hm
  · obtain ⟨c1, e3, e4, _, e5⟩ := hM t1 g1 b1 e1
    obtain ⟨c2, e6, e7, _, e8⟩ := hM t2 g2 b2 e2
    rw [e7, e5, e8]
    exact h.uniq t1 g1 c1 t2 g2 c2 x cap cap' hne e3 e6 (by rw [← e4]; exact ho) m1 m2
  · obtain ⟨blk, e1, e2, _⟩ := hM t' g' blk' e
    rw [e2] at h3 ⊢
    exact h.anc t' g' blk e1 h3
end
section
variable {cx : Cx} {c : Code} {K : Exit → St → Prop} {l : List (Nat × SV)} {m : List (Nat × Nat × Option Blk)}
theorem awp_frz (t : Nat) {g : Nat} {b : Blk} (k : AWp cx c K ⟨lk l, mkM ((t, g, some { b with st := 1 }) :: m)⟩) (h0 : mkM m t = (g, some b) := by (simp only [mkM, reduceIte, Nat.reduceEqDiff] <;> rfl)) (h1 : OwS b.st ∨ b.st = 1 := by (first | exact .inl (.inl rfl) | exact .inr rfl)) : AWp cx c K ⟨lk l, mkM m⟩ := by
  refine AWp.le (Le.freeze (S := ⟨lk l, mkM m⟩) h0 h1) ?_
  rw [upd_mkM]; exact k
theorem awp_sink (i : Nat) {d : DV} (hD : Data (fun st => st = 1) (fun _ => True) (mkM m) (lk l i) d) (hg : cx.Good) (k : AWp cx c K ⟨lk ((i, .dv d) :: l), mkM m⟩) : AWp cx c K ⟨lk l, mkM m⟩ := by
  refine AWp.le (Le.sink (S := ⟨lk l, mkM m⟩) hg hD) ?_
  show AWp cx c K ⟨upd (lk l) i (.dv d), mkM m⟩
  rw [upd_lk]; exact k
end
end Go.Ab
set_option linter.unusedVariables false
namespace Go.Ab
open Go.RowKit
section
variable {P : Program} {S : St} {x y : Operand} {t e by' tg g o : Nat} {ob : Option Blk}
end
end Go.Ab
set_option linter.all false
namespace Go.Ab
open Go.RowKit
section
variable {w w' : World} {M : Nat → Nat × Option Blk} {μ : Nat → Option (Nat × Nat)} {X : Nat → Prop}
end
section
variable {cx : Cx} {S S' : St} {a : Act} {w w' : World} {μ : Nat → Option (Nat × Nat)}
end
mutual
def DV.val : DV → Value
  | .bool b => .bool b
  | .int k n => .int k n
  | .str s => .string s
  | .agg cs => .agg (DV.vals cs).toArray
  | _ => undef
def DV.vals : List DV → List Value
  | [] => []
  | c :: cs => c.val :: DV.vals cs
end
end Go.Ab
set_option linter.all false
namespace Go.Ab
open Go.RowKit
section
variable {cx : Cx} {S S' : St} {a : Act} {w w' : World} {μ : Nat → Option (Nat × Nat)}
end
end Go.Ab
