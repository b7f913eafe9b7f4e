/- The abstract layer, part 12: stores; cuts; lengths; conversions; function values. -/
import Derived.Test.YtjlfgobbieljoaaAb11
namespace Go.Ab
open Go.RowKit

section
variable {cx : Cx} {S S' : St} {a : Act} {w : World} {μ : Nat → Option (Nat × Nat)} {o : Oper}

def storeOut (P : Program) (t : TypeId) (x : SV × Option Blk) (v : SV) : Option Out :=
  match x, szP P t, cellsSV v with
  | (.pt t' _ k, some blk), some sz, some cs =>
    if cs.length = sz ∧ cs.all cellOk = true ∧ k + cs.length ≤ blk.cells.length then some (.put t' { blk with cells := putCells blk.cells k cs }) else none
  | _, _, _ => none

theorem store_runs (h : SimU cx S a w μ) {t : TypeId} {x y : Operand} (ho : o.op = .store t x y) {out : Out} (hr : storeOut cx.P t (S.look x) (S.ev y) = some out) (ha : S.apply cx.n o.dst out = some S') : Runs cx S' o a w := by
  have hx := h.ev x
  have hy := h.ev y
  unfold storeOut at hr
  generalize hlk : S.look x = lx at hr
  split at hr
  · rename_i t' g k blk sz cs hs hcs
    have ex : S.ev x = .pt t' g k := congrArg Prod.fst hlk
    have eb : blkOf S.M (S.ev x) = some blk := congrArg Prod.snd hlk
    rw [ex] at hx eb
    have hM := blkOf_pt eb
    split at hr
    · rename_i hc
      obtain ⟨c1, c2, c3⟩ := hc
      simp only [Option.some.injEq] at hr
      subst hr
      cases hd : o.dst with
      | some d => rw [hd] at ha; simp [St.apply] at ha
      | none =>
        rw [hd] at ha
        simp only [St.apply, hM] at ha
        split at ha
        · rename_i hst
          simp only [Option.some.injEq] at ha
          subst ha
          simp only [SVRep] at hx
          obtain ⟨b, cap, hm, hv⟩ := hx.2 blk hM
          have hb := h.blk t' g blk hM
          unfold BlkRep at hb
          rw [hm] at hb
          simp only at hb
          obtain ⟨cur, q1, q2, q3, q4, q5⟩ := hb
          have hrep := cellsSV_rep hcs hy
          have hl : (a.eval y).cells.toList.length = cs.length := hrep.length
          have h1 : ∀ u ∈ (a.eval y).cells.toList, u.oneCell' = true := fun u hu => by
            obtain ⟨j, hj, rfl⟩ := List.getElem_of_mem hu
            have hj' : j < cs.length := by omega
            exact cellOk_rep (List.all_eq_true.1 c2 _ (List.getElem_mem hj')) (hrep.get j _ _ (List.getElem?_eq_getElem hj') (List.getElem?_eq_getElem hj))
          have hst' := run_storeCells_at cx.P b k blk.elem (a.eval y).cells.toList 0 cur w q1 (by omega) h1
          simp only [Nat.add_zero] at hst'
          have hW := h.write hM hst hm q1 k cs (a.eval y).cells.toList hl (fun j c u hc hu => hrep.get j c u hc hu) c3
          refine ⟨undef, w.setRow b (putCells cur.toList k (a.eval y).cells.toList).toArray, μ, .inr ⟨?_, rfl⟩, ?_⟩
          · unfold szP at hs
            obtain ⟨i, hi, hi2⟩ := Option.map_eq_some_iff.1 hs
            have hsz : (a.eval y).cells.size = i.size := by rw [hi2, ← c1]; simpa using hl
            unfold execOp
            simp only [ho, hv, Instr.storeAt, Instr.sureAddr, storeVar, Sem.run_bind, Sem.run_pure, Result.andThen_ok, sizeOf, typeInfo, run_program, hi, hsz, ne_eq, not_true_eq_false, if_false, hst']
            rfl
          · rw [hd]
            exact hW
        · cases ha
    · cases hr
  · cases hr

theorem bound_run {P : Program} {k : IntKind} {n : Int} {y : Nat} {code : BoundsCode} (h0 : 0 ≤ n) (h1 : n ≤ y) (w : World) : (Instr.sliceBound (.int k n) y code).run P w = .ok n.toNat w := by
  simp [Instr.sliceBound, asIntOf, h0, h1]

/-- The bounds of a cut: what they are read as. -/
theorem bounds_run {P : Program} {isS : Bool} {len cap : Nat} {lo hi mx : Option Value} {n m k : Int} (hlo : lo = none ∧ n = 0 ∨ ∃ q, lo = some (.int q n)) (hhi : hi = none ∧ m = len ∧ mx = none ∨ ∃ q, hi = some (.int q m))
    (hmx : mx = none ∧ k = cap ∨ ∃ q, mx = some (.int q k)) (h0 : 0 ≤ n) (h1 : n ≤ m) (h2 : m ≤ k) (h3 : k ≤ cap) (w : World) :
    (Instr.sliceBounds isS len cap lo hi mx).run P w = .ok (n.toNat, m.toNat, k.toNat) w := by
  have b1 : ∀ q code, (Instr.sliceBound (.int q n) m.toNat code).run P w = .ok n.toNat w := fun q code => bound_run h0 (by omega) w
  have b2 : ∀ q code, (Instr.sliceBound (.int q m) k.toNat code).run P w = .ok m.toNat w := fun q code => bound_run (by omega) (by omega) w
  have b2' : ∀ q code, (Instr.sliceBound (.int q m) cap code).run P w = .ok m.toNat w := fun q code => bound_run (by omega) (by omega) w
  have b3 : ∀ q code, (Instr.sliceBound (.int q k) cap code).run P w = .ok k.toNat w := fun q code => bound_run (by omega) h3 w
  have e0 : n = 0 → n.toNat = 0 := fun h => by omega
  have e1 : m = len → m.toNat = len := fun h => by omega
  have e2 : k = cap → k.toNat = cap := fun h => by omega
  rcases hmx with ⟨rfl, hk⟩ | ⟨q3, rfl⟩ <;> rcases hhi with ⟨rfl, hm, hc⟩ | ⟨q2, rfl⟩ <;> rcases hlo with ⟨rfl, hn⟩ | ⟨q1, rfl⟩
  · simp [Instr.sliceBounds, e0 hn, e1 hm, e2 hk]
  · have := b1 q1 .sliceB
    rw [e1 hm] at this
    simp [Instr.sliceBounds, this, e1 hm, e2 hk]
  · simp [Instr.sliceBounds, e0 hn, b2', e2 hk]
  · simp [Instr.sliceBounds, b1, b2', e2 hk]
  · cases hc
  · cases hc
  · simp [Instr.sliceBounds, b2, b3, e0 hn]
  · simp [Instr.sliceBounds, b1, b2, b3]

end
end Go.Ab
