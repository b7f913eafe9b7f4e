/- The abstract layer, part 9: slices that are made, appended to, cut; stores. -/
import Derived.Test.YtjlfgobbieljoaaAb8
namespace Go.Ab
open Go.RowKit

section
variable {cx : Cx} {S S' : St} {a : Act} {w : World} {μ : Nat → Option (Nat × Nat)} {o : Oper}

theorem make_runs (h : SimU cx S a w μ) {t : TypeId} {x y : Operand} (ho : o.op = .makeSlice t x y) {out : Out} (hr : makeOut cx.P t (S.ev x) (S.ev y) = some out)
    (ha : S.apply cx.n o.dst out = some S') : Runs cx S' o a w := by
  have hx := h.ev x
  have hy := h.ev y
  unfold makeOut at hr
  split at hr
  · rename_i e n m he ex ey
    rw [ex] at hx
    rw [ey] at hy
    simp only [SVRep] at hx hy
    generalize hvx : a.eval x = vx at *
    generalize hvy : a.eval y = vy at *
    cases hx; cases hy
    split at hr
    · rename_i zs sz by' hz hs hby
      split at hr
      · rename_i hc
        obtain ⟨h0, h1, hb, hm, hl⟩ := hc
        simp only [Option.some.injEq] at hr
        subst hr
        have hu := elemP_spec he
        unfold zeroP at hz
        split at hz
        · rename_i i hi
          obtain ⟨z, hz', rfl⟩ := Option.map_eq_some_iff.1 hz
          simp only [szP, bytesP, hi, Option.map_some, Option.some.injEq] at hs hby
          subst hs
          subst hby
          have hzl : z.cells.size = i.size := by simpa using hl
          have hrun := run_make (P := cx.P) w t e i z hu hi hz' .i64 .i64 n m h0 h1 hb hm
          have hmc : madeCells z.cells (m.toNat * i.size) = (List.replicate m.toNat z.cells.toList).flatten.toArray := by
            rw [← mod_range_flat, ← hzl]
            unfold madeCells
            apply Array.ext'
            simp
          rw [hmc] at hrun
          refine runs_mk h (cap := m.toNat) (k := n.toNat) ha ?_ ?_ ?_ ?_ (v := .slice (some ⟨w.heap.size, 0, none⟩) n.toNat m.toNat) ?_ (cur := (List.replicate m.toNat z.cells.toList).flatten.toArray)
          · simp [hzl]; exact Nat.mul_le_mul_right _ (by omega)
          · intro j c u hc hu'
            have hrep := svreps_flatten_replicate (cx := cx) (S := S) (w := w) (μ := μ) (svreps_map z.cells.toList) n.toNat
            refine hrep.get j c u hc ?_
            have hj := (List.getElem?_eq_some_iff.1 hc).1
            have hmn : m.toNat = n.toNat + (m.toNat - n.toNat) := by omega
            rw [hmn, ← List.replicate_append_replicate, List.flatten_append] at hu'
            simp only [List.getElem?_toArray] at hu'
            rwa [List.getElem?_append_left (by simpa [hzl] using hj)] at hu'
          · intro _
            refine ⟨by simp [hzl], by simp only [maxLen]; omega, by omega, rfl⟩
          · intro hf; simp at hf
          · unfold execOp
            simp only [ho, hvx, hvy, Sem.run_bind, hrun, Result.andThen_ok]
            rfl
        · cases hz
      · cases hr
    · cases hr
  · cases hr

def buildSliceOut (P : Program) (t : TypeId) (len : Nat) (parts : List (Nat × SV)) : Option Out :=
  match elemP P t with
  | some e => match zeroP P e, szP P e with
    | some zs, some sz => if zs.length = sz ∧ len * sz ≤ 16777216 ∧ len ≤ 16777216 then
        (fillSV (fun i => some (i * sz, sz)) (List.replicate len zs).flatten parts).map fun cs => .mk ⟨cs, sz, e, 0, true⟩ len
      else none
    | _, _ => none
  | none => none

theorem fillSV_length {place : Nat → Option (Nat × Nat)} : ∀ (ps : List (Nat × SV)) (cells out : List SV), fillSV place cells ps = some out → out.length = cells.length
  | [], cells, out, h => by simp only [fillSV, Option.some.injEq] at h; subst h; rfl
  | (i, s) :: ps, cells, out, h => by
    simp only [fillSV] at h
    split at h
    · split at h
      · rename_i hle
        rw [fillSV_length ps _ out h, putCells_length _ _ _ hle.2]
      · cases h
    · cases h

theorem buildSlice_runs (h : SimU cx S a w μ) {t : TypeId} {len : Nat} {parts : Array (Nat × Operand)} (ho : o.op = .buildSlice t len parts) {out : Out}
    (hr : buildSliceOut cx.P t len (parts.toList.map fun p => (p.1, S.ev p.2)) = some out) (ha : S.apply cx.n o.dst out = some S') : Runs cx S' o a w := by
  unfold buildSliceOut at hr
  split at hr
  · rename_i e he
    split at hr
    · rename_i zs sz hz hs
      split at hr
      · rename_i hc
        obtain ⟨cs, hf, rfl⟩ := Option.map_eq_some_iff.1 hr
        have hu := elemP_spec he
        unfold zeroP at hz
        split at hz
        · rename_i i hi
          obtain ⟨z, hz', rfl⟩ := Option.map_eq_some_iff.1 hz
          simp only [szP, hi, Option.map_some, Option.some.injEq] at hs
          subst hs
          have hzl : z.cells.size = i.size := by simpa using hc.1
          have hl := fillSV_length _ _ _ hf
          obtain ⟨ov, h1, h2⟩ := fill_rep (w := w) (cx := cx) (S := S) (μ := μ) (parts.toList.map fun p => (p.1, S.ev p.2)) (parts.toList.map fun p => (p.1, a.eval p.2)) _ ((List.replicate len z.cells.toList).flatten.toArray) cs (by simp)
            (fun j p q hp' hq' => by
              simp only [List.getElem?_map, Option.map_eq_some_iff] at hp' hq'
              obtain ⟨p0, e0, rfl⟩ := hp'
              obtain ⟨q0, e1, rfl⟩ := hq'
              rw [e0] at e1
              simp only [Option.some.injEq] at e1
              subst e1
              exact ⟨rfl, h.ev _⟩) (by simpa using svreps_flatten_replicate (svreps_map z.cells.toList) len) hf
          have hol : ov.size = len * i.size := by
            have := h2.length
            rw [hl] at this
            simpa [hzl] using this
          have hbig : ¬ (len * i.size > 2 ^ 24) := by omega
          have hrun : (Instr.buildSlice t len (parts.map fun (i, x) => (i, a.eval x))).run cx.P w = .ok (.slice (some ⟨w.heap.size, 0, none⟩) len len) (w.alloc (.cells ov e)) := by
            have hz0 : ((Array.range (len * i.size)).map fun j => z.cells[j % z.cells.size]!) = (List.replicate len z.cells.toList).flatten.toArray := by
              rw [← mod_range_flat, hzl]
              apply Array.ext'
              simp
            by_cases h0 : len * i.size = 0
            · have e0 : (List.replicate len z.cells.toList).flatten = [] := by
                apply List.eq_nil_of_length_eq_zero
                simp [hzl, h0]
              rw [e0] at h1
              have h1' : Instr.fill (fun j => some (j * i.size, i.size)) #[] (List.map (fun x => (x.1, a.eval x.2)) parts.toList) = some ov := h1
              simp [Instr.buildSlice, run_underlying hu, sizeOf, typeInfo, hi, h0, h1', newRow, Array.range_zero']
            · rw [← hz0] at h1
              have h1' : Instr.fill (fun j => some (j * i.size, i.size)) (Array.map (fun j => z.cells[j % z.cells.size]!) (Array.range (len * i.size))) (List.map (fun x => (x.1, a.eval x.2)) parts.toList) = some ov := h1
              have hbig' : ¬ (16777216 < len * i.size) := by omega
              simp only [Instr.buildSlice, Sem.run_bind, run_underlying hu, Result.andThen_ok, sizeOf, typeInfo, run_program, hi, Sem.run_pure, hbig, h0, if_false, zeroValue, hz', Array.toList_map]
              rw [h1']
              simp [newRow]
          refine runs_mk h (cap := len) ha (by rw [hl]; simp [hzl, hol]) (fun j c u hc' hu' => h2.get j c u hc' (by simpa using hu')) ?_ (fun hf => by simp at hf) (v := .slice (some ⟨w.heap.size, 0, none⟩) len len) (cur := ov) ?_
          · intro _
            refine ⟨hol, ?_, Nat.le_refl _, rfl⟩
            simp only [maxLen]; omega
          · unfold execOp
            simp only [ho, Sem.run_bind, hrun, Result.andThen_ok]
            rfl
        · cases hz
      · cases hr
    · cases hr
  · cases hr

end
end Go.Ab
