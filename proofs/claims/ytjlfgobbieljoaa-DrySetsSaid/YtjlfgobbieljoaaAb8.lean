/- The abstract layer, part 8: operations that make memory or write it. -/
import Derived.Test.YtjlfgobbieljoaaAb7
import Derived.Deep.AppendSrc
namespace Go.Ab
open Go.RowKit

section
variable {cx : Cx} {S S' : St} {a : Act} {w : World} {μ : Nat → Option (Nat × Nat)} {o : Oper}

/-- A new block and the reference to it. -/
theorem runs_mk (h : SimU cx S a w μ) {blk : Blk} {k : Nat} {cur : Array Value} {cap : Nat} {v : Value} (ha : S.apply cx.n o.dst (.mk blk k) = some S')
    (hcells : blk.cells.length ≤ cur.size) (hc : ∀ (j : Nat) c u, blk.cells[j]? = some c → cur[j]? = some u → SVRep w S.M μ (XX cx S.M μ) c u)
    (hrow : blk.row = true → cur.size = cap * blk.esz ∧ cap ≤ maxLen ∧ k ≤ cap ∧ v = .slice (some ⟨w.heap.size, 0, none⟩) k cap)
    (hbox : blk.row = false → blk.cells.length = cur.size ∧ v = .pointer (some ⟨w.heap.size, 0, none⟩))
    (hrun : (execOp a.eval o).run cx.P w = .ok (.value v) (w.alloc (.cells cur blk.elem))) (hst3 : blk.st < 3 := by (first | decide | simp)) : Runs cx S' o a w := by
  cases hd : o.dst with
  | none => rw [hd] at ha; simp [St.apply] at ha
  | some d =>
    rw [hd] at ha
    simp only [St.apply] at ha
    split at ha
    · rename_i hdn
      simp only [Option.some.injEq] at ha
      subst ha
      refine ⟨v, _, upd μ d (some (w.heap.size, cap)), .inl hrun, ?_⟩
      rw [hd]
      have h1 := h.create d blk cur cap hst3 hcells hc (fun hr => ⟨(hrow hr).1, (hrow hr).2.1⟩) (fun hr => (hbox hr).1)
      refine h1.set (S := ⟨S.F, upd S.M d ((S.M d).1 + 1, some blk)⟩) hdn ?_
      cases hrw : blk.row with
      | true =>
        obtain ⟨_, _, hk, rfl⟩ := hrow hrw
        simp only [if_true, SVRep]
        refine ⟨⟨rfl, by rw [upd_same]; exact Nat.le_refl _⟩, fun blk' e => ?_⟩
        rw [upd_same] at e
        simp only [Prod.mk.injEq, Option.some.injEq, true_and] at e
        subst e
        rw [upd_same]
        simp [hk]
      | false =>
        obtain ⟨_, rfl⟩ := hbox hrw
        simp only [Bool.false_eq_true, if_false, SVRep]
        refine ⟨⟨rfl, by rw [upd_same]; exact Nat.le_refl _⟩, fun blk' e => ⟨w.heap.size, cap, by rw [upd_same], rfl⟩⟩
    · cases ha

theorem runs_box (h : SimU cx S a w μ) {T : TypeId} {cs : List SV} {vs : List Value} (hvs : SVReps w S.M μ (XX cx S.M μ) cs vs)
    (hrun : (execOp a.eval o).run cx.P w = .ok (.value (.pointer (some ⟨w.heap.size, 0, none⟩))) (w.alloc (.cells vs.toArray T)))
    (ha : S.apply cx.n o.dst (.mk ⟨cs, 0, T, 0, false⟩ 0) = some S') : Runs cx S' o a w :=
  runs_mk h (cap := 0) ha (by simp [hvs.length]) (fun j c u hc hu => hvs.get j c u hc (by simpa using hu)) (fun hr => by simp at hr) (fun _ => ⟨by simp [hvs.length], rfl⟩) hrun

theorem box_runs (h : SimU cx S a w μ) {T : TypeId} {x : Operand} (ho : o.op = .box T x) {cs : List SV} (hc : cellsSV (S.ev x) = some cs)
    (ha : S.apply cx.n o.dst (.mk ⟨cs, 0, T, 0, false⟩ 0) = some S') : Runs cx S' o a w := by
  refine runs_box h (cellsSV_rep hc (h.ev x)) ?_ ha
  unfold execOp
  simp only [ho, Instr.box, newVar, newRow, Sem.run_bind, run_newObj, Result.andThen_ok, Sem.run_pure, Array.toArray_toList]
  rfl

theorem zero_run {P : Program} {T : TypeId} {cs : List SV} (h : zeroP P T = some cs) (w : World) : ∃ z, (zeroValue T).run P w = .ok z w ∧ z.cells.toList.map svOfCell = cs := by
  unfold zeroP at h
  split at h
  · rename_i i hi
    obtain ⟨z, hz, rfl⟩ := Option.map_eq_some_iff.1 h
    exact ⟨z, by simp [zeroValue, typeInfo, hi, hz], rfl⟩
  · cases h

theorem alloc_runs (h : SimU cx S a w μ) {T : TypeId} (ho : o.op = .alloc T) {cs : List SV} (hc : zeroP cx.P T = some cs)
    (ha : S.apply cx.n o.dst (.mk ⟨cs, 0, T, 0, false⟩ 0) = some S') : Runs cx S' o a w := by
  obtain ⟨z, hz, rfl⟩ := zero_run hc w
  refine runs_box h (vs := z.cells.toList) (svreps_map _) ?_ ha
  unfold execOp
  simp only [ho, Instr.alloc, newVar, newRow, Sem.run_bind, hz, run_newObj, Result.andThen_ok, Sem.run_pure, Array.toArray_toList]
  rfl

/-! build -/
def fillSV (place : Nat → Option (Nat × Nat)) (cells : List SV) : List (Nat × SV) → Option (List SV)
  | [] => some cells
  | (i, s) :: rest =>
    match place i, cellsSV s with
    | some (off, size), some cs => if cs.length = size ∧ off + cs.length ≤ cells.length then fillSV place (putCells cells off cs) rest else none
    | _, _ => none

theorem zipFold (off : Nat) (vs : List Value) : ∀ (k : Nat) (cells : Array Value), off + k + vs.length ≤ cells.size →
    ((vs.zipIdx k).foldl (fun cs (c, j) => cs.setIfInBounds (off + j) c) cells).toList = putCells cells.toList (off + k) vs := by
  induction vs with
  | nil => intro k cells _; simp [putCells]
  | cons v vs ih =>
    intro k cells hk
    simp only [List.zipIdx_cons, List.foldl_cons]
    rw [ih (k + 1) _ (by simp only [List.length_cons] at hk; simp; omega)]
    apply List.ext_getElem?
    intro j
    have hk' := hk
    simp only [List.length_cons] at hk'
    rw [putCells_get _ _ _ _ (by simp only [Array.length_toList, Array.size_setIfInBounds]; omega), putCells_get _ _ _ _ (by simp only [Array.length_toList, List.length_cons]; omega)]
    simp only [Array.toList_setIfInBounds]
    by_cases h1 : j < off + k
    · rw [if_pos (by omega), if_pos h1, List.getElem?_set_ne (by omega)]
    · by_cases h2 : j = off + k
      · subst h2
        rw [if_pos (by omega), List.getElem?_set_self (by simp only [Array.length_toList]; omega), if_neg (by omega), if_pos (by simp only [List.length_cons]; omega)]
        simp
      · rw [if_neg (by omega), if_neg h1]
        by_cases h3 : j < off + (k + 1) + vs.length
        · rw [if_pos h3, if_pos (by simp only [List.length_cons]; omega)]
          rw [show j - (off + k) = (j - (off + (k + 1))) + 1 by omega, List.getElem?_cons_succ]
        · rw [if_neg h3, if_neg (by simp only [List.length_cons]; omega), List.getElem?_set_ne (by omega)]

theorem fill_rep {place : Nat → Option (Nat × Nat)} : ∀ (ps : List (Nat × SV)) (vs : List (Nat × Value)) (cells : List SV) (cv : Array Value) (out : List SV), ps.length = vs.length →
    (∀ (j : Nat) (p : Nat × SV) (q : Nat × Value), ps[j]? = some p → vs[j]? = some q → p.1 = q.1 ∧ SVRep w S.M μ (XX cx S.M μ) p.2 q.2) →
    SVReps w S.M μ (XX cx S.M μ) cells cv.toList → fillSV place cells ps = some out →
    ∃ ov, Instr.fill place cv vs = some ov ∧ SVReps w S.M μ (XX cx S.M μ) out ov.toList
  | [], [], cells, cv, out, _, _, hcv, h => by
    simp only [fillSV, Option.some.injEq] at h
    subst h
    exact ⟨cv, rfl, hcv⟩
  | [], _ :: _, _, _, _, hl, _, _, _ => by simp at hl
  | _ :: _, [], _, _, _, hl, _, _, _ => by simp at hl
  | (i, s) :: ps, (i', v) :: vs, cells, cv, out, hl, hp, hcv, h => by
    obtain ⟨e1, hs⟩ := hp 0 (i, s) (i', v) rfl rfl
    simp only at e1
    subst e1
    simp only [fillSV] at h
    split at h
    · rename_i off size cs e2 e3
      split at h
      · rename_i hle
        have hcs := cellsSV_rep e3 hs
        have hsz : v.cells.size = cs.length := by have := hcs.length; simpa using this
        have hcl : cv.size = cells.length := by have := hcv.length; simpa using this
        have hz := zipFold off v.cells.toList 0 cv (by simp; omega)
        simp only [Nat.add_zero] at hz
        have hzz : (v.cells.zipIdx.foldl (fun cs (c, j) => cs.setIfInBounds (off + j) c) cv).toList = putCells cv.toList off v.cells.toList := by
          rw [← hz, ← Array.foldl_toList, Array.toList_zipIdx]
        obtain ⟨ov, h1, h2⟩ := fill_rep ps vs (putCells cells off cs) (v.cells.zipIdx.foldl (fun cs (c, j) => cs.setIfInBounds (off + j) c) cv) out (by simpa using hl)
          (fun j p q hp' hq' => hp (j + 1) p q (by simpa using hp') (by simpa using hq')) (by
            rw [hzz]
            refine SVReps.mk ?_ fun j c u hc hu => ?_
            · rw [putCells_length _ _ _ (by simp; omega), putCells_length _ _ _ hle.2]
              simpa using hcl
            · rw [putCells_get _ _ _ _ hle.2] at hc
              rw [putCells_get _ _ _ _ (by simp; omega)] at hu
              have el : v.cells.toList.length = cs.length := by simpa using hsz
              rw [el] at hu
              split at hc
              · rename_i hj; rw [if_pos hj] at hu; exact hcv.get j c u hc hu
              · rename_i hj
                rw [if_neg hj] at hu
                split at hc
                · rename_i hj2; rw [if_pos hj2] at hu; exact hcs.get _ c u hc hu
                · rename_i hj2; rw [if_neg hj2] at hu; exact hcv.get j c u hc hu) h
        refine ⟨ov, ?_, h2⟩
        simp only [Instr.fill, e2]
        rw [if_neg (by simp; omega)]
        exact h1
      · cases h
    · cases h

/-- The places of a struct's fields: offset and size. -/
def placesP (P : Program) (t : TypeId) : Option (List (Nat × Nat)) :=
  match P.underlying t with
  | some (.struct fs) => fs.toList.mapM fun f => (P.info? f.type).map fun i => (f.offset, i.size)
  | _ => none

def buildSV (P : Program) (t : TypeId) (parts : List (Nat × SV)) : Option SV :=
  match placesP P t, zeroP P t with
  | some places, some zero => (fillSV (fun i => places[i]?) zero parts).map aggSV
  | _, _ => none

theorem build_runs (h : SimU cx S a w μ) {t : TypeId} {parts : Array (Nat × Operand)} (ho : o.op = .build t parts) {r : SV} (hr : buildSV cx.P t (parts.toList.map fun p => (p.1, S.ev p.2)) = some r)
    (ha : S.apply cx.n o.dst (.val r) = some S') : Runs cx S' o a w := by
  unfold buildSV at hr
  split at hr
  · rename_i places zero hp hz
    obtain ⟨cs, hf, rfl⟩ := Option.map_eq_some_iff.1 hr
    unfold placesP at hp
    split at hp
    · rename_i fs hu
      unfold zeroP at hz
      split at hz
      · rename_i i hi
        obtain ⟨z, hz', rfl⟩ := Option.map_eq_some_iff.1 hz
        obtain ⟨ov, h1, h2⟩ := fill_rep (w := w) (cx := cx) (S := S) (μ := μ) (parts.toList.map fun p => (p.1, S.ev p.2)) (parts.toList.map fun p => (p.1, a.eval p.2)) _ z.cells cs (by simp)
          (fun j p q hp' hq' => by
            simp only [List.getElem?_map, Option.map_eq_some_iff] at hp' hq'
            obtain ⟨p0, e0, rfl⟩ := hp'
            obtain ⟨q0, e1, rfl⟩ := hq'
            rw [e0] at e1
            simp only [Option.some.injEq] at e1
            subst e1
            exact ⟨rfl, h.ev _⟩) (svreps_map _) hf
        have hb : cx.P.built t (parts.map fun (i, x) => (i, a.eval x)).toList = some ov := by
          unfold Program.built
          simp only [hi, hu, hz', hp]
          simpa using h1
        refine runs_val h (v := .agg ov) ?_ ?_ ha
        · unfold execOp
          simp only [ho, Sem.run_bind, run_build w t _ ov hb, Result.andThen_ok]
          rfl
        · have := aggSV_rep h2
          simpa using this
      · cases hz
    · cases hp
  · cases hr

/-! slices of the call's own -/
def rowZero (P : Program) (e len : Nat) : Option (List SV) :=
  match zeroP P e with
  | some zs => some (List.replicate len zs).flatten
  | none => none

theorem mod_range_flat (z : Array Value) : ∀ n : Nat, ((List.range (n * z.size)).map fun i => z[i % z.size]!) = (List.replicate n z.toList).flatten
  | 0 => by simp
  | n + 1 => by
    have ih := mod_range_flat z n
    rw [List.replicate_succ', List.flatten_append, ← ih, Nat.add_mul, Nat.one_mul, List.range_add, List.map_append]
    congr 1
    simp only [List.flatten_cons, List.flatten_nil, List.append_nil, List.map_map]
    apply List.ext_getElem?
    intro j
    by_cases hj : j < z.size
    · simp [hj, Nat.add_mod, Nat.mod_eq_of_lt hj]
    · rw [List.getElem?_eq_none (by simpa using hj), List.getElem?_eq_none (by simpa using hj)]

theorem svreps_flatten_replicate {zs : List SV} {z : List Value} (h : SVReps w S.M μ (XX cx S.M μ) zs z) : ∀ n, SVReps w S.M μ (XX cx S.M μ) (List.replicate n zs).flatten (List.replicate n z).flatten
  | 0 => trivial
  | n + 1 => by
    have app : ∀ (as : List SV) (av : List Value) (bs : List SV) (bv : List Value), SVReps w S.M μ (XX cx S.M μ) as av → SVReps w S.M μ (XX cx S.M μ) bs bv → SVReps w S.M μ (XX cx S.M μ) (as ++ bs) (av ++ bv) := by
      intro as
      induction as with
      | nil => intro av bs bv ha hb; cases av with | nil => exact hb | cons => simp only [SVReps] at ha
      | cons c as ih =>
        intro av bs bv ha hb
        cases av with
        | nil => simp only [SVReps] at ha
        | cons v av => simp only [SVReps, List.cons_append] at ha ⊢; exact ⟨ha.1, ih av bs bv ha.2 hb⟩
    simp only [List.replicate_succ, List.flatten_cons]
    exact app _ _ _ _ h (svreps_flatten_replicate h n)

def makeOut (P : Program) (t : TypeId) (l c : SV) : Option Out :=
  match elemP P t, l, c with
  | some e, .dv (.int .i64 n), .dv (.int .i64 m) =>
    match zeroP P e, szP P e, bytesP P e with
    | some zs, some sz, some by' => if 0 ≤ n ∧ n ≤ m ∧ by' * m ≤ 281474976710656 ∧ m ≤ 9223372036854775807 ∧ zs.length = sz then some (.mk ⟨(List.replicate n.toNat zs).flatten, sz, e, 0, true⟩ n.toNat) else none
    | _, _, _ => none
  | _, _, _ => none

end
end Go.Ab
