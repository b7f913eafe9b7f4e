/- The abstract layer, part 7: operations that read memory. -/
import Derived.Test.YtjlfgobbieljoaaAb6
namespace Go.Ab
open Go.RowKit

section
variable {cx : Cx} {S S' : St} {a : Act} {w : World} {μ : Nat → Option (Nat × Nat)} {o : Oper}

theorem move_runs (h : SimU cx S a w μ) {x : Operand} (ho : o.op = .move x ∨ o.op = .assign x) (ha : S.apply cx.n o.dst (.val (S.ev x)) = some S') : Runs cx S' o a w := by
  refine runs_val h (v := a.eval x) ?_ (h.ev x) ha
  unfold execOp
  rcases ho with ho | ho <;> simp only [ho] <;> rfl

theorem pick_runs (h : SimU cx S a w μ) {c x y : Operand} (ho : o.op = .pick c x y) {b : Bool} (hb : S.ev c = .dv (.bool b)) (ha : S.apply cx.n o.dst (.val (pickSV b (S.ev x) (S.ev y))) = some S') : Runs cx S' o a w := by
  have hc := h.ev c
  rw [hb] at hc
  simp only [SVRep] at hc
  generalize hv : a.eval c = vc at *
  cases hc
  have hrun : (execOp a.eval o).run cx.P w = .ok (.value (if b then a.eval x else a.eval y)) w := by
    unfold execOp
    simp only [ho, hv]
    cases b <;> rfl
  refine runs_val h hrun ?_ ha
  have hx := h.ev x
  have hy := h.ev y
  have gen : SVRep w S.M μ (XX cx S.M μ) (bif b then S.ev x else S.ev y) (if b then a.eval x else a.eval y) := by cases b <;> simpa
  unfold pickSV
  split
  · rename_i p q e1 e2
    rw [e1, e2] at gen
    cases b <;> simpa only [cond_true, cond_false] using gen
  · exact gen

def extractSV (s : SV) (i : Nat) : Option SV :=
  match s with
  | .tup cs => cs[i]?
  | _ => none

theorem extract_runs (h : SimU cx S a w μ) {x : Operand} {i : Nat} (ho : o.op = .extract x i) {r : SV} (hr : extractSV (S.ev x) i = some r) (ha : S.apply cx.n o.dst (.val r) = some S') : Runs cx S' o a w := by
  have hx := h.ev x
  unfold extractSV at hr
  split at hr
  · rename_i cs e
    rw [e] at hx
    simp only [SVRep] at hx
    obtain ⟨vs, hv, hvs⟩ := hx
    have hi : i < vs.length := by have := hvs.length; have := (List.getElem?_eq_some_iff.1 hr).1; omega
    refine runs_val h (v := vs[i]) ?_ (hvs.get i r _ hr (by simp [hi])) ha
    unfold execOp
    simp only [ho, hv, Instr.extract]
    simp [hi]
  · cases hr

def fieldSV (P : Program) (s : TypeId) (f : Nat) : SV × Option Blk → Option SV
  | (.dv (.cptr cs), _) => match fieldP P s f with | some off => some (.dv (.cptr (cs.drop off))) | none => none
  | (.pt t g o, some _) => match fieldP P s f with | some off => some (.pt t g (o + off)) | none => none
  | _ => none

theorem field_run {P : Program} {s : TypeId} {f off : Nat} (h : fieldP P s f = some off) (b k : Nat) (w : World) :
    (Instr.fieldAt s (.pointer (some ⟨b, k, none⟩)) f).run P w = .ok (.pointer (some ⟨b, k + off, none⟩)) w := by
  unfold fieldP at h
  split at h
  · rename_i fs hu
    split at h
    · rename_i fl hf
      split at h
      · rename_i m hs
        simp only [Option.some.injEq] at h
        subst h
        unfold szP at hs
        obtain ⟨i, hi, hi2⟩ := Option.map_eq_some_iff.1 hs
        simp [Instr.fieldAt, run_underlying hu, hf, Instr.sureAddr, fieldPlace, sizeOf, typeInfo, hi, hi2, Addr.add_lit]
      · cases h
    · cases h
  · cases h

theorem field_runs (h : SimU cx S a w μ) {s : TypeId} {x : Operand} {f : Nat} (ho : o.op = .fieldAddr s x f) {r : SV} (hr : fieldSV cx.P s f (S.look x) = some r) (ha : S.apply cx.n o.dst (.val r) = some S') : Runs cx S' o a w := by
  have hx := h.ev x
  unfold fieldSV St.look at hr
  split at hr
  · rename_i cs q e
    simp only [Prod.mk.injEq] at e
    obtain ⟨e, _⟩ := e
    split at hr
    · rename_i off hoff
      simp only [Option.some.injEq] at hr
      subst hr
      rw [e] at hx
      simp only [SVRep] at hx
      generalize hv : a.eval x = vx at *
      cases hx with
      | cptr _ b k u h1 h2 h3 h4 =>
        refine runs_val h (v := .pointer (some ⟨b, k + off, none⟩)) ?_ ?_ ha
        · unfold execOp
          simp only [ho, hv, Sem.run_bind, field_run hoff, Result.andThen_ok]
          rfl
        · simp only [SVRep]
          refine .cptr _ b (k + off) (fun j => u (off + j)) h1 h2 (fun j c hj => ?_) (fun j c hj => ?_)
          · rw [List.getElem?_drop] at hj
            have := h3 _ c hj
            rwa [← Nat.add_assoc] at this
          · rw [List.getElem?_drop] at hj
            exact h4 _ c hj
    · cases hr
  · rename_i t g k blk e
    simp only [Prod.mk.injEq] at e
    obtain ⟨e, eb⟩ := e
    split at hr
    · rename_i off hoff
      simp only [Option.some.injEq] at hr
      subst hr
      rw [e] at hx eb
      have hM := blkOf_pt eb
      simp only [SVRep] at hx
      obtain ⟨b, cap, hm, hv⟩ := hx.2 blk hM
      refine runs_val h (v := .pointer (some ⟨b, k + off, none⟩)) ?_ ?_ ha
      · unfold execOp
        simp only [ho, hv, Sem.run_bind, field_run hoff, Result.andThen_ok]
        rfl
      · simp only [SVRep]
        refine ⟨⟨rfl, hx.1.2⟩, fun blk' e' => ⟨b, cap, hm, rfl⟩⟩
    · cases hr
  · cases hr

def indexSV (P : Program) (t : TypeId) (x : SV × Option Blk) (i : SV) : Option SV :=
  match elemP P t with
  | none => none
  | some e =>
    match i with
    | .dv (.int _ n) =>
      match x with
      | (.dv (.list l), _) => if h : 0 ≤ n ∧ n.toNat < l.length then (if szP P e = some (l[n.toNat]'h.2).cells.length then some (.dv (.cptr (l[n.toNat]'h.2).cells)) else none) else none
      | (.sl t g o m, some blk) => if 0 ≤ n ∧ n.toNat < m ∧ szP P e = some blk.esz then some (.pt t g ((o + n.toNat) * blk.esz)) else none
      | _ => none
    | _ => none

theorem flat_get : ∀ (l : List DV) (e : Nat) (_ : ∀ d ∈ l, d.cells.length = e) (i : Nat) (hi : i < l.length) (j : Nat) (_ : j < e), (flat l)[i * e + j]? = (l[i].cells)[j]?
  | [], _, _, i, hi, _, _ => by simp at hi
  | d :: l, e, he, 0, _, j, hj => by
    have := he d (by simp)
    simp only [flat, List.flatMap_cons, Nat.zero_mul, Nat.zero_add, List.getElem_cons_zero]
    rw [List.getElem?_append_left (by omega)]
  | d :: l, e, he, i + 1, hi, j, hj => by
    have h1 := he d (by simp)
    have ih := flat_get l e (fun d' hd => he d' (by simp [hd])) i (by simpa using hi) j hj
    simp only [flat, List.flatMap_cons, List.getElem_cons_succ] at ih ⊢
    rw [List.getElem?_append_right (by rw [h1, Nat.add_mul]; omega), ← ih, h1]
    congr 1
    rw [Nat.add_mul]
    omega

theorem elemP_spec {P : Program} {t e : TypeId} (h : elemP P t = some e) : P.underlying t = some (.slice e) := by
  unfold elemP at h
  split at h
  · simp only [Option.some.injEq] at h; subst h; assumption
  · cases h

theorem index_run {P : Program} {t e : TypeId} {sz : Nat} (he : elemP P t = some e) (hs : szP P e = some sz) (ad : Addr) (len cap : Nat) (k : IntKind) (n : Int) (h0 : 0 ≤ n) (h1 : n.toNat < len) (w : World) :
    (Instr.indexAt t (.slice (some ad) len cap) (.int k n)).run P w = .ok (.pointer (some (ad.add (n.toNat * sz)))) w := by
  have hu := elemP_spec he
  unfold szP at hs
  obtain ⟨i, hi, hi2⟩ := Option.map_eq_some_iff.1 hs
  have hlt : n < len := by omega
  simp [Instr.indexAt, asIntOf, run_underlying hu, h0, hlt, sizeOf, typeInfo, hi, hi2]

theorem index_runs (h : SimU cx S a w μ) {t : TypeId} {x y : Operand} (ho : o.op = .indexAddr t x y) {r : SV} (hr : indexSV cx.P t (S.look x) (S.ev y) = some r) (ha : S.apply cx.n o.dst (.val r) = some S') : Runs cx S' o a w := by
  have hx := h.ev x
  have hy := h.ev y
  unfold indexSV at hr
  split at hr
  · cases hr
  · rename_i e he
    split at hr
    · rename_i k n ey
      rw [ey] at hy
      simp only [SVRep] at hy
      generalize hvy : a.eval y = vy at *
      cases hy
      unfold St.look at hr
      split at hr
      · rename_i l q ex
        simp only [Prod.mk.injEq] at ex
        obtain ⟨ex, _⟩ := ex
        split at hr
        · rename_i hn
          split at hr
          · rename_i hsz
            simp only [Option.some.injEq] at hr
            subst hr
            rw [ex] at hx
            simp only [SVRep] at hx
            generalize hvx : a.eval x = vx at *
            cases hx with
            | listNil => simp at hn
            | list _ b off cap esz u h1 h2 hcap h3 h4 h5 =>
              have hez : (l[n.toNat]'hn.2).cells.length = esz := h3 _ (List.getElem_mem hn.2)
              refine runs_val h (v := .pointer (some ⟨b, off + n.toNat * esz, none⟩)) ?_ ?_ ha
              · unfold execOp
                simp only [ho, hvx, hvy, Sem.run_bind, index_run he hsz ⟨b, off, none⟩ l.length cap k n hn.1 hn.2, Result.andThen_ok, Addr.add_lit, hez]
                rfl
              · simp only [SVRep]
                refine .cptr _ b (off + n.toNat * esz) (fun j => u (n.toNat * esz + j)) h1 h2 (fun j c hj => ?_) (fun j c hj => ?_)
                · have hjl := (List.getElem?_eq_some_iff.1 hj).1
                  rw [← flat_get l esz h3 n.toNat hn.2 j (by omega)] at hj
                  have := h4 _ c hj
                  rwa [← Nat.add_assoc] at this
                · have hjl := (List.getElem?_eq_some_iff.1 hj).1
                  rw [← flat_get l esz h3 n.toNat hn.2 j (by omega)] at hj
                  exact h5 _ c hj
          · cases hr
        · cases hr
      · rename_i t' g k' m blk ex
        simp only [Prod.mk.injEq] at ex
        obtain ⟨ex, eb⟩ := ex
        split at hr
        · rename_i hn
          simp only [Option.some.injEq] at hr
          subst hr
          rw [ex] at hx eb
          have hM := blkOf_sl eb
          simp only [SVRep] at hx
          have hx2 := hx.2 blk hM
          cases hm : μ t' with
          | none => rw [hm] at hx2; simp only at hx2; obtain ⟨_, rfl, _⟩ := hx2; omega
          | some p =>
            obtain ⟨b, cap⟩ := p
            rw [hm] at hx2
            simp only at hx2
            obtain ⟨hv, hcap⟩ := hx2
            refine runs_val h (v := .pointer (some ⟨b, (k' + n.toNat) * blk.esz, none⟩)) ?_ ?_ ha
            · unfold execOp
              simp only [ho, hv, hvy, Sem.run_bind, index_run he hn.2.2 _ m _ k n hn.1 hn.2.1, Result.andThen_ok, Addr.add_lit, Nat.add_mul]
              rfl
            · simp only [SVRep]
              exact ⟨⟨rfl, hx.1.2⟩, fun blk' e' => ⟨b, cap, hm, rfl⟩⟩
        · cases hr
      · cases hr
    · cases hr

def loadSV (P : Program) (t : TypeId) : SV × Option Blk → Option SV
  | (.dv (.cptr cs), _) => match szP P t, aggP P t with
    | some sz, some true => if sz ≤ cs.length then some (.dv (.agg (cs.take sz))) else none
    | some _, some false => (cs[0]?).map .dv
    | _, _ => none
  | (.pt _ _ o, some blk) => match szP P t, aggP P t with
    | some sz, some true => if o + sz ≤ blk.cells.length then some (aggSV ((blk.cells.drop o).take sz)) else none
    | some _, some false => blk.cells[o]?
    | _, _ => none
  | _ => none

theorem aggP_run {P : Program} {t : TypeId} {b : Bool} (h : aggP P t = some b) (w : World) : (isAgg t).run P w = .ok b w := by
  unfold aggP at h
  obtain ⟨d, hd, rfl⟩ := Option.map_eq_some_iff.1 h
  unfold isAgg
  simp only [Sem.run_bind, run_underlying hd, Result.andThen_ok]
  cases d <;> rfl

theorem load_cells_run {P : Program} {t : TypeId} {sz : Nat} (hs : szP P t = some sz) (hg : aggP P t = some true) (b k : Nat) (w : World) (vs : List Value) (hl : vs.length = sz)
    (hc : ∀ (j : Nat) v, vs[j]? = some v → w.cell? ⟨b, k + j, none⟩ = some v) : (Instr.loadAt t (.pointer (some ⟨b, k, none⟩))).run P w = .ok (.agg vs.toArray) w := by
  unfold szP at hs
  obtain ⟨i, hi, hi2⟩ := Option.map_eq_some_iff.1 hs
  have hload := run_loadCells_list (P := P) w ⟨b, k, none⟩ vs (fun j v hj => by rw [Addr.add_lit]; exact hc j v hj)
  rw [hl] at hload
  simp [Instr.loadAt, Instr.sureAddr, loadVar, aggP_run hg, sizeOf, typeInfo, hi, hi2, hload]

theorem load_cell_run {P : Program} {t : TypeId} (hg : aggP P t = some false) (b k : Nat) (w : World) (v : Value) (hc : w.cell? ⟨b, k, none⟩ = some v) :
    (Instr.loadAt t (.pointer (some ⟨b, k, none⟩))).run P w = .ok v w := by
  simp [Instr.loadAt, Instr.sureAddr, loadVar, aggP_run hg, hc]

theorem cell_at {w : World} {b j : Nat} {cur : Array Value} {e : TypeId} {fr : Nat × Nat} (h : w.heap[b]? = some (.cells cur e fr)) : w.cell? ⟨b, j, none⟩ = cur[j]? := by simp [World.cell?, h]

theorem load_val (h : SimU cx S a w μ) {t : TypeId} {x : Operand} {r : SV} (hr : loadSV cx.P t (S.look x) = some r) : ∃ v, (Instr.loadAt t (a.eval x)).run cx.P w = .ok v w ∧ SVRep w S.M μ (XX cx S.M μ) r v := by
  have hx := h.ev x
  have fin : ∀ v : Value, (Instr.loadAt t (a.eval x)).run cx.P w = .ok v w → SVRep w S.M μ (XX cx S.M μ) r v → ∃ v, (Instr.loadAt t (a.eval x)).run cx.P w = .ok v w ∧ SVRep w S.M μ (XX cx S.M μ) r v := fun v h1 h2 => ⟨v, h1, h2⟩
  unfold loadSV St.look at hr
  split at hr
  · rename_i cs q e
    simp only [Prod.mk.injEq] at e
    obtain ⟨e, _⟩ := e
    rw [e] at hx
    simp only [SVRep] at hx
    generalize hv : a.eval x = vx at *
    cases hx with
    | cptr _ b k u h1 h2 h3 h4 =>
      split at hr
      · rename_i sz hs hg
        split at hr
        · rename_i hle
          simp only [Option.some.injEq] at hr
          subst hr
          refine fin (.agg ((List.range sz).map u).toArray) (load_cells_run hs hg b k w _ (by simp) ?_) ?_
          · intro j v hj
            simp only [List.getElem?_map, Option.map_eq_some_iff] at hj
            obtain ⟨j', hj', rfl⟩ := hj
            have hlt : j < sz := by
              have := (List.getElem?_eq_some_iff.1 hj').1
              simpa using this
            rw [List.getElem?_range hlt] at hj'
            simp only [Option.some.injEq] at hj'
            subst hj'
            exact h3 j cs[j] (by simp)
          · simp only [SVRep]
            refine .agg _ _ (by simp; omega) fun j c hj => ?_
            have hj2 := hj
            rw [List.getElem?_take] at hj2
            split at hj2
            · rename_i hlt
              have : ((List.range sz).map u).toArray.getD j undef = u j := by simp [hlt]
              rw [this]
              exact h4 j c hj2
            · cases hj2
        · cases hr
      · rename_i sz hs hg
        obtain ⟨c, hc, rfl⟩ := Option.map_eq_some_iff.1 hr
        refine fin (u 0) (load_cell_run hg b k w _ (by simpa using h3 0 c hc)) ?_
        simp only [SVRep]
        exact h4 0 c hc
      · cases hr
  · rename_i t' g k blk e
    simp only [Prod.mk.injEq] at e
    obtain ⟨e, eb⟩ := e
    rw [e] at hx eb
    have hM := blkOf_pt eb
    simp only [SVRep] at hx
    obtain ⟨b, cap, hm, hv⟩ := hx.2 blk hM
    have hb := h.blk t' g blk hM
    unfold BlkRep at hb
    rw [hm] at hb
    simp only at hb
    obtain ⟨cur, q1, q2, q3, _, _⟩ := hb
    split at hr
    · rename_i sz hs hg
      split at hr
      · rename_i hle
        simp only [Option.some.injEq] at hr
        subst hr
        have hcl : ∀ (j : Nat) v, ((cur.toList.drop k).take sz)[j]? = some v → w.cell? ⟨b, k + j, none⟩ = some v := by
          intro j v hj
          rw [List.getElem?_take] at hj
          split at hj
          · rw [List.getElem?_drop] at hj
            rw [cell_at q1]
            simpa using hj
          · cases hj
        refine fin (.agg ((cur.toList.drop k).take sz).toArray) (by rw [hv]; exact load_cells_run hs hg b k w _ (by simp; omega) hcl) ?_
        · refine aggSV_rep (SVReps.mk (by simp; omega) fun j c u hc hu => ?_)
          rw [List.getElem?_take] at hc hu
          split at hc
          · rename_i hlt
            rw [if_pos hlt] at hu
            rw [List.getElem?_drop] at hc hu
            exact q3 _ c u hc (by simpa using hu)
          · cases hc
      · cases hr
    · rename_i sz hs hg
      have hlt := (List.getElem?_eq_some_iff.1 hr).1
      have hcur : cur[k]? = some (cur[k]'(by omega)) := by simp
      refine fin (cur[k]'(by omega)) (by rw [hv]; exact load_cell_run hg b k w _ (by rw [cell_at q1]; exact hcur)) ?_
      exact q3 k r _ hr hcur
    · cases hr
  · cases hr

theorem load_runs (h : SimU cx S a w μ) {t : TypeId} {x : Operand} (ho : o.op = .load t x) {r : SV} (hr : loadSV cx.P t (S.look x) = some r) (ha : S.apply cx.n o.dst (.val r) = some S') : Runs cx S' o a w := by
  obtain ⟨v, h1, h2⟩ := load_val h hr
  refine runs_val h (v := v) ?_ h2 ha
  unfold execOp
  simp only [ho, Sem.run_bind, h1, Result.andThen_ok]
  rfl

end
end Go.Ab
