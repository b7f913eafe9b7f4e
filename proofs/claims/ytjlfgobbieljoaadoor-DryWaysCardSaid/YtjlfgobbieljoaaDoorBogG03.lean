/- Ab7, Ab8, Ab9, Ab10. -/
import Derived.Test.YtjlfgobbieljoaaDoorBogG02
import Derived.Deep.AppendSrc
set_option linter.all false
namespace Go.Ab
open Go.RowKit
section
variable {cx : Cx} {S S' : St} {a : Act} {w : World} {μ : Nat → Option (Nat × Nat)} {o : Oper}
theorem move_runs (h : SimU cx S a w μ) {x : Operand} (ho : o.op = .move x ∨ o.op = .assign x) (ha : S.apply cx.n o.dst (.val (S.ev x)) = some S') : Runs cx S' o a w := by
  refine runs_val h (v := a.eval x) ?_ (h.ev x) ha
  unfold execOp
  rcases ho with ho | ho <;> simp only [ho] <;> rfl
theorem pick_runs (h : SimU cx S a w μ) {c x y : Operand} (ho : o.op = .pick c x y) {b : Bool} (hb : S.ev c = .dv (.bool b)) (ha : S.apply cx.n o.dst (.val (pickSV b (S.ev x) (S.ev y))) = some S') : Runs cx S' o a w := by
  have hc := h.ev c
  rw [hb] at hc
  simp only [SVRep] at hc
  generalize hv : a.eval c = vc at *
  cases hc
  have hrun : (execOp a.eval o).run cx.P w = .ok (.value (if b then a.eval x else a.eval y)) w := by
    unfold execOp
    simp only [ho, hv]
    cases b <;> rfl
  refine runs_val h hrun ?_ ha
  have hx := h.ev x
  have hy := h.ev y
  have gen : SVRep w S.M μ (XX cx S.M μ) (bif b then S.ev x else S.ev y) (if b then a.eval x else a.eval y) := by cases b <;> simpa
  unfold pickSV
  split
  · rename_i p q e1 e2
    rw [e1, e2] at gen
    cases b <;> simpa only [cond_true, cond_false] using gen
  · exact gen
def extractSV (s : SV) (i : Nat) : Option SV :=
  match s with
  | .tup cs => cs[i]?
  | _ => none
theorem extract_runs (h : SimU cx S a w μ) {x : Operand} {i : Nat} (ho : o.op = .extract x i) {r : SV} (hr : extractSV (S.ev x) i = some r) (ha : S.apply cx.n o.dst (.val r) = some S') : Runs cx S' o a w := by
  have hx := h.ev x
  unfold extractSV at hr
  split at hr
  · rename_i cs e
    rw [e] at hx
    simp only [SVRep] at hx
    obtain ⟨vs, hv, hvs⟩ := hx
    have hi : i < vs.length := by have := hvs.length; have := (List.getElem?_eq_some_iff.1 hr).1; omega
    refine runs_val h (v := vs[i]) ?_ (hvs.get i r _ hr (by simp [hi])) ha
    unfold execOp
    simp only [ho, hv, Instr.extract]
    simp [hi]
  · cases hr
def fieldSV (P : Program) (s : TypeId) (f : Nat) : SV × Option Blk → Option SV
  | (.dv (.cptr cs), _) => match fieldP P s f with | some off => some (.dv (.cptr (cs.drop off))) | none => none
  | (.pt t g o, some _) => match fieldP P s f with | some off => some (.pt t g (o + off)) | none => none
  | _ => none
theorem field_run {P : Program} {s : TypeId} {f off : Nat} (h : fieldP P s f = some off) (b k : Nat) (w : World) :
    (Instr.fieldAt s (.pointer (some ⟨b, k, none⟩)) f).run P w = .ok (.pointer (some ⟨b, k + off, none⟩)) w := by
  unfold fieldP at h
  split at h
  · rename_i fs hu
    split at h
    · rename_i fl hf
      split at h
      · rename_i m hs
        simp only [Option.some.injEq] at h
        subst h
        unfold szP at hs
        obtain ⟨i, hi, hi2⟩ := Option.map_eq_some_iff.1 hs
        simp [Instr.fieldAt, run_underlying hu, hf, Instr.sureAddr, fieldPlace, sizeOf, typeInfo, hi, hi2, Addr.add_lit]
      · cases h
    · cases h
  · cases h
theorem field_runs (h : SimU cx S a w μ) {s : TypeId} {x : Operand} {f : Nat} (ho : o.op = .fieldAddr s x f) {r : SV} (hr : fieldSV cx.P s f (S.look x) = some r) (ha : S.apply cx.n o.dst (.val r) = some S') : Runs cx S' o a w := by
  have hx := h.ev x
  unfold fieldSV St.look at hr
  split at hr
  · rename_i cs q e
    simp only [Prod.mk.injEq] at e
    obtain ⟨e, _⟩ := e
    split at hr
    · rename_i off hoff
      simp only [Option.some.injEq] at hr
      subst hr
      rw [e] at hx
      simp only [SVRep] at hx
      generalize hv : a.eval x = vx at *
      cases hx with
      | cptr _ b k u h1 h2 h3 h4 =>
        refine runs_val h (v := .pointer (some ⟨b, k + off, none⟩)) ?_ ?_ ha
        · unfold execOp
          simp only [ho, hv, Sem.run_bind, field_run hoff, Result.andThen_ok]
          rfl
        · simp only [SVRep]
          refine .cptr _ b (k + off) (fun j => u (off + j)) h1 h2 (fun j c hj => ?_) (fun j c hj => ?_)
          · rw [List.getElem?_drop] at hj
            have := h3 _ c hj
            rwa [← Nat.add_assoc] at this
          · rw [List.getElem?_drop] at hj
            exact h4 _ c hj
    · cases hr
  · rename_i t g k blk e
    simp only [Prod.mk.injEq] at e
    obtain ⟨e, eb⟩ := e
    split at hr
    · rename_i off hoff
      simp only [Option.some.injEq] at hr
      subst hr
      rw [e] at hx eb
      have hM := blkOf_pt eb
      simp only [SVRep] at hx
      obtain ⟨b, cap, hm, hv⟩ := hx.2 blk hM
      refine runs_val h (v := .pointer (some ⟨b, k + off, none⟩)) ?_ ?_ ha
      · unfold execOp
        simp only [ho, hv, Sem.run_bind, field_run hoff, Result.andThen_ok]
        rfl
      · simp only [SVRep]
        refine ⟨⟨rfl, hx.1.2⟩, fun blk' e' => ⟨b, cap, hm, rfl⟩⟩
    · cases hr
  · cases hr
def arrP (P : Program) (t : TypeId) : Option (Nat × TypeId) := match P.underlying t with | some (.array n e) => some (n, e) | _ => none
def indexArr (a : Option (Nat × TypeId)) (sz : TypeId → Option Nat) (x : SV × Option Blk) (i : SV) : Option SV :=
  match a, i, x with
  | some (n, e), .dv (.int _ z), (.pt t' g o, some _) => if 0 ≤ z ∧ z.toNat < n ∧ sz e = some 1 then some (.pt t' g (o + z.toNat)) else none
  | _, _, _ => none
theorem index_arr_run {P : Program} {t elem : TypeId} {len : Nat} (ht : arrP P t = some (len, elem)) (hs : szP P elem = some 1) (b o : Nat) (k : IntKind) (z : Int) (h0 : 0 ≤ z) (hi : z.toNat < len) (w : World) :
    (Instr.indexAt t (.pointer (some ⟨b, o, none⟩)) (.int k z)).run P w = .ok (.pointer (some ⟨b, o + z.toNat, none⟩)) w := by
  have hu : P.underlying t = some (.array len elem) := by
    unfold arrP at ht
    split at ht
    · rename_i n e hu
      simp only [Option.some.injEq, Prod.mk.injEq] at ht
      obtain ⟨rfl, rfl⟩ := ht
      exact hu
    · cases ht
  unfold szP at hs
  obtain ⟨inf, h1, h2⟩ := Option.map_eq_some_iff.1 hs
  have hi' : z < (len : Int) := by omega
  have h0' : ¬ z < 0 := by omega
  simp [Instr.indexAt, asIntOf, Instr.sureAddr, run_underlying hu, h0, hi', sizeOf, typeInfo, h1, h2, Addr.add_lit]
def indexSV (P : Program) (t : TypeId) (x : SV × Option Blk) (i : SV) : Option SV :=
  match elemP P t with
  | none => indexArr (arrP P t) (szP P) x i
  | some e =>
    match i with
    | .dv (.int _ n) =>
      match x with
      | (.dv (.list l), _) => if h : 0 ≤ n ∧ n.toNat < l.length then (if szP P e = some (l[n.toNat]'h.2).cells.length then some (.dv (.cptr (l[n.toNat]'h.2).cells)) else none) else none
      | (.sl t g o m, some blk) => if 0 ≤ n ∧ n.toNat < m ∧ szP P e = some blk.esz then some (.pt t g ((o + n.toNat) * blk.esz)) else none
      | _ => none
    | _ => none
theorem flat_get : ∀ (l : List DV) (e : Nat) (_ : ∀ d ∈ l, d.cells.length = e) (i : Nat) (hi : i < l.length) (j : Nat) (_ : j < e), (flat l)[i * e + j]? = (l[i].cells)[j]?
  | [], _, _, i, hi, _, _ => by simp at hi
  | d :: l, e, he, 0, _, j, hj => by
    have := he d (by simp)
    simp only [flat, List.flatMap_cons, Nat.zero_mul, Nat.zero_add, List.getElem_cons_zero]
    rw [List.getElem?_append_left (by omega)]
  | d :: l, e, he, i + 1, hi, j, hj => by
    have h1 := he d (by simp)
    have ih := flat_get l e (fun d' hd => he d' (by simp [hd])) i (by simpa using hi) j hj
    simp only [flat, List.flatMap_cons, List.getElem_cons_succ] at ih ⊢
    rw [List.getElem?_append_right (by rw [h1, Nat.add_mul]; omega), ← ih, h1]
    congr 1
    rw [Nat.add_mul]
    omega
theorem elemP_spec {P : Program} {t e : TypeId} (h : elemP P t = some e) : P.underlying t = some (.slice e) := by
  unfold elemP at h
  split at h
  · simp only [Option.some.injEq] at h; subst h; assumption
  · cases h
theorem index_run {P : Program} {t e : TypeId} {sz : Nat} (he : elemP P t = some e) (hs : szP P e = some sz) (ad : Addr) (len cap : Nat) (k : IntKind) (n : Int) (h0 : 0 ≤ n) (h1 : n.toNat < len) (w : World) :
    (Instr.indexAt t (.slice (some ad) len cap) (.int k n)).run P w = .ok (.pointer (some (ad.add (n.toNat * sz)))) w := by
  have hu := elemP_spec he
  unfold szP at hs
  obtain ⟨i, hi, hi2⟩ := Option.map_eq_some_iff.1 hs
  have hlt : n < len := by omega
  simp [Instr.indexAt, asIntOf, run_underlying hu, h0, hlt, sizeOf, typeInfo, hi, hi2]
theorem index_runs (h : SimU cx S a w μ) {t : TypeId} {x y : Operand} (ho : o.op = .indexAddr t x y) {r : SV} (hr : indexSV cx.P t (S.look x) (S.ev y) = some r) (ha : S.apply cx.n o.dst (.val r) = some S') : Runs cx S' o a w := by
  have hx := h.ev x
  have hy := h.ev y
  unfold indexSV at hr
  split at hr
  · unfold indexArr at hr
    split at hr
    · rename_i len e k z t' g q0 blk ea ey ex
      unfold St.look at ex
      simp only [Prod.mk.injEq] at ex
      obtain ⟨ex, eb⟩ := ex
      split at hr
      · rename_i hn
        simp only [Option.some.injEq] at hr
        subst hr
        rw [ex] at hx eb
        rw [ey] at hy
        simp only [SVRep] at hy
        generalize hvy : a.eval y = vy at *
        cases hy
        have hM := blkOf_pt eb
        simp only [SVRep] at hx
        obtain ⟨b, cap, hm, hv⟩ := hx.2 _ hM
        refine runs_val h (v := .pointer (some ⟨b, q0 + z.toNat, none⟩)) ?_ ?_ ha
        · unfold execOp
          simp only [ho, hv, hvy, Sem.run_bind, index_arr_run ea hn.2.2 b q0 k z hn.1 hn.2.1, Result.andThen_ok]
          rfl
        · simp only [SVRep]
          exact ⟨⟨rfl, hx.1.2⟩, fun blk' e' => ⟨b, cap, hm, rfl⟩⟩
      · cases hr
    · cases hr
  · rename_i e he
    split at hr
    · rename_i k n ey
      rw [ey] at hy
      simp only [SVRep] at hy
      generalize hvy : a.eval y = vy at *
      cases hy
      unfold St.look at hr
      split at hr
      · rename_i l q ex
        simp only [Prod.mk.injEq] at ex
        obtain ⟨ex, _⟩ := ex
        split at hr
        · rename_i hn
          split at hr
          · rename_i hsz
            simp only [Option.some.injEq] at hr
            subst hr
            rw [ex] at hx
            simp only [SVRep] at hx
            generalize hvx : a.eval x = vx at *
            cases hx with
            | listNil => simp at hn
            | list _ b off cap esz u h1 h2 hcap h3 h4 h5 =>
              have hez : (l[n.toNat]'hn.2).cells.length = esz := h3 _ (List.getElem_mem hn.2)
              refine runs_val h (v := .pointer (some ⟨b, off + n.toNat * esz, none⟩)) ?_ ?_ ha
              · unfold execOp
                simp only [ho, hvx, hvy, Sem.run_bind, index_run he hsz ⟨b, off, none⟩ l.length cap k n hn.1 hn.2, Result.andThen_ok, Addr.add_lit, hez]
                rfl
              · simp only [SVRep]
                refine .cptr _ b (off + n.toNat * esz) (fun j => u (n.toNat * esz + j)) h1 h2 (fun j c hj => ?_) (fun j c hj => ?_)
                · have hjl := (List.getElem?_eq_some_iff.1 hj).1
                  rw [← flat_get l esz h3 n.toNat hn.2 j (by omega)] at hj
                  have := h4 _ c hj
                  rwa [← Nat.add_assoc] at this
                · have hjl := (List.getElem?_eq_some_iff.1 hj).1
                  rw [← flat_get l esz h3 n.toNat hn.2 j (by omega)] at hj
                  exact h5 _ c hj
          · cases hr
        · cases hr
      · rename_i t' g k' m blk ex
        simp only [Prod.mk.injEq] at ex
        obtain ⟨ex, eb⟩ := ex
        split at hr
        · rename_i hn
          simp only [Option.some.injEq] at hr
          subst hr
          rw [ex] at hx eb
          have hM := blkOf_sl eb
          simp only [SVRep] at hx
          have hx2 := hx.2 blk hM
          cases hm : μ t' with
          | none => rw [hm] at hx2; simp only at hx2; obtain ⟨_, rfl, _⟩ := hx2; omega
          | some p =>
            obtain ⟨b, cap⟩ := p
            rw [hm] at hx2
            simp only at hx2
            obtain ⟨hv, hcap⟩ := hx2
            refine runs_val h (v := .pointer (some ⟨b, (k' + n.toNat) * blk.esz, none⟩)) ?_ ?_ ha
            · unfold execOp
              simp only [ho, hv, hvy, Sem.run_bind, index_run he hn.2.2 _ m _ k n hn.1 hn.2.1, Result.andThen_ok, Addr.add_lit, Nat.add_mul]
              rfl
            · simp only [SVRep]
              exact ⟨⟨rfl, hx.1.2⟩, fun blk' e' => ⟨b, cap, hm, rfl⟩⟩
        · cases hr
      · cases hr
    · cases hr
def loadSV (P : Program) (t : TypeId) : SV × Option Blk → Option SV
  | (.dv (.cptr cs), _) => match szP P t, aggP P t with
    | some sz, some true => if sz ≤ cs.length then some (.dv (.agg (cs.take sz))) else none
    | some _, some false => (cs[0]?).map .dv
    | _, _ => none
  | (.pt _ _ o, some blk) => match szP P t, aggP P t with
    | some sz, some true => if o + sz ≤ blk.cells.length then some (aggSV ((blk.cells.drop o).take sz)) else none
    | some _, some false => blk.cells[o]?
    | _, _ => none
  | _ => none
theorem aggP_run {P : Program} {t : TypeId} {b : Bool} (h : aggP P t = some b) (w : World) : (isAgg t).run P w = .ok b w := by
  unfold aggP at h
  obtain ⟨d, hd, rfl⟩ := Option.map_eq_some_iff.1 h
  unfold isAgg
  simp only [Sem.run_bind, run_underlying hd, Result.andThen_ok]
  cases d <;> rfl
theorem load_cells_run {P : Program} {t : TypeId} {sz : Nat} (hs : szP P t = some sz) (hg : aggP P t = some true) (b k : Nat) (w : World) (vs : List Value) (hl : vs.length = sz)
    (hc : ∀ (j : Nat) v, vs[j]? = some v → w.cell? ⟨b, k + j, none⟩ = some v) : (Instr.loadAt t (.pointer (some ⟨b, k, none⟩))).run P w = .ok (.agg vs.toArray) w := by
  unfold szP at hs
  obtain ⟨i, hi, hi2⟩ := Option.map_eq_some_iff.1 hs
  have hload := run_loadCells_list (P := P) w ⟨b, k, none⟩ vs (fun j v hj => by rw [Addr.add_lit]; exact hc j v hj)
  rw [hl] at hload
  simp [Instr.loadAt, Instr.sureAddr, loadVar, aggP_run hg, sizeOf, typeInfo, hi, hi2, hload]
theorem load_cell_run {P : Program} {t : TypeId} (hg : aggP P t = some false) (b k : Nat) (w : World) (v : Value) (hc : w.cell? ⟨b, k, none⟩ = some v) :
    (Instr.loadAt t (.pointer (some ⟨b, k, none⟩))).run P w = .ok v w := by
  simp [Instr.loadAt, Instr.sureAddr, loadVar, aggP_run hg, hc]
theorem cell_at {w : World} {b j : Nat} {cur : Array Value} {e : TypeId} {fr : Nat × Nat} (h : w.heap[b]? = some (.cells cur e fr)) : w.cell? ⟨b, j, none⟩ = cur[j]? := by simp [World.cell?, h]
theorem load_val (h : SimU cx S a w μ) {t : TypeId} {x : Operand} {r : SV} (hr : loadSV cx.P t (S.look x) = some r) : ∃ v, (Instr.loadAt t (a.eval x)).run cx.P w = .ok v w ∧ SVRep w S.M μ (XX cx S.M μ) r v := by
  have hx := h.ev x
  have fin : ∀ v : Value, (Instr.loadAt t (a.eval x)).run cx.P w = .ok v w → SVRep w S.M μ (XX cx S.M μ) r v → ∃ v, (Instr.loadAt t (a.eval x)).run cx.P w = .ok v w ∧ SVRep w S.M μ (XX cx S.M μ) r v := fun v h1 h2 => ⟨v, h1, h2⟩
  unfold loadSV St.look at hr
  split at hr
  · rename_i cs q e
    simp only [Prod.mk.injEq] at e
    obtain ⟨e, _⟩ := e
    rw [e] at hx
    simp only [SVRep] at hx
    generalize hv : a.eval x = vx at *
    cases hx with
    | cptr _ b k u h1 h2 h3 h4 =>
      split at hr
      · rename_i sz hs hg
        split at hr
        · rename_i hle
          simp only [Option.some.injEq] at hr
          subst hr
          refine fin (.agg ((List.range sz).map u).toArray) (load_cells_run hs hg b k w _ (by simp) ?_) ?_
          · intro j v hj
            simp only [List.getElem?_map, Option.map_eq_some_iff] at hj
            obtain ⟨j', hj', rfl⟩ := hj
            have hlt : j < sz := by
              have := (List.getElem?_eq_some_iff.1 hj').1
              simpa using this
            rw [List.getElem?_range hlt] at hj'
            simp only [Option.some.injEq] at hj'
            subst hj'
            exact h3 j cs[j] (by simp)
          · simp only [SVRep]
            refine .agg _ _ (by simp; omega) fun j c hj => ?_
            have hj2 := hj
            rw [List.getElem?_take] at hj2
            split at hj2
            · rename_i hlt
              have : ((List.range sz).map u).toArray.getD j undef = u j := by simp [hlt]
              rw [this]
              exact h4 j c hj2
            · cases hj2
        · cases hr
      · rename_i sz hs hg
        obtain ⟨c, hc, rfl⟩ := Option.map_eq_some_iff.1 hr
        refine fin (u 0) (load_cell_run hg b k w _ (by simpa using h3 0 c hc)) ?_
        simp only [SVRep]
        exact h4 0 c hc
      · cases hr
  · rename_i t' g k blk e
    simp only [Prod.mk.injEq] at e
    obtain ⟨e, eb⟩ := e
    rw [e] at hx eb
    have hM := blkOf_pt eb
    simp only [SVRep] at hx
    obtain ⟨b, cap, hm, hv⟩ := hx.2 blk hM
    have hb := h.blk t' g blk hM
    unfold BlkRep at hb
    rw [hm] at hb
    simp only at hb
    obtain ⟨cur, q1, q2, q3, _, _⟩ := hb
    split at hr
    · rename_i sz hs hg
      split at hr
      · rename_i hle
        simp only [Option.some.injEq] at hr
        subst hr
        have hcl : ∀ (j : Nat) v, ((cur.toList.drop k).take sz)[j]? = some v → w.cell? ⟨b, k + j, none⟩ = some v := by
          intro j v hj
          rw [List.getElem?_take] at hj
          split at hj
          · rw [List.getElem?_drop] at hj
            rw [cell_at q1]
            simpa using hj
          · cases hj
        refine fin (.agg ((cur.toList.drop k).take sz).toArray) (by rw [hv]; exact load_cells_run hs hg b k w _ (by simp; omega) hcl) ?_
        · refine aggSV_rep (SVReps.mk (by simp; omega) fun j c u hc hu => ?_)
          rw [List.getElem?_take] at hc hu
          split at hc
          · rename_i hlt
            rw [if_pos hlt] at hu
            rw [List.getElem?_drop] at hc hu
            exact q3 _ c u hc (by simpa using hu)
          · cases hc
      · cases hr
    · rename_i sz hs hg
      have hlt := (List.getElem?_eq_some_iff.1 hr).1
      have hcur : cur[k]? = some (cur[k]'(by omega)) := by simp
      refine fin (cur[k]'(by omega)) (by rw [hv]; exact load_cell_run hg b k w _ (by rw [cell_at q1]; exact hcur)) ?_
      exact q3 k r _ hr hcur
    · cases hr
  · cases hr
theorem load_runs (h : SimU cx S a w μ) {t : TypeId} {x : Operand} (ho : o.op = .load t x) {r : SV} (hr : loadSV cx.P t (S.look x) = some r) (ha : S.apply cx.n o.dst (.val r) = some S') : Runs cx S' o a w := by
  obtain ⟨v, h1, h2⟩ := load_val h hr
  refine runs_val h (v := v) ?_ h2 ha
  unfold execOp
  simp only [ho, Sem.run_bind, h1, Result.andThen_ok]
  rfl
end
end Go.Ab
namespace Go.Ab
open Go.RowKit
section
variable {cx : Cx} {S S' : St} {a : Act} {w : World} {μ : Nat → Option (Nat × Nat)} {o : Oper}
theorem runs_mk (h : SimU cx S a w μ) {blk : Blk} {k : Nat} {cur : Array Value} {cap : Nat} {v : Value} (ha : S.apply cx.n o.dst (.mk blk k) = some S')
    (hcells : blk.cells.length ≤ cur.size) (hc : ∀ (j : Nat) c u, blk.cells[j]? = some c → cur[j]? = some u → SVRep w S.M μ (XX cx S.M μ) c u)
    (hrow : blk.row = true → cur.size = cap * blk.esz ∧ cap ≤ maxLen ∧ k ≤ cap ∧ v = .slice (some ⟨w.heap.size, 0, none⟩) k cap)
    (hbox : blk.row = false → blk.cells.length = cur.size ∧ v = .pointer (some ⟨w.heap.size, 0, none⟩))
    (hrun : (execOp a.eval o).run cx.P w = .ok (.value v) (w.alloc (.cells cur blk.elem))) (hst3 : blk.st < 3 := by (first | decide | simp)) : Runs cx S' o a w := by
  cases hd : o.dst with
  | none => rw [hd] at ha; simp [St.apply] at ha
  | some d =>
    rw [hd] at ha
    simp only [St.apply] at ha
    split at ha
    · rename_i hdn
      simp only [Option.some.injEq] at ha
      subst ha
      refine ⟨v, _, upd μ d (some (w.heap.size, cap)), .inl hrun, ?_⟩
      rw [hd]
      have h1 := h.create d blk cur cap hst3 hcells hc (fun hr => ⟨(hrow hr).1, (hrow hr).2.1⟩) (fun hr => (hbox hr).1)
      refine h1.set (S := ⟨S.F, upd S.M d ((S.M d).1 + 1, some blk)⟩) hdn ?_
      cases hrw : blk.row with
      | true =>
        obtain ⟨_, _, hk, rfl⟩ := hrow hrw
        simp only [if_true, SVRep]
        refine ⟨⟨rfl, by rw [upd_same]; exact Nat.le_refl _⟩, fun blk' e => ?_⟩
        rw [upd_same] at e
        simp only [Prod.mk.injEq, Option.some.injEq, true_and] at e
        subst e
        rw [upd_same]
        simp [hk]
      | false =>
        obtain ⟨_, rfl⟩ := hbox hrw
        simp only [Bool.false_eq_true, if_false, SVRep]
        refine ⟨⟨rfl, by rw [upd_same]; exact Nat.le_refl _⟩, fun blk' e => ⟨w.heap.size, cap, by rw [upd_same], rfl⟩⟩
    · cases ha
theorem runs_box (h : SimU cx S a w μ) {T : TypeId} {cs : List SV} {vs : List Value} (hvs : SVReps w S.M μ (XX cx S.M μ) cs vs)
    (hrun : (execOp a.eval o).run cx.P w = .ok (.value (.pointer (some ⟨w.heap.size, 0, none⟩))) (w.alloc (.cells vs.toArray T)))
    (ha : S.apply cx.n o.dst (.mk ⟨cs, 0, T, 0, false⟩ 0) = some S') : Runs cx S' o a w :=
  runs_mk h (cap := 0) ha (by simp [hvs.length]) (fun j c u hc hu => hvs.get j c u hc (by simpa using hu)) (fun hr => by simp at hr) (fun _ => ⟨by simp [hvs.length], rfl⟩) hrun
theorem box_runs (h : SimU cx S a w μ) {T : TypeId} {x : Operand} (ho : o.op = .box T x) {cs : List SV} (hc : cellsSV (S.ev x) = some cs)
    (ha : S.apply cx.n o.dst (.mk ⟨cs, 0, T, 0, false⟩ 0) = some S') : Runs cx S' o a w := by
  refine runs_box h (cellsSV_rep hc (h.ev x)) ?_ ha
  unfold execOp
  simp only [ho, Instr.box, newVar, newRow, Sem.run_bind, run_newObj, Result.andThen_ok, Sem.run_pure, Array.toArray_toList]
  rfl
theorem zero_run {P : Program} {T : TypeId} {cs : List SV} (h : zeroP P T = some cs) (w : World) : ∃ z, (zeroValue T).run P w = .ok z w ∧ z.cells.toList.map svOfCell = cs := by
  unfold zeroP at h
  split at h
  · rename_i i hi
    obtain ⟨z, hz, rfl⟩ := Option.map_eq_some_iff.1 h
    exact ⟨z, by simp [zeroValue, typeInfo, hi, hz], rfl⟩
  · cases h
theorem alloc_runs (h : SimU cx S a w μ) {T : TypeId} (ho : o.op = .alloc T) {cs : List SV} (hc : zeroP cx.P T = some cs)
    (ha : S.apply cx.n o.dst (.mk ⟨cs, 0, T, 0, false⟩ 0) = some S') : Runs cx S' o a w := by
  obtain ⟨z, hz, rfl⟩ := zero_run hc w
  refine runs_box h (vs := z.cells.toList) (svreps_map _) ?_ ha
  unfold execOp
  simp only [ho, Instr.alloc, newVar, newRow, Sem.run_bind, hz, run_newObj, Result.andThen_ok, Sem.run_pure, Array.toArray_toList]
  rfl
def fillSV (place : Nat → Option (Nat × Nat)) (cells : List SV) : List (Nat × SV) → Option (List SV)
  | [] => some cells
  | (i, s) :: rest =>
    match place i, cellsSV s with
    | some (off, size), some cs => if cs.length = size ∧ off + cs.length ≤ cells.length then fillSV place (putCells cells off cs) rest else none
    | _, _ => none
theorem zipFold (off : Nat) (vs : List Value) : ∀ (k : Nat) (cells : Array Value), off + k + vs.length ≤ cells.size →
    ((vs.zipIdx k).foldl (fun cs (c, j) => cs.setIfInBounds (off + j) c) cells).toList = putCells cells.toList (off + k) vs := by
  induction vs with
  | nil => intro k cells _; simp [putCells]
  | cons v vs ih =>
    intro k cells hk
    simp only [List.zipIdx_cons, List.foldl_cons]
    rw [ih (k + 1) _ (by simp only [List.length_cons] at hk; simp; omega)]
    apply List.ext_getElem?
    intro j
    have hk' := hk
    simp only [List.length_cons] at hk'
    rw [putCells_get _ _ _ _ (by simp only [Array.length_toList, Array.size_setIfInBounds]; omega), putCells_get _ _ _ _ (by simp only [Array.length_toList, List.length_cons]; omega)]
    simp only [Array.toList_setIfInBounds]
    by_cases h1 : j < off + k
    · rw [if_pos (by omega), if_pos h1, List.getElem?_set_ne (by omega)]
    · by_cases h2 : j = off + k
      · subst h2
        rw [if_pos (by omega), List.getElem?_set_self (by simp only [Array.length_toList]; omega), if_neg (by omega), if_pos (by simp only [List.length_cons]; omega)]
        simp
      · rw [if_neg (by omega), if_neg h1]
        by_cases h3 : j < off + (k + 1) + vs.length
        · rw [if_pos h3, if_pos (by simp only [List.length_cons]; omega)]
          rw [show j - (off + k) = (j - (off + (k + 1))) + 1 by omega, List.getElem?_cons_succ]
        · rw [if_neg h3, if_neg (by simp only [List.length_cons]; omega), List.getElem?_set_ne (by omega)]
theorem fill_rep {place : Nat → Option (Nat × Nat)} : ∀ (ps : List (Nat × SV)) (vs : List (Nat × Value)) (cells : List SV) (cv : Array Value) (out : List SV), ps.length = vs.length →
    (∀ (j : Nat) (p : Nat × SV) (q : Nat × Value), ps[j]? = some p → vs[j]? = some q → p.1 = q.1 ∧ SVRep w S.M μ (XX cx S.M μ) p.2 q.2) →
    SVReps w S.M μ (XX cx S.M μ) cells cv.toList → fillSV place cells ps = some out →
    ∃ ov, Instr.fill place cv vs = some ov ∧ SVReps w S.M μ (XX cx S.M μ) out ov.toList
  | [], [], cells, cv, out, _, _, hcv, h => by
    simp only [fillSV, Option.some.injEq] at h
    subst h
    exact ⟨cv, rfl, hcv⟩
  | [], _ :: _, _, _, _, hl, _, _, _ => by simp at hl
  | _ :: _, [], _, _, _, hl, _, _, _ => by simp at hl
  | (i, s) :: ps, (i', v) :: vs, cells, cv, out, hl, hp, hcv, h => by
    obtain ⟨e1, hs⟩ := hp 0 (i, s) (i', v) rfl rfl
    simp only at e1
    subst e1
    simp only [fillSV] at h
    split at h
    · rename_i off size cs e2 e3
      split at h
      · rename_i hle
        have hcs := cellsSV_rep e3 hs
        have hsz : v.cells.size = cs.length := by have := hcs.length; simpa using this
        have hcl : cv.size = cells.length := by have := hcv.length; simpa using this
        have hz := zipFold off v.cells.toList 0 cv (by simp; omega)
        simp only [Nat.add_zero] at hz
        have hzz : (v.cells.zipIdx.foldl (fun cs (c, j) => cs.setIfInBounds (off + j) c) cv).toList = putCells cv.toList off v.cells.toList := by
          rw [← hz, ← Array.foldl_toList, Array.toList_zipIdx]
        obtain ⟨ov, h1, h2⟩ := fill_rep ps vs (putCells cells off cs) (v.cells.zipIdx.foldl (fun cs (c, j) => cs.setIfInBounds (off + j) c) cv) out (by simpa using hl)
          (fun j p q hp' hq' => hp (j + 1) p q (by simpa using hp') (by simpa using hq')) (by
            rw [hzz]
            refine SVReps.mk ?_ fun j c u hc hu => ?_
            · rw [putCells_length _ _ _ (by simp; omega), putCells_length _ _ _ hle.2]
              simpa using hcl
            · rw [putCells_get _ _ _ _ hle.2] at hc
              rw [putCells_get _ _ _ _ (by simp; omega)] at hu
              have el : v.cells.toList.length = cs.length := by simpa using hsz
              rw [el] at hu
              split at hc
              · rename_i hj; rw [if_pos hj] at hu; exact hcv.get j c u hc hu
              · rename_i hj
                rw [if_neg hj] at hu
                split at hc
                · rename_i hj2; rw [if_pos hj2] at hu; exact hcs.get _ c u hc hu
                · rename_i hj2; rw [if_neg hj2] at hu; exact hcv.get j c u hc hu) h
        refine ⟨ov, ?_, h2⟩
        simp only [Instr.fill, e2]
        rw [if_neg (by simp; omega)]
        exact h1
      · cases h
    · cases h
def placesP (P : Program) (t : TypeId) : Option (List (Nat × Nat)) :=
  match P.underlying t with
  | some (.struct fs) => fs.toList.mapM fun f => (P.info? f.type).map fun i => (f.offset, i.size)
  | _ => none
def buildSV (P : Program) (t : TypeId) (parts : List (Nat × SV)) : Option SV :=
  match placesP P t, zeroP P t with
  | some places, some zero => (fillSV (fun i => places[i]?) zero parts).map aggSV
  | _, _ => none
theorem build_runs (h : SimU cx S a w μ) {t : TypeId} {parts : Array (Nat × Operand)} (ho : o.op = .build t parts) {r : SV} (hr : buildSV cx.P t (parts.toList.map fun p => (p.1, S.ev p.2)) = some r)
    (ha : S.apply cx.n o.dst (.val r) = some S') : Runs cx S' o a w := by
  unfold buildSV at hr
  split at hr
  · rename_i places zero hp hz
    obtain ⟨cs, hf, rfl⟩ := Option.map_eq_some_iff.1 hr
    unfold placesP at hp
    split at hp
    · rename_i fs hu
      unfold zeroP at hz
      split at hz
      · rename_i i hi
        obtain ⟨z, hz', rfl⟩ := Option.map_eq_some_iff.1 hz
        obtain ⟨ov, h1, h2⟩ := fill_rep (w := w) (cx := cx) (S := S) (μ := μ) (parts.toList.map fun p => (p.1, S.ev p.2)) (parts.toList.map fun p => (p.1, a.eval p.2)) _ z.cells cs (by simp)
          (fun j p q hp' hq' => by
            simp only [List.getElem?_map, Option.map_eq_some_iff] at hp' hq'
            obtain ⟨p0, e0, rfl⟩ := hp'
            obtain ⟨q0, e1, rfl⟩ := hq'
            rw [e0] at e1
            simp only [Option.some.injEq] at e1
            subst e1
            exact ⟨rfl, h.ev _⟩) (svreps_map _) hf
        have hb : cx.P.built t (parts.map fun (i, x) => (i, a.eval x)).toList = some ov := by
          unfold Program.built
          simp only [hi, hu, hz', hp]
          simpa using h1
        refine runs_val h (v := .agg ov) ?_ ?_ ha
        · unfold execOp
          simp only [ho, Sem.run_bind, run_build w t _ ov hb, Result.andThen_ok]
          rfl
        · have := aggSV_rep h2
          simpa using this
      · cases hz
    · cases hp
  · cases hr
theorem mod_range_flat (z : Array Value) : ∀ n : Nat, ((List.range (n * z.size)).map fun i => z[i % z.size]!) = (List.replicate n z.toList).flatten
  | 0 => by simp
  | n + 1 => by
    have ih := mod_range_flat z n
    rw [List.replicate_succ', List.flatten_append, ← ih, Nat.add_mul, Nat.one_mul, List.range_add, List.map_append]
    congr 1
    simp only [List.flatten_cons, List.flatten_nil, List.append_nil, List.map_map]
    apply List.ext_getElem?
    intro j
    by_cases hj : j < z.size
    · simp [hj, Nat.add_mod, Nat.mod_eq_of_lt hj]
    · rw [List.getElem?_eq_none (by simpa using hj), List.getElem?_eq_none (by simpa using hj)]
theorem svreps_flatten_replicate {zs : List SV} {z : List Value} (h : SVReps w S.M μ (XX cx S.M μ) zs z) : ∀ n, SVReps w S.M μ (XX cx S.M μ) (List.replicate n zs).flatten (List.replicate n z).flatten
  | 0 => trivial
  | n + 1 => by
    have app : ∀ (as : List SV) (av : List Value) (bs : List SV) (bv : List Value), SVReps w S.M μ (XX cx S.M μ) as av → SVReps w S.M μ (XX cx S.M μ) bs bv → SVReps w S.M μ (XX cx S.M μ) (as ++ bs) (av ++ bv) := by
      intro as
      induction as with
      | nil => intro av bs bv ha hb; cases av with | nil => exact hb | cons => simp only [SVReps] at ha
      | cons c as ih =>
        intro av bs bv ha hb
        cases av with
        | nil => simp only [SVReps] at ha
        | cons v av => simp only [SVReps, List.cons_append] at ha ⊢; exact ⟨ha.1, ih av bs bv ha.2 hb⟩
    simp only [List.replicate_succ, List.flatten_cons]
    exact app _ _ _ _ h (svreps_flatten_replicate h n)
def makeOut (P : Program) (t : TypeId) (l c : SV) : Option Out :=
  match elemP P t, l, c with
  | some e, .dv (.int .i64 n), .dv (.int .i64 m) =>
    match zeroP P e, szP P e, bytesP P e with
    | some zs, some sz, some by' => if 0 ≤ n ∧ n ≤ m ∧ by' * m ≤ 281474976710656 ∧ m ≤ 9223372036854775807 ∧ zs.length = sz then some (.mk ⟨(List.replicate n.toNat zs).flatten, sz, e, 0, true⟩ n.toNat) else none
    | _, _, _ => none
  | _, _, _ => none
end
end Go.Ab
namespace Go.Ab
open Go.RowKit
section
variable {cx : Cx} {S S' : St} {a : Act} {w : World} {μ : Nat → Option (Nat × Nat)} {o : Oper}
theorem make_runs (h : SimU cx S a w μ) {t : TypeId} {x y : Operand} (ho : o.op = .makeSlice t x y) {out : Out} (hr : makeOut cx.P t (S.ev x) (S.ev y) = some out)
    (ha : S.apply cx.n o.dst out = some S') : Runs cx S' o a w := by
  have hx := h.ev x
  have hy := h.ev y
  unfold makeOut at hr
  split at hr
  · rename_i e n m he ex ey
    rw [ex] at hx
    rw [ey] at hy
    simp only [SVRep] at hx hy
    generalize hvx : a.eval x = vx at *
    generalize hvy : a.eval y = vy at *
    cases hx; cases hy
    split at hr
    · rename_i zs sz by' hz hs hby
      split at hr
      · rename_i hc
        obtain ⟨h0, h1, hb, hm, hl⟩ := hc
        simp only [Option.some.injEq] at hr
        subst hr
        have hu := elemP_spec he
        unfold zeroP at hz
        split at hz
        · rename_i i hi
          obtain ⟨z, hz', rfl⟩ := Option.map_eq_some_iff.1 hz
          simp only [szP, bytesP, hi, Option.map_some, Option.some.injEq] at hs hby
          subst hs
          subst hby
          have hzl : z.cells.size = i.size := by simpa using hl
          have hrun := run_make (P := cx.P) w t e i z hu hi hz' .i64 .i64 n m h0 h1 hb hm
          have hmc : madeCells z.cells (m.toNat * i.size) = (List.replicate m.toNat z.cells.toList).flatten.toArray := by
            rw [← mod_range_flat, ← hzl]
            unfold madeCells
            apply Array.ext'
            simp
          rw [hmc] at hrun
          refine runs_mk h (cap := m.toNat) (k := n.toNat) ha ?_ ?_ ?_ ?_ (v := .slice (some ⟨w.heap.size, 0, none⟩) n.toNat m.toNat) ?_ (cur := (List.replicate m.toNat z.cells.toList).flatten.toArray)
          · simp [hzl]; exact Nat.mul_le_mul_right _ (by omega)
          · intro j c u hc hu'
            have hrep := svreps_flatten_replicate (cx := cx) (S := S) (w := w) (μ := μ) (svreps_map z.cells.toList) n.toNat
            refine hrep.get j c u hc ?_
            have hj := (List.getElem?_eq_some_iff.1 hc).1
            have hmn : m.toNat = n.toNat + (m.toNat - n.toNat) := by omega
            rw [hmn, ← List.replicate_append_replicate, List.flatten_append] at hu'
            simp only [List.getElem?_toArray] at hu'
            rwa [List.getElem?_append_left (by simpa [hzl] using hj)] at hu'
          · intro _
            refine ⟨by simp [hzl], by simp only [maxLen]; omega, by omega, rfl⟩
          · intro hf; simp at hf
          · unfold execOp
            simp only [ho, hvx, hvy, Sem.run_bind, hrun, Result.andThen_ok]
            rfl
        · cases hz
      · cases hr
    · cases hr
  · cases hr
def buildSliceOut (P : Program) (t : TypeId) (len : Nat) (parts : List (Nat × SV)) : Option Out :=
  match elemP P t with
  | some e => match zeroP P e, szP P e with
    | some zs, some sz => if zs.length = sz ∧ len * sz ≤ 16777216 ∧ len ≤ 16777216 then
        (fillSV (fun i => some (i * sz, sz)) (List.replicate len zs).flatten parts).map fun cs => .mk ⟨cs, sz, e, 0, true⟩ len
      else none
    | _, _ => none
  | none => none
theorem fillSV_length {place : Nat → Option (Nat × Nat)} : ∀ (ps : List (Nat × SV)) (cells out : List SV), fillSV place cells ps = some out → out.length = cells.length
  | [], cells, out, h => by simp only [fillSV, Option.some.injEq] at h; subst h; rfl
  | (i, s) :: ps, cells, out, h => by
    simp only [fillSV] at h
    split at h
    · split at h
      · rename_i hle
        rw [fillSV_length ps _ out h, putCells_length _ _ _ hle.2]
      · cases h
    · cases h
theorem buildSlice_runs (h : SimU cx S a w μ) {t : TypeId} {len : Nat} {parts : Array (Nat × Operand)} (ho : o.op = .buildSlice t len parts) {out : Out}
    (hr : buildSliceOut cx.P t len (parts.toList.map fun p => (p.1, S.ev p.2)) = some out) (ha : S.apply cx.n o.dst out = some S') : Runs cx S' o a w := by
  unfold buildSliceOut at hr
  split at hr
  · rename_i e he
    split at hr
    · rename_i zs sz hz hs
      split at hr
      · rename_i hc
        obtain ⟨cs, hf, rfl⟩ := Option.map_eq_some_iff.1 hr
        have hu := elemP_spec he
        unfold zeroP at hz
        split at hz
        · rename_i i hi
          obtain ⟨z, hz', rfl⟩ := Option.map_eq_some_iff.1 hz
          simp only [szP, hi, Option.map_some, Option.some.injEq] at hs
          subst hs
          have hzl : z.cells.size = i.size := by simpa using hc.1
          have hl := fillSV_length _ _ _ hf
          obtain ⟨ov, h1, h2⟩ := fill_rep (w := w) (cx := cx) (S := S) (μ := μ) (parts.toList.map fun p => (p.1, S.ev p.2)) (parts.toList.map fun p => (p.1, a.eval p.2)) _ ((List.replicate len z.cells.toList).flatten.toArray) cs (by simp)
            (fun j p q hp' hq' => by
              simp only [List.getElem?_map, Option.map_eq_some_iff] at hp' hq'
              obtain ⟨p0, e0, rfl⟩ := hp'
              obtain ⟨q0, e1, rfl⟩ := hq'
              rw [e0] at e1
              simp only [Option.some.injEq] at e1
              subst e1
              exact ⟨rfl, h.ev _⟩) (by simpa using svreps_flatten_replicate (svreps_map z.cells.toList) len) hf
          have hol : ov.size = len * i.size := by
            have := h2.length
            rw [hl] at this
            simpa [hzl] using this
          have hbig : ¬ (len * i.size > 2 ^ 24) := by omega
          have hrun : (Instr.buildSlice t len (parts.map fun (i, x) => (i, a.eval x))).run cx.P w = .ok (.slice (some ⟨w.heap.size, 0, none⟩) len len) (w.alloc (.cells ov e)) := by
            have hz0 : ((Array.range (len * i.size)).map fun j => z.cells[j % z.cells.size]!) = (List.replicate len z.cells.toList).flatten.toArray := by
              rw [← mod_range_flat, hzl]
              apply Array.ext'
              simp
            by_cases h0 : len * i.size = 0
            · have e0 : (List.replicate len z.cells.toList).flatten = [] := by
                apply List.eq_nil_of_length_eq_zero
                simp [hzl, h0]
              rw [e0] at h1
              have h1' : Instr.fill (fun j => some (j * i.size, i.size)) #[] (List.map (fun x => (x.1, a.eval x.2)) parts.toList) = some ov := h1
              simp [Instr.buildSlice, run_underlying hu, sizeOf, typeInfo, hi, h0, h1', newRow, Array.range_zero']
            · rw [← hz0] at h1
              have h1' : Instr.fill (fun j => some (j * i.size, i.size)) (Array.map (fun j => z.cells[j % z.cells.size]!) (Array.range (len * i.size))) (List.map (fun x => (x.1, a.eval x.2)) parts.toList) = some ov := h1
              have hbig' : ¬ (16777216 < len * i.size) := by omega
              simp only [Instr.buildSlice, Sem.run_bind, run_underlying hu, Result.andThen_ok, sizeOf, typeInfo, run_program, hi, Sem.run_pure, hbig, h0, if_false, zeroValue, hz', Array.toList_map]
              rw [h1']
              simp [newRow]
          refine runs_mk h (cap := len) ha (by rw [hl]; simp [hzl, hol]) (fun j c u hc' hu' => h2.get j c u hc' (by simpa using hu')) ?_ (fun hf => by simp at hf) (v := .slice (some ⟨w.heap.size, 0, none⟩) len len) (cur := ov) ?_
          · intro _
            refine ⟨hol, ?_, Nat.le_refl _, rfl⟩
            simp only [maxLen]; omega
          · unfold execOp
            simp only [ho, Sem.run_bind, hrun, Result.andThen_ok]
            rfl
        · cases hz
      · cases hr
    · cases hr
  · cases hr
end
end Go.Ab
namespace Go.Ab
open Go.RowKit
section
variable {cx : Cx} {S S' : St} {a : Act} {w : World} {μ : Nat → Option (Nat × Nat)} {o : Oper}
def srcSV (sz : Nat) : SV × Option Blk → Option (Nat × List SV)
  | (.nils, _) => some (0, [])
  | (.emp _, _) => some (0, [])
  | (.dv (.list l), _) => if l.all (fun d => d.cells.length == sz && d.cells.all fun c => cellOk (.dv c)) then some (l.length, (flat l).map .dv) else none
  | (.sl _ _ k m, some blk) => if blk.esz = sz ∧ (k + m) * sz ≤ blk.cells.length ∧ ((blk.cells.drop (k * sz)).take (m * sz)).all cellOk then some (m, (blk.cells.drop (k * sz)).take (m * sz)) else none
  | _ => none
theorem flat_len : ∀ (l : List DV) (e : Nat), (∀ d ∈ l, d.cells.length = e) → (flat l).length = l.length * e
  | [], _, _ => by simp [flat]
  | d :: l, e, h => by
    have ih := flat_len l e (fun d' hd => h d' (by simp [hd]))
    have := h d (by simp)
    simp only [flat, List.flatMap_cons, List.length_append, List.length_cons] at ih ⊢
    rw [ih, this, Nat.add_mul]
    omega
theorem src_rep (h : SimU cx S a w μ) {sz : Nat} {s : SV} {n : Nat} {news : List SV} (hs : srcSV sz (s, blkOf S.M s) = some (n, news)) {v : Value} (hv : SVRep w S.M μ (XX cx S.M μ) s v) {t e' : TypeId} (ht : cx.P.underlying t = some (.slice e')) :
    ∃ nv, Src cx.P sz t v n nv w ∧ SVReps w S.M μ (XX cx S.M μ) news nv := by
  unfold srcSV at hs
  split at hs
  · rename_i q e
    simp only [Prod.mk.injEq] at e
    obtain ⟨rfl, _⟩ := e
    simp only [Option.some.injEq, Prod.mk.injEq] at hs
    obtain ⟨rfl, rfl⟩ := hs
    simp only [SVRep] at hv
    subst hv
    exact ⟨[], Src.ofNil w ht 0, trivial⟩
  · rename_i b q e
    simp only [Prod.mk.injEq] at e
    obtain ⟨rfl, _⟩ := e
    simp only [Option.some.injEq, Prod.mk.injEq] at hs
    obtain ⟨rfl, rfl⟩ := hs
    simp only [SVRep] at hv
    obtain ⟨ad, cap, rfl, _⟩ := hv
    refine ⟨[], ?_, trivial⟩
    cases ad with
    | none => exact Src.ofNil w ht cap
    | some ad => exact Src.ofSlice w ht ad 0 cap [] (by simp) (fun j u hj => by simp at hj) (fun u hu => by cases hu)
  · rename_i l q e
    simp only [Prod.mk.injEq] at e
    obtain ⟨rfl, _⟩ := e
    split at hs
    · rename_i hall
      simp only [Option.some.injEq, Prod.mk.injEq] at hs
      obtain ⟨rfl, rfl⟩ := hs
      simp only [SVRep] at hv
      have hall' : ∀ d ∈ l, d.cells.length = sz ∧ ∀ c ∈ d.cells, cellOk (.dv c) = true := by
        intro d hd
        have := List.all_eq_true.1 hall d hd
        simp only [Bool.and_eq_true, beq_iff_eq, List.all_eq_true] at this
        exact this
      cases hv with
      | listNil ad cap =>
        refine ⟨[], ?_, trivial⟩
        cases ad with
        | none => exact Src.ofNil w ht cap
        | some ad => exact Src.ofSlice w ht ad 0 cap [] (by simp) (fun j u hj => by simp at hj) (fun u hu => by cases hu)
      | list _ b off cap esz u h1 h2 hcap h3 h4 h5 =>
        have hfl := flat_len l sz (fun d hd => (hall' d hd).1)
        have hok : ∀ c ∈ flat l, cellOk (.dv c) = true := by
          intro c hc
          simp only [flat, List.mem_flatMap] at hc
          obtain ⟨d, hd, hc⟩ := hc
          exact (hall' d hd).2 c hc
        refine ⟨(List.range (flat l).length).map u, Src.ofSlice w ht ⟨b, off, none⟩ l.length cap _ (by simp [hfl]) ?_ ?_, ?_⟩
        · intro j v hj
          simp only [List.getElem?_map, Option.map_eq_some_iff] at hj
          obtain ⟨j', hj', rfl⟩ := hj
          have hlt : j < (flat l).length := by simpa using (List.getElem?_eq_some_iff.1 hj').1
          rw [List.getElem?_range hlt] at hj'
          simp only [Option.some.injEq] at hj'
          subst hj'
          rw [Addr.add_lit]
          exact h4 j (flat l)[j] (by simp)
        · intro x hx
          simp only [List.mem_map, List.mem_range] at hx
          obtain ⟨j, hj, rfl⟩ := hx
          have hr := h5 j (flat l)[j] (by simp [hj])
          exact cellOk_rep (M := S.M) (μ := μ) (hok _ (List.getElem_mem hj)) (by simp only [SVRep]; exact hr)
        · refine SVReps.mk (by simp) fun j c v hc hv => ?_
          simp only [List.getElem?_map, Option.map_eq_some_iff] at hc hv
          obtain ⟨d, hd, rfl⟩ := hc
          obtain ⟨j', hj', rfl⟩ := hv
          have hlt : j < (flat l).length := (List.getElem?_eq_some_iff.1 hd).1
          rw [List.getElem?_range hlt] at hj'
          simp only [Option.some.injEq] at hj'
          subst hj'
          simp only [SVRep]
          exact h5 j d hd
    · cases hs
  · rename_i t' g k m blk e
    simp only [Prod.mk.injEq] at e
    obtain ⟨rfl, eb⟩ := e
    have hM := blkOf_sl eb
    split at hs
    · rename_i hc
      simp only [Option.some.injEq, Prod.mk.injEq] at hs
      obtain ⟨rfl, rfl⟩ := hs
      obtain ⟨rfl, hle, hok⟩ := hc
      simp only [SVRep] at hv
      have hv2 := hv.2 blk hM
      have hb := h.blk t' g blk hM
      unfold BlkRep at hb
      cases hm : μ t' with
      | none =>
        rw [hm] at hv2 hb
        simp only at hv2 hb
        obtain ⟨rfl, rfl, rfl⟩ := hv2
        refine ⟨[], Src.ofNil w ht 0, by simp [SVReps]⟩
      | some p =>
        obtain ⟨b, cap⟩ := p
        rw [hm] at hv2 hb
        simp only at hv2 hb
        obtain ⟨rfl, hcap⟩ := hv2
        obtain ⟨cur, q1, q2, q3, _, _⟩ := hb
        have hrep : SVReps w S.M μ (XX cx S.M μ) ((blk.cells.drop (k * blk.esz)).take (m * blk.esz)) ((cur.toList.drop (k * blk.esz)).take (m * blk.esz)) := by
          refine SVReps.mk (by simp; rw [Nat.add_mul] at hle; omega) fun j c u hc hu => ?_
          rw [List.getElem?_take] at hc hu
          split at hc
          · rename_i hlt
            rw [if_pos hlt] at hu
            rw [List.getElem?_drop] at hc hu
            exact q3 _ c u hc (by simpa using hu)
          · cases hc
        refine ⟨_, Src.ofSlice w ht ⟨b, k * blk.esz, none⟩ m (cap - k) _ ?_ ?_ ?_, hrep⟩
        · rw [Nat.add_mul] at hle
          simp; omega
        · intro j v hj
          rw [List.getElem?_take] at hj
          split at hj
          · rw [List.getElem?_drop] at hj
            rw [Addr.add_lit, cell_at q1]
            simpa using hj
          · cases hj
        · intro x hx
          obtain ⟨j, hj, rfl⟩ := List.getElem_of_mem hx
          have hj' : j < ((blk.cells.drop (k * blk.esz)).take (m * blk.esz)).length := by have := hrep.length; omega
          exact cellOk_rep (List.all_eq_true.1 hok _ (List.getElem_mem hj')) (hrep.get j _ _ (List.getElem?_eq_getElem hj') (List.getElem?_eq_getElem hj))
    · cases hs
  · cases hs
def appendOut (P : Program) (t tx : TypeId) (s x : SV × Option Blk) : Option Out :=
  match elemP P t, elemP P tx with
  | some e, some _ => match szP P e, bytesP P e, zeroP P e with
    | some sz, some by', some zs =>
      match srcSV sz x with
      | some (n, news) =>
        match s with
        | (.nils, _) => if n ≤ 9223372036854775807 ∧ n * by' ≤ 140737488355328 ∧ zs.length = sz then some (.app none ⟨news, sz, e, 0, true⟩ n) else none
        | (.sl t' _ 0 m, some blk) =>
          if blk.row = true ∧ blk.esz = sz ∧ blk.elem = e ∧ blk.cells.length = m * sz ∧ m + n ≤ 9223372036854775807 ∧ (m + n) * by' ≤ 140737488355328 ∧ zs.length = sz then some (.app (some t') { blk with cells := blk.cells ++ news, st := 0 } (m + n)) else none
        | _ => none
      | none => none
    | _, _, _ => none
  | _, _ => none
theorem append_grown (h : SimU cx S a w μ) {t tx e : TypeId} {i : TypeInfo} {z : Value} {ty : TypeId} (hu : cx.P.underlying t = some (.slice e)) (hi : cx.P.info? e = some i) (hz : i.zero = some z) (hzl : z.cells.size = i.size)
    (base : Option Addr) (m cap n : Nat) (olds nv : List Value) (hold : (Builtin.firstCells i.size m (.slice base m cap)).run cx.P w.drew = .ok olds.toArray w.drew) (hol : olds.length = m * i.size)
    {x : Value} (hs : Src cx.P i.size tx x n nv w) (hg : cap < m + n) (h63 : m + n ≤ 9223372036854775807) (hb : (m + n) * i.bytes ≤ 140737488355328)
    {os ns : List SV} (ho : SVReps w S.M μ (XX cx S.M μ) os olds) (hn : SVReps w S.M μ (XX cx S.M μ) ns nv) (d : Nat) :
    ∃ v' w' μ', (Builtin.append_ #[t, tx] ty #[.slice base m cap, x]).run cx.P w = .ok v' w' ∧
      SimU cx ⟨S.F, upd S.M d ((S.M d).1 + 1, some ⟨os ++ ns, i.size, e, 0, true⟩)⟩ a w' μ' ∧
      SVRep w' (upd S.M d ((S.M d).1 + 1, some ⟨os ++ ns, i.size, e, 0, true⟩)) μ' (XX cx (upd S.M d ((S.M d).1 + 1, some ⟨os ++ ns, i.size, e, 0, true⟩)) μ') (.sl d ((S.M d).1 + 1) 0 (m + n)) v' := by
  have hr := run_append_grow_src (P := cx.P) w t tx ty e i z hu hi hz base m cap olds hold x n nv hs hg (by omega) (growslice_fits (by omega) hb)
  have hd : Below w.heap.size w w.drew := (Below.refl _ _).drew
  have h1 := h.grow hd
  have hge := grownCap_ge w (m + n) cap e
  have hcm := grownCap_le_maxLen w (m + n) cap e (by simp only [maxLen]; omega)
  have hnl := hs.newsLen
  have hok : SVReps w S.M μ (XX cx S.M μ) (os ++ ns) (olds ++ nv) := by
    refine SVReps.mk (by simp [ho.length, hn.length]) fun j c v hc hv => ?_
    by_cases hj : j < os.length
    · rw [List.getElem?_append_left hj] at hc
      rw [List.getElem?_append_left (by rw [ho.length]; exact hj)] at hv
      exact ho.get j c v hc hv
    · rw [List.getElem?_append_right (by omega)] at hc
      rw [List.getElem?_append_right (by rw [ho.length]; omega), ho.length] at hv
      exact hn.get _ c v hc hv
  have hsize : ((olds ++ nv).toArray ++ Builtin.zeroCells z.cells (grownCap w (m + n) cap e - (m + n))).size = grownCap w (m + n) cap e * i.size := by
    simp only [Array.size_append, List.size_toArray, List.length_append, size_zeroCells, hzl, hol, hnl, ← Nat.add_mul]
    congr 1
    omega
  have h2 := h1.create d ⟨os ++ ns, i.size, e, 0, true⟩ ((olds ++ nv).toArray ++ Builtin.zeroCells z.cells (grownCap w (m + n) cap e - (m + n))) (grownCap w (m + n) cap e)
    (by simp) (by simp [ho.length, hn.length]) (fun j c u hc hu => by
      have hj : j < (os ++ ns).length := (List.getElem?_eq_some_iff.1 hc).1
      have hlen := hok.length
      rw [Array.getElem?_append_left (by simp only [List.size_toArray]; omega)] at hu
      have := hok.get j c u hc (by simpa using hu)
      exact SVRep.mono hd.size (fun b hb hx => ⟨hd.block b hb, hx⟩) (fun _ => Nat.le_refl _) (fun t g blk' e _ => ⟨blk', e, rfl, rfl⟩) c u this)
    (fun _ => ⟨hsize, hcm⟩) (fun hf => by simp at hf)
  refine ⟨_, _, _, hr, h2, ?_⟩
  simp only [SVRep]
  refine ⟨⟨rfl, by rw [upd_same]; exact Nat.le_refl _⟩, fun blk' e' => ?_⟩
  rw [upd_same] at e'
  simp only [Prod.mk.injEq, Option.some.injEq, true_and] at e'
  subst e'
  rw [upd_same]
  simp only [Nat.zero_mul, Nat.sub_zero, Nat.zero_add]
  exact ⟨rfl, hge⟩
theorem append_none (h : SimU cx S a w μ) {t tx e : TypeId} {i : TypeInfo} {ty : TypeId} (hu : cx.P.underlying t = some (.slice e)) (hi : cx.P.info? e = some i) {x : Value} {nv : List Value} (hs : Src cx.P i.size tx x 0 nv w) (d : Nat) :
    ∃ v' w' μ', (Builtin.append_ #[t, tx] ty #[.slice none 0 0, x]).run cx.P w = .ok v' w' ∧
      SimU cx ⟨S.F, upd S.M d ((S.M d).1 + 1, some ⟨[], i.size, e, 0, true⟩)⟩ a w' μ' ∧
      SVRep w' (upd S.M d ((S.M d).1 + 1, some ⟨[], i.size, e, 0, true⟩)) μ' (XX cx (upd S.M d ((S.M d).1 + 1, some ⟨[], i.size, e, 0, true⟩)) μ') (.sl d ((S.M d).1 + 1) 0 0) v' := by
  refine ⟨.slice none 0 0, w, upd μ d none, ?_, h.virt d i.size e, ?_⟩
  · have hnv : nv = [] := List.eq_nil_of_length_eq_zero (by have := hs.newsLen; simpa using this)
    subst hnv
    rcases hs.kind with ⟨e', hk⟩ | hk <;> simp [Builtin.append_, run_underlying hu, run_underlying hk, sizeOf, typeInfo, hi, hs.len, hs.cells]
  · simp only [SVRep]
    refine ⟨⟨rfl, by rw [upd_same]; exact Nat.le_refl _⟩, fun blk' e' => ?_⟩
    rw [upd_same]
    exact ⟨trivial, trivial, trivial⟩
end
end Go.Ab
