/- The abstract layer, part 10: append. -/
import Derived.Test.YtjlfgobbieljoaaAb9
namespace Go.Ab
open Go.RowKit

section
variable {cx : Cx} {S S' : St} {a : Act} {w : World} {μ : Nat → Option (Nat × Nat)} {o : Oper}

/-- What an append takes from its second argument: so many elements, their cells. -/
def srcSV (sz : Nat) : SV × Option Blk → Option (Nat × List SV)
  | (.nils, _) => some (0, [])
  | (.emp _, _) => some (0, [])
  | (.dv (.list l), _) => if l.all (fun d => d.cells.length == sz && d.cells.all fun c => cellOk (.dv c)) then some (l.length, (flat l).map .dv) else none
  | (.sl _ _ k m, some blk) => if blk.esz = sz ∧ (k + m) * sz ≤ blk.cells.length ∧ ((blk.cells.drop (k * sz)).take (m * sz)).all cellOk then some (m, (blk.cells.drop (k * sz)).take (m * sz)) else none
  | _ => none

theorem flat_len : ∀ (l : List DV) (e : Nat), (∀ d ∈ l, d.cells.length = e) → (flat l).length = l.length * e
  | [], _, _ => by simp [flat]
  | d :: l, e, h => by
    have ih := flat_len l e (fun d' hd => h d' (by simp [hd]))
    have := h d (by simp)
    simp only [flat, List.flatMap_cons, List.length_append, List.length_cons] at ih ⊢
    rw [ih, this, Nat.add_mul]
    omega

theorem src_rep (h : SimU cx S a w μ) {sz : Nat} {s : SV} {n : Nat} {news : List SV} (hs : srcSV sz (s, blkOf S.M s) = some (n, news)) {v : Value} (hv : SVRep w S.M μ (XX cx S.M μ) s v) {t e' : TypeId} (ht : cx.P.underlying t = some (.slice e')) :
    ∃ nv, Src cx.P sz t v n nv w ∧ SVReps w S.M μ (XX cx S.M μ) news nv := by
  unfold srcSV at hs
  split at hs
  · rename_i q e
    simp only [Prod.mk.injEq] at e
    obtain ⟨rfl, _⟩ := e
    simp only [Option.some.injEq, Prod.mk.injEq] at hs
    obtain ⟨rfl, rfl⟩ := hs
    simp only [SVRep] at hv
    subst hv
    exact ⟨[], Src.ofNil w ht 0, trivial⟩
  · rename_i b q e
    simp only [Prod.mk.injEq] at e
    obtain ⟨rfl, _⟩ := e
    simp only [Option.some.injEq, Prod.mk.injEq] at hs
    obtain ⟨rfl, rfl⟩ := hs
    simp only [SVRep] at hv
    obtain ⟨ad, cap, rfl, _⟩ := hv
    refine ⟨[], ?_, trivial⟩
    cases ad with
    | none => exact Src.ofNil w ht cap
    | some ad => exact Src.ofSlice w ht ad 0 cap [] (by simp) (fun j u hj => by simp at hj) (fun u hu => by cases hu)
  · rename_i l q e
    simp only [Prod.mk.injEq] at e
    obtain ⟨rfl, _⟩ := e
    split at hs
    · rename_i hall
      simp only [Option.some.injEq, Prod.mk.injEq] at hs
      obtain ⟨rfl, rfl⟩ := hs
      simp only [SVRep] at hv
      have hall' : ∀ d ∈ l, d.cells.length = sz ∧ ∀ c ∈ d.cells, cellOk (.dv c) = true := by
        intro d hd
        have := List.all_eq_true.1 hall d hd
        simp only [Bool.and_eq_true, beq_iff_eq, List.all_eq_true] at this
        exact this
      cases hv with
      | listNil ad cap =>
        refine ⟨[], ?_, trivial⟩
        cases ad with
        | none => exact Src.ofNil w ht cap
        | some ad => exact Src.ofSlice w ht ad 0 cap [] (by simp) (fun j u hj => by simp at hj) (fun u hu => by cases hu)
      | list _ b off cap esz u h1 h2 hcap h3 h4 h5 =>
        have hfl := flat_len l sz (fun d hd => (hall' d hd).1)
        have hok : ∀ c ∈ flat l, cellOk (.dv c) = true := by
          intro c hc
          simp only [flat, List.mem_flatMap] at hc
          obtain ⟨d, hd, hc⟩ := hc
          exact (hall' d hd).2 c hc
        refine ⟨(List.range (flat l).length).map u, Src.ofSlice w ht ⟨b, off, none⟩ l.length cap _ (by simp [hfl]) ?_ ?_, ?_⟩
        · intro j v hj
          simp only [List.getElem?_map, Option.map_eq_some_iff] at hj
          obtain ⟨j', hj', rfl⟩ := hj
          have hlt : j < (flat l).length := by simpa using (List.getElem?_eq_some_iff.1 hj').1
          rw [List.getElem?_range hlt] at hj'
          simp only [Option.some.injEq] at hj'
          subst hj'
          rw [Addr.add_lit]
          exact h4 j (flat l)[j] (by simp)
        · intro x hx
          simp only [List.mem_map, List.mem_range] at hx
          obtain ⟨j, hj, rfl⟩ := hx
          have hr := h5 j (flat l)[j] (by simp [hj])
          exact cellOk_rep (M := S.M) (μ := μ) (hok _ (List.getElem_mem hj)) (by simp only [SVRep]; exact hr)
        · refine SVReps.mk (by simp) fun j c v hc hv => ?_
          simp only [List.getElem?_map, Option.map_eq_some_iff] at hc hv
          obtain ⟨d, hd, rfl⟩ := hc
          obtain ⟨j', hj', rfl⟩ := hv
          have hlt : j < (flat l).length := (List.getElem?_eq_some_iff.1 hd).1
          rw [List.getElem?_range hlt] at hj'
          simp only [Option.some.injEq] at hj'
          subst hj'
          simp only [SVRep]
          exact h5 j d hd
    · cases hs
  · rename_i t' g k m blk e
    simp only [Prod.mk.injEq] at e
    obtain ⟨rfl, eb⟩ := e
    have hM := blkOf_sl eb
    split at hs
    · rename_i hc
      simp only [Option.some.injEq, Prod.mk.injEq] at hs
      obtain ⟨rfl, rfl⟩ := hs
      obtain ⟨rfl, hle, hok⟩ := hc
      simp only [SVRep] at hv
      have hv2 := hv.2 blk hM
      have hb := h.blk t' g blk hM
      unfold BlkRep at hb
      cases hm : μ t' with
      | none =>
        rw [hm] at hv2 hb
        simp only at hv2 hb
        obtain ⟨rfl, rfl, rfl⟩ := hv2
        refine ⟨[], Src.ofNil w ht 0, by simp [SVReps]⟩
      | some p =>
        obtain ⟨b, cap⟩ := p
        rw [hm] at hv2 hb
        simp only at hv2 hb
        obtain ⟨rfl, hcap⟩ := hv2
        obtain ⟨cur, q1, q2, q3, _, _⟩ := hb
        have hrep : SVReps w S.M μ (XX cx S.M μ) ((blk.cells.drop (k * blk.esz)).take (m * blk.esz)) ((cur.toList.drop (k * blk.esz)).take (m * blk.esz)) := by
          refine SVReps.mk (by simp; rw [Nat.add_mul] at hle; omega) fun j c u hc hu => ?_
          rw [List.getElem?_take] at hc hu
          split at hc
          · rename_i hlt
            rw [if_pos hlt] at hu
            rw [List.getElem?_drop] at hc hu
            exact q3 _ c u hc (by simpa using hu)
          · cases hc
        refine ⟨_, Src.ofSlice w ht ⟨b, k * blk.esz, none⟩ m (cap - k) _ ?_ ?_ ?_, hrep⟩
        · rw [Nat.add_mul] at hle
          simp; omega
        · intro j v hj
          rw [List.getElem?_take] at hj
          split at hj
          · rw [List.getElem?_drop] at hj
            rw [Addr.add_lit, cell_at q1]
            simpa using hj
          · cases hj
        · intro x hx
          obtain ⟨j, hj, rfl⟩ := List.getElem_of_mem hx
          have hj' : j < ((blk.cells.drop (k * blk.esz)).take (m * blk.esz)).length := by have := hrep.length; omega
          exact cellOk_rep (List.all_eq_true.1 hok _ (List.getElem_mem hj')) (hrep.get j _ _ (List.getElem?_eq_getElem hj') (List.getElem?_eq_getElem hj))
    · cases hs
  · cases hs

def appendOut (P : Program) (t tx : TypeId) (s x : SV × Option Blk) : Option Out :=
  match elemP P t, elemP P tx with
  | some e, some _ => match szP P e, bytesP P e, zeroP P e with
    | some sz, some by', some zs =>
      match srcSV sz x with
      | some (n, news) =>
        match s with
        | (.nils, _) => if n ≤ 9223372036854775807 ∧ n * by' ≤ 140737488355328 ∧ zs.length = sz then some (.app none ⟨news, sz, e, 0, true⟩ n) else none
        | (.sl t' _ 0 m, some blk) =>
          if blk.row = true ∧ blk.esz = sz ∧ blk.elem = e ∧ blk.cells.length = m * sz ∧ m + n ≤ 9223372036854775807 ∧ (m + n) * by' ≤ 140737488355328 ∧ zs.length = sz then some (.app (some t') { blk with cells := blk.cells ++ news, st := 0 } (m + n)) else none
        | _ => none
      | none => none
    | _, _, _ => none
  | _, _ => none

/-- The grown row, in a state whose tag d may be anything. -/
theorem append_grown (h : SimU cx S a w μ) {t tx e : TypeId} {i : TypeInfo} {z : Value} {ty : TypeId} (hu : cx.P.underlying t = some (.slice e)) (hi : cx.P.info? e = some i) (hz : i.zero = some z) (hzl : z.cells.size = i.size)
    (base : Option Addr) (m cap n : Nat) (olds nv : List Value) (hold : (Builtin.firstCells i.size m (.slice base m cap)).run cx.P w.drew = .ok olds.toArray w.drew) (hol : olds.length = m * i.size)
    {x : Value} (hs : Src cx.P i.size tx x n nv w) (hg : cap < m + n) (h63 : m + n ≤ 9223372036854775807) (hb : (m + n) * i.bytes ≤ 140737488355328)
    {os ns : List SV} (ho : SVReps w S.M μ (XX cx S.M μ) os olds) (hn : SVReps w S.M μ (XX cx S.M μ) ns nv) (d : Nat) :
    ∃ v' w' μ', (Builtin.append_ #[t, tx] ty #[.slice base m cap, x]).run cx.P w = .ok v' w' ∧
      SimU cx ⟨S.F, upd S.M d ((S.M d).1 + 1, some ⟨os ++ ns, i.size, e, 0, true⟩)⟩ a w' μ' ∧
      SVRep w' (upd S.M d ((S.M d).1 + 1, some ⟨os ++ ns, i.size, e, 0, true⟩)) μ' (XX cx (upd S.M d ((S.M d).1 + 1, some ⟨os ++ ns, i.size, e, 0, true⟩)) μ') (.sl d ((S.M d).1 + 1) 0 (m + n)) v' := by
  have hr := run_append_grow_src (P := cx.P) w t tx ty e i z hu hi hz base m cap olds hold x n nv hs hg (by omega) (growslice_fits (by omega) hb)
  have hd : Below w.heap.size w w.drew := (Below.refl _ _).drew
  have h1 := h.grow hd
  have hge := grownCap_ge w (m + n) cap e
  have hcm := grownCap_le_maxLen w (m + n) cap e (by simp only [maxLen]; omega)
  have hnl := hs.newsLen
  have hok : SVReps w S.M μ (XX cx S.M μ) (os ++ ns) (olds ++ nv) := by
    refine SVReps.mk (by simp [ho.length, hn.length]) fun j c v hc hv => ?_
    by_cases hj : j < os.length
    · rw [List.getElem?_append_left hj] at hc
      rw [List.getElem?_append_left (by rw [ho.length]; exact hj)] at hv
      exact ho.get j c v hc hv
    · rw [List.getElem?_append_right (by omega)] at hc
      rw [List.getElem?_append_right (by rw [ho.length]; omega), ho.length] at hv
      exact hn.get _ c v hc hv
  have hsize : ((olds ++ nv).toArray ++ Builtin.zeroCells z.cells (grownCap w (m + n) cap e - (m + n))).size = grownCap w (m + n) cap e * i.size := by
    simp only [Array.size_append, List.size_toArray, List.length_append, size_zeroCells, hzl, hol, hnl, ← Nat.add_mul]
    congr 1
    omega
  have h2 := h1.create d ⟨os ++ ns, i.size, e, 0, true⟩ ((olds ++ nv).toArray ++ Builtin.zeroCells z.cells (grownCap w (m + n) cap e - (m + n))) (grownCap w (m + n) cap e)
    (by simp) (by simp [ho.length, hn.length]) (fun j c u hc hu => by
      have hj : j < (os ++ ns).length := (List.getElem?_eq_some_iff.1 hc).1
      have hlen := hok.length
      rw [Array.getElem?_append_left (by simp only [List.size_toArray]; omega)] at hu
      have := hok.get j c u hc (by simpa using hu)
      exact SVRep.mono hd.size (fun b hb hx => ⟨hd.block b hb, hx⟩) (fun _ => Nat.le_refl _) (fun t g blk' e _ => ⟨blk', e, rfl, rfl⟩) c u this)
    (fun _ => ⟨hsize, hcm⟩) (fun hf => by simp at hf)
  refine ⟨_, _, _, hr, h2, ?_⟩
  simp only [SVRep]
  refine ⟨⟨rfl, by rw [upd_same]; exact Nat.le_refl _⟩, fun blk' e' => ?_⟩
  rw [upd_same] at e'
  simp only [Prod.mk.injEq, Option.some.injEq, true_and] at e'
  subst e'
  rw [upd_same]
  simp only [Nat.zero_mul, Nat.sub_zero, Nat.zero_add]
  exact ⟨rfl, hge⟩

/-- Nothing onto nil: nil. -/
theorem append_none (h : SimU cx S a w μ) {t tx e : TypeId} {i : TypeInfo} {ty : TypeId} (hu : cx.P.underlying t = some (.slice e)) (hi : cx.P.info? e = some i) {x : Value} {nv : List Value} (hs : Src cx.P i.size tx x 0 nv w) (d : Nat) :
    ∃ v' w' μ', (Builtin.append_ #[t, tx] ty #[.slice none 0 0, x]).run cx.P w = .ok v' w' ∧
      SimU cx ⟨S.F, upd S.M d ((S.M d).1 + 1, some ⟨[], i.size, e, 0, true⟩)⟩ a w' μ' ∧
      SVRep w' (upd S.M d ((S.M d).1 + 1, some ⟨[], i.size, e, 0, true⟩)) μ' (XX cx (upd S.M d ((S.M d).1 + 1, some ⟨[], i.size, e, 0, true⟩)) μ') (.sl d ((S.M d).1 + 1) 0 0) v' := by
  refine ⟨.slice none 0 0, w, upd μ d none, ?_, h.virt d i.size e, ?_⟩
  · have hnv : nv = [] := List.eq_nil_of_length_eq_zero (by have := hs.newsLen; simpa using this)
    subst hnv
    rcases hs.kind with ⟨e', hk⟩ | hk <;> simp [Builtin.append_, run_underlying hu, run_underlying hk, sizeOf, typeInfo, hi, hs.len, hs.cells]
  · simp only [SVRep]
    refine ⟨⟨rfl, by rw [upd_same]; exact Nat.le_refl _⟩, fun blk' e' => ?_⟩
    rw [upd_same]
    exact ⟨trivial, trivial, trivial⟩

end
end Go.Ab
