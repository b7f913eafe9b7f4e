/- HeapT, HeapT2, HeapT3. -/
import Derived.Test.YtapabnafbfnjnaaAbI
import Derived.Test.YtapabnafbfnjnaaHeapPA
import Derived.Test.YtapabnafbfnjnaaHeapPA
set_option linter.all false
set_option linter.all false
namespace Go.Ab.Heap
open Go Go.Ab
abbrev dHp (h : Hp) : DV := .agg [.list (h.links.map ints), ints h.ground]
theorem data_cells {ok : Nat → Prop} {okd : DV → Prop} {M : Nat → Nat × Option Blk} {t g n : Nat} {blk : Blk} {l : List DV} (hM : M t = (g, some blk)) (hst : ok blk.st) (hl : l.length = n) (he : ∀ d ∈ l, d.cells.length = blk.esz)
    (hc : ArgsSV (Data ok okd M) blk.cells (flat l)) : Data ok okd M (.sl t g 0 n) (.list l) := by
  have hlen := argsSV_len hc
  refine .sl t g 0 n blk l (fun j => blk.cells.getD j .dead) hM hst hl he (fun j c hj => ?_) fun j c hj => ?_
  · have hj2 : j < blk.cells.length := by rw [hlen]; exact (List.getElem?_eq_some_iff.1 hj).1
    simp [hj2]
  · have hj2 : j < blk.cells.length := by rw [hlen]; exact (List.getElem?_eq_some_iff.1 hj).1
    exact argsSV_get hc j _ c (by simp [hj2]) hj
theorem data_agg {ok : Nat → Prop} {okd : DV → Prop} {M : Nat → Nat × Option Blk} {ss : List SV} {ds : List DV} (h : ArgsSV (Data ok okd M) ss ds) : Data ok okd M (.agg ss) (.agg ds) :=
  .agg ss ds (argsSV_len h) fun j s c h1 h2 => argsSV_get h j s c h1 h2
theorem end_cell {P : Program} {okd : DV → Prop} {S : St} {x : Exit} {t : Nat} {ty : TypeId} {s1 : SV} {d : DV} (he : x = .normal ∨ x = .ret) (hs : loadSV P ty (S.look (.tmp t)) = some s1) (h1 : Data (fun _ => True) okd S.M s1 d) : EndK P okd [.cell t ty] (.one (.dv d)) x S := by
  refine ⟨he, [s1], [.dv d], by simp [resSV, hs], ⟨h1, trivial⟩, .inl fun r hr => ⟨d, by simpa using hr⟩, rfl⟩
theorem data_intsP {ok : Nat → Prop} {okd : DV → Prop} {M : Nat → Nat × Option Blk} {t g n : Nat} {blk : Blk} {k : IntKind} {L zs : List Int} (hM : M t = (g, some blk)) (hst : ok blk.st) (hl : L.length = n) (he : blk.esz = 1) (hc : blk.cells = (L ++ zs).map fun q => .dv (.int k q)) (hd : ∀ q, okd (.int k q)) : Data ok okd M (.sl t g 0 n) (.list (L.map (DV.int k))) := by
  have hf : flat (L.map (DV.int k)) = L.map (DV.int k) := flat_one fun _ => rfl
  refine .sl t g 0 n blk _ (fun j => .dv ((L.map (DV.int k)).getD j default)) hM hst (by simpa using hl) (fun d hd' => ?_) (fun j c hj => ?_) fun j c hj => ?_
  · obtain ⟨q, _, rfl⟩ := List.mem_map.1 hd'; rw [he]; rfl
  · rw [hf] at hj
    have h1 := (List.getElem?_eq_some_iff.1 hj).1
    simp only [List.length_map] at h1
    rw [hc]
    simp [h1, List.getElem?_append_left]
  · rw [hf] at hj
    have h0 : (L.map (DV.int k)).getD j default = c := by rw [List.getD_eq_getElem?_getD, hj]; rfl
    rw [h0]
    obtain ⟨q, _, rfl⟩ := List.mem_map.1 (List.mem_of_getElem? hj)
    exact .dv _ (hd q)
theorem data_bools {ok : Nat → Prop} {okd : DV → Prop} {M : Nat → Nat × Option Blk} {t g n : Nat} {e : TypeId} {L : List Bool} (hM : M t = (g, some (rowT e L))) (hst : ok 0) (hl : L.length = n) (hd : ∀ q, okd (.bool q)) : Data ok okd M (.sl t g 0 n) (.list (L.map DV.bool)) := by
  have hf : flat (L.map DV.bool) = L.map DV.bool := flat_one fun _ => rfl
  refine data_row hM hst (by simpa using hl) (fun d hd' => ?_) ?_ fun c hc' => ?_
  · obtain ⟨q, _, rfl⟩ := List.mem_map.1 hd'; rfl
  · rw [hf]; simp
  · rw [hf] at hc'; obtain ⟨q, _, rfl⟩ := List.mem_map.1 hc'; exact hd q
abbrev rowR (L : List (List Int)) : Blk := ⟨L.map fun r => .dv (ints r), 1, 23, 0, true⟩
theorem data_rows {ok : Nat → Prop} {okd : DV → Prop} {M : Nat → Nat × Option Blk} {t g n : Nat} {L : List (List Int)} (hM : M t = (g, some (rowR L))) (hst : ok 0) (hl : L.length = n) (hd : ∀ l, okd (ints l)) : Data ok okd M (.sl t g 0 n) (.list (L.map ints)) := by
  refine data_cells (blk := rowR L) hM hst (by simpa using hl) (fun d h => by obtain ⟨s, _, rfl⟩ := List.mem_map.1 h; rfl) ?_
  have : flat (L.map ints) = L.map ints := flat_one fun _ => rfl
  rw [this]
  show ArgsSV (Data ok okd M) (L.map fun r => .dv (ints r)) (L.map ints)
  clear hM hl this
  induction L with
  | nil => exact args_nil
  | cons r L ih => exact args_cons (.dv _ (hd r)) ih
theorem any_at {α : Type} {p : α → Bool} {l : List α} {k : Nat} {x : α} (h : l[k]? = some x) (hp : p x = true) : l.any p = true := List.any_eq_true.2 ⟨x, List.mem_of_getElem? h, hp⟩
theorem same_none {a b : List Int} (h : a.length ≠ b.length) : (a == b) = false := by
  rw [beq_eq_false_iff_ne]; intro e; rw [e] at h; exact h rfl
theorem same_at {a b : List Int} {i : Nat} {x y : Int} (h1 : a[i]? = some x) (h2 : b[i]? = some y) (h : x ≠ y) : (a == b) = false := by
  rw [beq_eq_false_iff_ne]; intro e; rw [e, h2] at h1; exact h (Option.some.inj h1).symm
theorem same_all {a b : List Int} (hl : a.length = b.length) (h : ∀ j, j < a.length → a[j]? = b[j]?) : (a == b) = true := by
  rw [beq_iff_eq]
  apply List.ext_getElem? 
  intro j
  rcases Nat.lt_or_ge j a.length with h1 | h1
  · exact h j h1
  · rw [List.getElem?_eq_none h1, List.getElem?_eq_none (by omega)]
def longB (h : Hp) (l : List (List Int)) : Bool := l.any (fun r => decide (400 < r.length)) || h.links.any (fun r => decide (50 < r.length)) || decide (50 < h.links.length) || decide (50 < h.ground.length)
end Go.Ab.Heap
set_option linter.all false
namespace Go.Ab.Heap
open Go Go.Ab
section
variable {l : List (Nat × SV)} {m : List (Nat × Nat × Option Blk)} {d d2 g g2 : Nat} {k : IntKind} {e : TypeId} {L L2 : List Int} {x y : DV}
theorem res_rr (hd : d + 1000 = d2) (hg : (mkM m d).1 = g) (hg2 : (mkM m d2).1 = g2) : (resEff d ⟨lk l, mkM m⟩ (.many [rK k e L, rK k e L2])).app ⟨lk l, mkM m⟩ = ⟨lk ((d, .tup [.sl d (g + 1) 0 L.length, .sl d2 (g2 + 1) 0 L2.length]) :: l), mkM ((d2, g2 + 1, some (rowK k e L2)) :: (d, g + 1, some (rowK k e L)) :: m)⟩ := by
  subst hd; subst hg; subst hg2
  simp only [rK, resEff, Eff.app, impRes, impSV, resMs, impMs, setM, upd_lk, upd_mkM, Nat.mul_zero, Nat.add_zero, Nat.mul_one, Nat.zero_add, List.map_map]
  simp [rowK, Function.comp_def, mkM]
  rfl
theorem res_rrdd (hd : d + 1000 = d2) (hg : (mkM m d).1 = g) (hg2 : (mkM m d2).1 = g2) : (resEff d ⟨lk l, mkM m⟩ (.many [rK k e L, rK k e L2, .dv x, .dv y])).app ⟨lk l, mkM m⟩ = ⟨lk ((d, .tup [.sl d (g + 1) 0 L.length, .sl d2 (g2 + 1) 0 L2.length, .dv x, .dv y]) :: l), mkM ((d2, g2 + 1, some (rowK k e L2)) :: (d, g + 1, some (rowK k e L)) :: m)⟩ := by
  subst hd; subst hg; subst hg2
  simp only [rK, resEff, Eff.app, impRes, impSV, resMs, impMs, setM, upd_lk, upd_mkM, Nat.mul_zero, Nat.add_zero, Nat.mul_one, Nat.zero_add, List.map_map]
  simp [rowK, Function.comp_def, mkM]
  rfl
end
end Go.Ab.Heap
set_option linter.all false
namespace Go.Ab.Heap
open Go Go.Ab
structure Tri where
  a : List Int
  b : List Int
  c : List Int
structure Duo where
  i : Int
  k : Int
end Go.Ab.Heap
