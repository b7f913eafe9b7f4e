/- The abstract layer, part 41: a struct of three fields, read as plain data. -/
import Derived.Test.YtapabnafbfnjnaaAbF
import Derived.Deep.Strs
set_option linter.all false
namespace Go.Ab
open Go.ChangeShapes Go.WideShapes Go.ChangeAt Go.RowKit
variable {H : Type} {enc : TypeId × Value → H} {P : Program} {W : World} {t : TypeId} {α β γ : Type} {F : α → DV} {G : β → DV} {E : γ → DV}
theorem opens_three {f0 f1 f2 : Field} (ht : P.underlying t = some (.struct #[f0, f1, f2])) (o0 : f0.offset = 0) (o1 : f1.offset = P.cellsOf f0.type) (o2 : f2.offset = P.cellsOf f0.type + P.cellsOf f1.type) (hn : P.cellsOf t = P.cellsOf f0.type + P.cellsOf f1.type + P.cellsOf f2.type)
    (h0 : Opens enc P W f0.type F) (h1 : Opens enc P W f1.type G) (h2 : Opens enc P W f2.type E) : Opens enc P W t (fun p : α × β × γ => .agg ((F p.1).cells ++ ((G p.2.1).cells ++ (E p.2.2).cells))) := by
  intro fuel cs x h
  obtain ⟨y0, y1, y2, n, _, hl, r0, r1, r2⟩ := Go.Deep.trod_struct3 ht h
  obtain ⟨a, a1, a2⟩ := h0 _ _ _ r0
  obtain ⟨b, b1, b2⟩ := h1 _ _ _ r1
  obtain ⟨e, e1, e2⟩ := h2 _ _ _ r2
  rw [o0, List.drop_zero, List.length_take] at a1
  rw [o1, List.length_take, List.length_drop] at b1
  rw [o2, List.length_take, List.length_drop] at e1
  have ha : (F a).cells.length = P.cellsOf f0.type := by omega
  have hb : (G b).cells.length = P.cellsOf f1.type := by omega
  refine ⟨(a, b, e), by show cs.length = ((F a).cells ++ ((G b).cells ++ (E e).cells)).length; rw [List.length_append, List.length_append]; omega, fun j c hj => ?_⟩
  replace hj : ((F a).cells ++ ((G b).cells ++ (E e).cells))[j]? = some c := hj
  rcases Nat.lt_or_ge j (F a).cells.length with hlt | hge
  · rw [List.getElem?_append_left hlt] at hj
    obtain ⟨u, u1, u2⟩ := a2 j c hj
    rw [o0, List.drop_zero, List.getElem?_take] at u1
    split at u1
    · exact ⟨u, u1, u2⟩
    · cases u1
  · rw [List.getElem?_append_right hge] at hj
    rcases Nat.lt_or_ge (j - (F a).cells.length) (G b).cells.length with hlt2 | hge2
    · rw [List.getElem?_append_left hlt2] at hj
      obtain ⟨u, u1, u2⟩ := b2 _ c hj
      rw [o1, List.getElem?_take] at u1
      split at u1
      · rw [List.getElem?_drop] at u1
        exact ⟨u, by rw [← u1]; congr 1; omega, u2⟩
      · cases u1
    · rw [List.getElem?_append_right hge2] at hj
      obtain ⟨u, u1, u2⟩ := e2 _ c hj
      rw [o2, List.getElem?_take] at u1
      split at u1
      · rw [List.getElem?_drop] at u1
        exact ⟨u, by rw [← u1]; congr 1; omega, u2⟩
      · cases u1
end Go.Ab
