/- The dry laws in plain data: orders of steps, lists that lead back. -/
import Derived.Test.YtjlfgobbieljoaaDryD
import Derived.Test.YtjlfgobbieljoaaDryC
import Derived.Test.YtjlfgobbieljoaaDryL1
set_option linter.all false
namespace Go.Ab.Try
open Go Go.Ab Go.Proofs
structure Sk where
  p : List Int
  m : List Int
  c : List Int
theorem run_idx {y : Yd} : ∀ (l m : List Int) (i j : Nat), (runFrom y m l i).1 = (runFrom y m l j).1 ∧ (runFrom y m l i).2.2 = (runFrom y m l j).2.2
  | [], m, i, j => ⟨rfl, rfl⟩
  | s :: l, m, i, j => by
    simp only [runFrom]
    split
    · exact ⟨rfl, rfl⟩
    · exact run_idx l _ (i + 1) (j + 1)
theorem getD_ext {a b : List Int} {n : Nat} (ha : a.length = n) (hb : b.length = n) (h : ∀ p, p < n → a.getD p 0 = b.getD p 0) : a = b := by
  apply List.ext_getElem (by omega)
  intro i h1 h2
  have := h i (by omega)
  simpa [h1, h2] using this
theorem listedE_of {y : Yd} {l : List Int} (h40 : l.length ≤ 40) (h : ∀ x ∈ l, 0 ≤ x ∧ x < y.steps.length) : listedE y l = 0 := by
  unfold listedE
  rw [if_neg (by omega), if_pos]
  rw [List.all_eq_true]
  intro x hx
  have := h x hx
  simp [within]; omega
theorem runR_of {y : Yd} {m l : List Int} (hv : VYd y) (hm : VM y m) (h40 : l.length ≤ 40) (h : ∀ x ∈ l, 0 ≤ x ∧ x < y.steps.length) : runR y m l = runFrom y m l 0 := by
  unfold runR
  rw [if_neg (by rw [filledE_of hv hm]; simp), if_neg (by rw [listedE_of h40 h]; simp)]
theorem stepAt_turn {y : Yd} {s : Int} (h0 : 0 ≤ s) (h1 : s < y.steps.length) : stepAt (turnY y) s = turnS (stepAt y s) := by
  unfold stepAt turnY
  have : s.toNat < y.steps.length := by omega
  simp [this]
theorem turn_len {y : Yd} : (turnY y).steps.length = y.steps.length := by simp [turnY]
theorem turn_valid {y : Yd} (hv : VYd y) : VYd (turnY y) := by
  have h : validate y = 0 := hv
  show validate (turnY y) = 0
  unfold validate at h ⊢
  have e : (turnY y).places = y.places := rfl
  rw [e, turn_len]
  split at h
  · cases h
  · rename_i h1
    rw [if_neg h1]
    split at h
    · cases h
    · rename_i h2
      rw [if_neg h2]
      split at h
      · rename_i h3
        rw [if_pos]
        rw [List.all_eq_true] at h3 ⊢
        intro s hs
        obtain ⟨t, ht, rfl⟩ := List.mem_map.1 hs
        have := h3 t ht
        simp only [okStp, turnS, Bool.and_eq_true] at this ⊢
        exact ⟨this.2, this.1⟩
      · cases h
theorem after_back {y : Yd} {m : List Int} {s : Int} (hv : VYd y) (hm : VM y m) (h0 : 0 ≤ s) (h1 : s < y.steps.length) (ha : (afterR (stepAt y s) m).2 = 0) : afterR (stepAt (turnY y) s) (afterR (stepAt y s) m).1 = (m, 0) := by
  obtain ⟨a1, a2, a3⟩ := after_vm hv hm h0 h1 ha
  obtain ⟨hf, _⟩ := fits_of hv hm h0 h1
  rw [stepAt_turn h0 h1, a2]
  have ft := hf.take
  have fg := hf.give
  have hc : covers (moved (stepAt y s) m) (turnS (stepAt y s)).take = true := covers_yes fun j j1 j2 => by
    have hj : j < m.length := by simpa using j1
    have t1 : j < (stepAt y s).take.length := by omega
    have g1 : j < (stepAt y s).give.length := by omega
    have := covers_at a3 hj t1
    rw [moved_at hj t1 g1]
    show (stepAt y s).give[j] ≤ _
    omega
  have hb : moved (turnS (stepAt y s)) (moved (stepAt y s) m) = m := by
    refine getD_ext (n := m.length) (by simp) rfl fun p hp => ?_
    rw [moved_getD (by simpa using hp), moved_getD hp]
    unfold dAt turnS
    dsimp only
    omega
  unfold afterR
  rw [if_neg (by simp [hc]), hb, if_pos]
  rw [List.all_eq_true]
  intro x hx
  have := allIn_mem hm x hx
  simp; omega
theorem run_app {y : Yd} : ∀ (l1 l2 m : List Int) (i : Nat), (runFrom y m l1 i).2.2 = 0 → runFrom y m (l1 ++ l2) i = runFrom y (runFrom y m l1 i).1 l2 (i + l1.length)
  | [], l2, m, i, _ => by simp [runFrom]
  | s :: l1, l2, m, i, h => by
    simp only [runFrom, List.cons_append] at h ⊢
    split at h
    · rename_i e; exact absurd h e
    · rename_i e
      rw [if_neg e, if_neg e, run_app l1 l2 _ (i + 1) h]
      rw [List.length_cons, show i + 1 + l1.length = i + (l1.length + 1) by omega]
theorem run_back {y : Yd} (hv : VYd y) : ∀ (l m : List Int), VM y m → (∀ x ∈ l, 0 ≤ x ∧ x < y.steps.length) → (runFrom y m l 0).2.2 = 0 → (runFrom (turnY y) (runFrom y m l 0).1 l.reverse 0).1 = m ∧ (runFrom (turnY y) (runFrom y m l 0).1 l.reverse 0).2.2 = 0
  | [], m, _, _, _ => ⟨rfl, rfl⟩
  | s :: l, m, hm, hl, h => by
    obtain ⟨s0, s1⟩ := hl s (List.mem_cons_self ..)
    simp only [runFrom] at h ⊢
    split at h
    · rename_i e; exact absurd h e
    · rename_i e
      have ha : (afterR (stepAt y s) m).2 = 0 := Classical.not_not.1 e
      obtain ⟨a1, _, _⟩ := after_vm hv hm s0 s1 ha
      rw [if_neg e, List.reverse_cons, (run_idx l _ 1 0).1]
      rw [(run_idx l _ 1 0).2] at h
      obtain ⟨b1, b2⟩ := run_back hv l _ a1 (fun x hx => hl x (List.mem_cons_of_mem _ hx)) h
      rw [run_app _ _ _ _ b2, b1]
      simp only [runFrom]
      rw [after_back hv hm s0 s1 ha]
      exact ⟨rfl, rfl⟩
theorem back_top {y : Yd} {m l : List Int} (h : (runR y m l).2.2 = 0) : (runR (turnY y) (runR y m l).1 l.reverse).2.2 = 0 ∧ (runR (turnY y) (runR y m l).1 l.reverse).1 = m := by
  obtain ⟨hv, hm, h40, hl, h1, h2, e⟩ := runR_ok h
  have h0 : (runFrom y m l 0).2.2 = 0 := by rw [← e]; exact h
  obtain ⟨r1, _⟩ := run_pt hv l m 0 hm hl h0
  have r2 : VM (turnY y) (runFrom y m l 0).1 := r1
  obtain ⟨b1, b2⟩ := run_back hv l m hm hl h0
  rw [e, runR_of (turn_valid hv) r2 (by simpa using h40) (fun x hx => by rw [turn_len]; exact hl x (List.mem_reverse.1 hx))]
  exact ⟨b2, b1⟩
end Go.Ab.Try
