/- The dry laws in plain data: siphons stay empty, traps stay marked. -/
import Derived.Test.YtjlfgobbieljoaaDryL1
import Derived.Test.YtjlfgobbieljoaaDry16
set_option linter.all false
namespace Go.Ab.Try
open Go Go.Ab Go.Proofs

def siphR (y : Yd) (set : List Int) : List Int × Int := if placedE y set ≠ 0 then ([], placedE y set) else (great giveS takeS y set, 0)
def trapR (y : Yd) (set : List Int) : List Int × Int := if placedE y set ≠ 0 then ([], placedE y set) else (great takeS giveS y set, 0)
theorem great_good {tc nd : Stp → List Int} {y : Yd} (out : List Int) : srtB tc nd y (great tc nd y out) = true ∧ (great tc nd y out).Sublist out := by
  by_cases h : srtB tc nd y out = true
  · rw [great_yes h]; exact ⟨h, List.Sublist.refl _⟩
  · rw [great_no h]
    have := great_good (tc := tc) (nd := nd) (y := y) (passG tc nd y out)
    exact ⟨this.1, this.2.trans passG_sub⟩
termination_by out.length
decreasing_by exact passG_lt h

/-- The tokens of a filling at a place, if there is such a place. -/
def tokAt (m : List Int) (p : Int) : Int := if 0 ≤ p ∧ p < m.length then sg m p.toNat else 0
def tok (m set : List Int) : Int := (set.map (tokAt m)).sum
theorem sg_bd {m : List Int} {lo hi : Int} (h : ∀ x ∈ m, lo ≤ x ∧ x ≤ hi) {p : Nat} (hp : p < m.length) : lo ≤ sg m p ∧ sg m p ≤ hi := h _ (List.mem_of_getElem? (sg_get hp))
theorem tokAt_bd {m : List Int} (h : ∀ x ∈ m, 0 ≤ x ∧ x ≤ 50) (p : Int) : 0 ≤ tokAt m p ∧ tokAt m p ≤ 50 := by
  unfold tokAt
  split
  · exact sg_bd h (by omega)
  · omega
theorem tok_bd {m : List Int} (h : ∀ x ∈ m, 0 ≤ x ∧ x ≤ 50) : ∀ set : List Int, 0 ≤ tok m set ∧ tok m set ≤ 50 * set.length
  | [] => by simp [tok]
  | p :: l => by
    have h1 := tokAt_bd h p
    have h2 := tok_bd h l
    simp only [tok, List.map_cons, List.sum_cons, List.length_cons] at *
    omega
theorem tok_snoc {m set : List Int} {i : Nat} {p : Int} (h : set[i]? = some p) : tok m (set.take (i + 1)) = tok m (set.take i) + tokAt m p := by
  rw [take_snoc h]; simp [tok]
theorem tok_zero {m : List Int} (h : ∀ x ∈ m, 0 ≤ x ∧ x ≤ 50) : ∀ set : List Int, tok m set = 0 ↔ ∀ p ∈ set, tokAt m p = 0
  | [] => by simp [tok]
  | p :: l => by
    have h1 := tokAt_bd h p
    have h2 := tok_bd h l
    have h3 := tok_zero h l
    simp only [tok, List.map_cons, List.sum_cons, List.mem_cons, forall_eq_or_imp] at *
    constructor
    · intro h4; exact ⟨by omega, h3.1 (by omega)⟩
    · intro h4; have := h3.2 h4.2; omega

theorem vm_bd {y : Yd} {m : List Int} (hm : VM y m) : ∀ x ∈ m, 0 ≤ x ∧ x ≤ 50 := fun x hx => allIn_mem hm x hx
theorem sg_moved {s : Stp} {m : List Int} {p : Nat} (h : p < m.length) : sg (moved s m) p = sg m p + (sg s.give p - sg s.take p) := by
  simp [moved, sg, h]
/-- A step that was taken, at a place. -/
theorem step_at {y : Yd} {m : List Int} {s : Int} (hv : VYd y) (hm : VM y m) (h0 : 0 ≤ s) (h1 : s < y.steps.length) (ha : (afterR (stepAt y s) m).2 = 0) :
    VM y (afterR (stepAt y s) m).1 ∧ stepAt y s ∈ y.steps ∧ ∀ p : Int, 0 ≤ p → p < y.places → tokAt m p = sg m p.toNat ∧ tokAt (afterR (stepAt y s) m).1 p = sg m p.toNat + (sg (stepAt y s).give p.toNat - sg (stepAt y s).take p.toNat) ∧ sg (stepAt y s).take p.toNat ≤ sg m p.toNat ∧ 0 ≤ sg (stepAt y s).give p.toNat ∧ 0 ≤ sg (stepAt y s).take p.toNat := by
  obtain ⟨a1, a2, a3⟩ := after_vm hv hm h0 h1 ha
  obtain ⟨hf, he⟩ := fits_of hv hm h0 h1
  have hmem := List.mem_of_getElem? he
  refine ⟨a1, hmem, fun p p0 p1 => ?_⟩
  obtain ⟨v1, v2, v3, v4⟩ := validate_ok hv
  have hs := v4 _ hmem
  simp only [okStp, Bool.and_eq_true] at hs
  have e1 := allIn_len hm
  have e2 := allIn_len hs.1
  have e3 := allIn_len hs.2
  have hp : p.toNat < m.length := by omega
  have ht : p.toNat < (stepAt y s).take.length := by omega
  have hg : p.toNat < (stepAt y s).give.length := by omega
  have c1 := covers_at a3 hp ht
  have b1 := sg_bd (fun x hx => allIn_mem hs.1 x hx) ht
  have b2 := sg_bd (fun x hx => allIn_mem hs.2 x hx) hg
  refine ⟨by unfold tokAt; rw [if_pos (by omega)], ?_, ?_, b2.1, b1.1⟩
  · rw [a2]; unfold tokAt; rw [if_pos (by rw [moved_len]; omega), sg_moved hp]
  · simpa [sg, hp, ht] using c1
theorem srt_at {tc nd : Stp → List Int} {y : Yd} {S : List Int} (h : srtB tc nd y S = true) {s : Stp} (hs : s ∈ y.steps) : meets (tc s) S = true → meets (nd s) S = true := by
  intro h1
  unfold srtB at h
  simp only [Bool.not_eq_true', List.any_eq_false] at h
  have := h s hs
  simp only [h1, Bool.true_and, Bool.not_eq_true', Bool.not_eq_false] at this
  simpa using this
theorem meets_iff {l S : List Int} : meets l S = true ↔ ∃ p ∈ S, 0 < sg l p.toNat := by simp [meets]

theorem run_siph {y : Yd} (hv : VYd y) {S : List Int} (hS : ∀ p ∈ S, 0 ≤ p ∧ p < y.places) (hs : srtB giveS takeS y S = true) : ∀ (l m : List Int) (i : Nat), VM y m → (∀ x ∈ l, 0 ≤ x ∧ x < y.steps.length) → (runFrom y m l i).2.2 = 0 → tok m S = 0 → tok (runFrom y m l i).1 S = 0
  | [], m, i, hm, _, _, hz => hz
  | s :: l, m, i, hm, hl, h, hz => by
    obtain ⟨s0, s1⟩ := hl s (by simp)
    simp only [runFrom] at h ⊢
    split at h
    · rename_i h1; exact absurd h h1
    · rename_i h1
      rw [if_neg h1]
      obtain ⟨a1, a2, a3⟩ := step_at hv hm s0 s1 (by simpa using h1)
      refine run_siph hv hS hs l _ (i + 1) a1 (fun x hx => hl x (by simp [hx])) h ?_
      rw [tok_zero (vm_bd hm)] at hz
      rw [tok_zero (vm_bd a1)]
      intro p hp
      obtain ⟨q1, q2, q3, q4, q5⟩ := a3 p (hS p hp).1 (hS p hp).2
      have hz' := hz p hp
      have hn : ¬ meets (giveS (stepAt y s)) S = true := fun hmg => by
        obtain ⟨q, hq, hq'⟩ := meets_iff.1 (srt_at hs a2 hmg)
        obtain ⟨r1, r2, r3, r4, r5⟩ := a3 q (hS q hq).1 (hS q hq).2
        have := hz q hq
        simp only [takeS] at hq'
        omega
      have : ¬ 0 < sg (stepAt y s).give p.toNat := fun h => hn (meets_iff.2 ⟨p, hp, h⟩)
      omega

theorem tok_pos {m : List Int} (h : ∀ x ∈ m, 0 ≤ x ∧ x ≤ 50) {S : List Int} : 0 < tok m S ↔ ∃ p ∈ S, 0 < tokAt m p := by
  have h1 := tok_zero h S
  have h2 := (tok_bd h S).1
  constructor
  · intro h3
    apply Classical.byContradiction
    intro h4
    have : tok m S = 0 := h1.2 fun p hp => by
      have := (tokAt_bd h p).1
      have : ¬ 0 < tokAt m p := fun hh => h4 ⟨p, hp, hh⟩
      omega
    omega
  · rintro ⟨p, hp, h3⟩
    have : tok m S ≠ 0 := fun h4 => by have := h1.1 h4 p hp; omega
    omega

theorem run_trap {y : Yd} (hv : VYd y) {S : List Int} (hS : ∀ p ∈ S, 0 ≤ p ∧ p < y.places) (hs : srtB takeS giveS y S = true) : ∀ (l m : List Int) (i : Nat), VM y m → (∀ x ∈ l, 0 ≤ x ∧ x < y.steps.length) → (runFrom y m l i).2.2 = 0 → 0 < tok m S → 0 < tok (runFrom y m l i).1 S
  | [], m, i, hm, _, _, hz => hz
  | s :: l, m, i, hm, hl, h, hz => by
    obtain ⟨s0, s1⟩ := hl s (by simp)
    simp only [runFrom] at h ⊢
    split at h
    · rename_i h1; exact absurd h h1
    · rename_i h1
      rw [if_neg h1]
      obtain ⟨a1, a2, a3⟩ := step_at hv hm s0 s1 (by simpa using h1)
      refine run_trap hv hS hs l _ (i + 1) a1 (fun x hx => hl x (by simp [hx])) h ?_
      rw [tok_pos (vm_bd hm)] at hz
      rw [tok_pos (vm_bd a1)]
      obtain ⟨p, hp, hz⟩ := hz
      obtain ⟨q1, q2, q3, q4, q5⟩ := a3 p (hS p hp).1 (hS p hp).2
      by_cases hm' : meets (takeS (stepAt y s)) S = true
      · obtain ⟨q, hq, hq'⟩ := meets_iff.1 (srt_at hs a2 hm')
        obtain ⟨r1, r2, r3, r4, r5⟩ := a3 q (hS q hq).1 (hS q hq).2
        simp only [giveS] at hq'
        exact ⟨q, hq, by omega⟩
      · have : ¬ 0 < sg (stepAt y s).take p.toNat := fun h => hm' (meets_iff.2 ⟨p, hp, h⟩)
        exact ⟨p, hp, by omega⟩

/-- What the law asks. -/
theorem stays_ok {y : Yd} {m l g : List Int} (h : (runR y m l).2.2 = 0) :
    (∀ x ∈ m, 0 ≤ x ∧ x ≤ 50) ∧ (∀ x ∈ (runR y m l).1, 0 ≤ x ∧ x ≤ 50) ∧ (siphR y g).1.length ≤ 6 ∧ (trapR y g).1.length ≤ 6 ∧
    ((siphR y g).2 = 0 → tok m (siphR y g).1 = 0 → tok (runR y m l).1 (siphR y g).1 = 0) ∧
    ((trapR y g).2 = 0 → tok m (trapR y g).1 ≠ 0 → 0 < tok (runR y m l).1 (trapR y g).1) := by
  obtain ⟨hv, hm, h40, hl, _, _, e⟩ := runR_ok h
  have e' : (runFrom y m l 0).2.2 = 0 := by rw [← e]; exact h
  have hvm := (runFrom_vm hv l m 0 hm hl).1 e'
  have hr : ∀ {tc nd : Stp → List Int}, placedE y g = 0 → (great tc nd y g).length ≤ 6 ∧ ∀ p ∈ great tc nd y g, 0 ≤ p ∧ p < y.places := fun {tc nd} hp => by
    obtain ⟨_, ho⟩ := placed_ok hp
    obtain ⟨v1, v2, v3, v4⟩ := validate_ok hv
    have := okSet_len (by omega) ho
    have hsub := (great_good (tc := tc) (nd := nd) (y := y) g).2
    have := hsub.length_le
    exact ⟨by omega, fun p hp => okSet_in ho p (hsub.subset hp)⟩
  rw [e]
  refine ⟨vm_bd hm, vm_bd hvm, ?_, ?_, ?_, ?_⟩
  · unfold siphR
    split
    · simp
    · rename_i hp; exact (hr (by simpa using hp)).1
  · unfold trapR
    split
    · simp
    · rename_i hp; exact (hr (by simpa using hp)).1
  · unfold siphR
    split
    · rename_i hp; intro h1; exact absurd h1 hp
    · rename_i hp
      intro _ h2
      exact run_siph hv (hr (by simpa using hp)).2 (great_good g).1 l m 0 hm hl e' h2
  · unfold trapR
    split
    · rename_i hp; intro h1; exact absurd h1 hp
    · rename_i hp
      intro _ h2
      refine run_trap hv (hr (by simpa using hp)).2 (great_good g).1 l m 0 hm hl e' ?_
      have := (tok_bd (vm_bd hm) (great takeS giveS y g)).1
      simp only at h2
      omega
end Go.Ab.Try
