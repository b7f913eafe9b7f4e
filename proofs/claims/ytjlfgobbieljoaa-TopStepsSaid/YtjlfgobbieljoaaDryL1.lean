/- The dry laws in plain data: what a list of steps makes of a filling. -/
import Derived.Test.YtjlfgobbieljoaaDry12
set_option linter.all false
namespace Go.Ab.Try
open Go Go.Ab Go.Proofs
theorem runR_ok {y : Yd} {m l : List Int} (h : (runR y m l).2.2 = 0) : VYd y ∧ VM y m ∧ l.length ≤ 40 ∧ (∀ x ∈ l, 0 ≤ x ∧ x < y.steps.length) ∧ filledE y [m] = 0 ∧ listedE y l = 0 ∧ runR y m l = runFrom y m l 0 := by
  have e : runR y m l = if filledE y [m] ≠ 0 then ([], 0, filledE y [m]) else if listedE y l ≠ 0 then ([], 0, listedE y l) else runFrom y m l 0 := rfl
  by_cases h1 : filledE y [m] = 0
  · rw [if_neg (by simp [h1])] at e
    by_cases h2 : listedE y l = 0
    · rw [if_neg (by simp [h2])] at e
      obtain ⟨hv, hm⟩ := filled_ok h1
      obtain ⟨h3, h4⟩ := listed_ok h2
      exact ⟨hv, hm, h3, h4, h1, h2, e⟩
    · rw [if_pos h2] at e; rw [e] at h; exact absurd h h2
  · rw [if_pos h1] at e; rw [e] at h; exact absurd h h1
theorem moved_getD {s : Stp} {m : List Int} {p : Nat} (h : p < m.length) : (moved s m).getD p 0 = m.getD p 0 + dAt s p := by
  simp [moved, dAt, h]
def sumD (y : Yd) : List Int → Nat → Int
  | [], _ => 0
  | s :: l, p => dAt (stepAt y s) p + sumD y l p
theorem run_pt {y : Yd} (hv : VYd y) : ∀ (l m : List Int) (i : Nat), VM y m → (∀ x ∈ l, 0 ≤ x ∧ x < y.steps.length) → (runFrom y m l i).2.2 = 0 →
    VM y (runFrom y m l i).1 ∧ ∀ p, p < m.length → (runFrom y m l i).1.getD p 0 = m.getD p 0 + sumD y l p
  | [], m, i, hm, _, _ => by simp [runFrom, hm, sumD]
  | s :: l, m, i, hm, hl, h => by
    obtain ⟨s0, s1⟩ := hl s (by simp)
    simp only [runFrom] at h ⊢
    split at h
    · rename_i h1; exact absurd h h1
    · rename_i h1
      rw [if_neg h1]
      obtain ⟨a1, a2, a3⟩ := after_vm hv hm s0 s1 (by simpa using h1)
      obtain ⟨r1, r2⟩ := run_pt hv l _ (i + 1) a1 (fun x hx => hl x (by simp [hx])) h
      refine ⟨r1, fun p hp => ?_⟩
      have e1 := allIn_len hm
      have e2 := allIn_len a1
      rw [r2 p (by omega), a2, moved_getD hp]
      simp only [sumD]
      omega
def effC (y : Yd) (f : Nat → Int) : Nat → Nat → Int
  | 0, _ => 0
  | i + 1, q => effC y f i q + f i * dAt (y.steps.getD i ⟨[], []⟩) q
theorem effAt_effC {y : Yd} {n : Nat} {l : List Int} : ∀ k q : Nat, k ≤ n → effAt y (cntRow n l) k q = effC y (cntAt l) k q
  | 0, q, _ => rfl
  | k + 1, q, h => by
    simp only [effAt, effC]
    rw [effAt_effC k q (by omega)]
    have : (cntRow n l).getD k 0 = cntAt l k := by simp [cntRow, show k < n by omega]
    rw [this]
theorem cntAt_cons (s : Int) (l : List Int) (i : Nat) : cntAt (s :: l) i = (if s = i then 1 else 0) + cntAt l i := by
  unfold cntAt
  rw [List.countP_cons]
  by_cases h : s = i
  · simp [h]; omega
  · simp [h]
theorem effC_cons {y : Yd} {s : Int} {l : List Int} (h0 : 0 ≤ s) : ∀ k q : Nat, effC y (cntAt (s :: l)) k q = effC y (cntAt l) k q + if s < k then dAt (stepAt y s) q else 0
  | 0, q => by simp [effC, show ¬ s < 0 by omega]
  | k + 1, q => by
    simp only [effC]
    rw [effC_cons h0 k q, cntAt_cons]
    by_cases h : s = k
    · subst h
      have : stepAt y (k : Int) = y.steps.getD k ⟨[], []⟩ := by simp [stepAt]
      rw [if_pos rfl, if_neg (by omega), if_pos (by omega), this, Int.add_mul]
      omega
    · rw [if_neg h]
      by_cases h2 : s < k
      · rw [if_pos h2, if_pos (by omega)]; simp only [Int.zero_add]; omega
      · rw [if_neg h2, if_neg (by omega)]; simp
theorem sumD_eff {y : Yd} (q : Nat) : ∀ l : List Int, (∀ x ∈ l, 0 ≤ x ∧ x < y.steps.length) → sumD y l q = effC y (cntAt l) y.steps.length q
  | [], _ => by
    have : ∀ k, effC y (cntAt []) k q = 0 := by
      intro k
      induction k with
      | zero => rfl
      | succ k ih => simp [effC, ih, cntAt]
    rw [this]; rfl
  | s :: l, h => by
    obtain ⟨s0, s1⟩ := h s (by simp)
    rw [effC_cons s0, if_pos s1, ← sumD_eff q l fun x hx => h x (by simp [hx])]
    simp only [sumD]
    omega
theorem cntRow_allIn {n : Nat} {l : List Int} (h : l.length ≤ 40) : allIn (cntRow n l) n 0 40 = true := by
  simp only [allIn, Bool.and_eq_true, decide_eq_true_eq, List.all_eq_true]
  refine ⟨by simp [cntRow], fun x hx => ?_⟩
  simp only [cntRow, List.mem_map, List.mem_range] at hx
  obtain ⟨q, _, rfl⟩ := hx
  have := cntAt_bd l q
  simp [within]
  omega
theorem adds_ok {y : Yd} {m l : List Int} (h : (runR y m l).2.2 = 0) :
    (cntR y l).2 = 0 ∧ (effR y (cntR y l).1).2 = 0 ∧ (effR y (cntR y l).1).1.length = m.length ∧ (runR y m l).1.length = m.length ∧ (runR y m l).2.1 = l.length ∧
    ∀ p, p < m.length → ∃ d, (runR y m l).1[p]? = some (m.getD p 0 + d) ∧ (effR y (cntR y l).1).1[p]? = some d ∧ 0 ≤ m.getD p 0 ∧ 0 ≤ m.getD p 0 + d ∧ m.getD p 0 + d ≤ 50 := by
  obtain ⟨hv, hm, h40, hl, h1, h2, e⟩ := runR_ok h
  have hv' : validate y = 0 := hv
  have ec : cntR y l = (cntRow y.steps.length l, 0) := by simp [cntR, hv', h2]
  have ee : effR y (cntRow y.steps.length l) = (effRow y (cntRow y.steps.length l) y.steps.length 0, 0) := by simp [effR, hv', cntRow_allIn h40]
  have hml := allIn_len hm
  obtain ⟨r1, r2⟩ := run_pt hv l m 0 hm hl (by rw [← e]; exact h)
  have hrl := allIn_len r1
  have hn : ∀ (l m : List Int) (i : Nat), (runFrom y m l i).2.2 = 0 → (runFrom y m l i).2.1 = i + l.length := by
    intro l
    induction l with
    | nil => intro m i _; simp [runFrom]
    | cons s l ih =>
      intro m i h
      simp only [runFrom] at h ⊢
      split at h
      · rename_i h1; exact absurd h h1
      · rename_i h1
        rw [if_neg h1, ih _ _ h]
        simp; omega
  refine ⟨by rw [ec], by rw [ec, ee], by rw [ec, ee, effRow_len]; omega, by rw [e]; omega, by rw [e, hn l m 0 (by rw [← e]; exact h)]; simp, fun p hp => ⟨effAt y (cntRow y.steps.length l) y.steps.length p, ?_, ?_, ?_⟩⟩
  · have h3 := r2 p hp
    have hp2 : p < (runFrom y m l 0).1.length := by omega
    rw [e, List.getElem?_eq_getElem hp2]
    have h4 : (runFrom y m l 0).1.getD p 0 = (runFrom y m l 0).1[p] := by simp [hp2]
    rw [← h4, h3, effAt_effC _ _ (Nat.le_refl _), sumD_eff p l hl]
  · rw [ec, ee]
    have hpp : p < y.places.toNat := by omega
    show (effRow y (cntRow y.steps.length l) y.steps.length 0)[p]? = _
    rw [effRow, range_get hpp]; simp
  · have h3 := r2 p hp
    have hp2 : p < (runFrom y m l 0).1.length := by omega
    have h4 : (runFrom y m l 0).1.getD p 0 = (runFrom y m l 0).1[p] := by simp [hp2]
    have h5 := allIn_mem r1 _ (List.getElem_mem hp2)
    have h6 := allIn_mem hm _ (List.getElem_mem hp)
    have h7 : m.getD p 0 = m[p] := by simp [hp]
    rw [effAt_effC _ _ (Nat.le_refl _), ← sumD_eff p l hl]
    omega
theorem covers_mono {m m' t : List Int} (h : covers m t = true) (hl : m.length = m'.length) (hle : ∀ p, p < m.length → m.getD p 0 ≤ m'.getD p 0) : covers m' t = true := by
  refine covers_yes fun j h1 h2 => ?_
  have h3 : j < m.length := by omega
  have := covers_at h h3 h2
  have h4 := hle j h3
  simp [h3, h1] at h4
  omega
theorem run_more {y : Yd} (hv : VYd y) : ∀ (l m m' : List Int) (i j : Nat), VM y m → VM y m' → (∀ p, p < m.length → m.getD p 0 ≤ m'.getD p 0) → (∀ x ∈ l, 0 ≤ x ∧ x < y.steps.length) → (runFrom y m l i).2.2 = 0 → (runFrom y m' l j).2.2 ≠ 6
  | [], m, m', i, j, _, _, _, _, _ => by simp [runFrom]
  | s :: l, m, m', i, j, hm, hm', hle, hl, h => by
    obtain ⟨s0, s1⟩ := hl s (by simp)
    have e1 := allIn_len hm
    have e2 := allIn_len hm'
    simp only [runFrom] at h ⊢
    split at h
    · rename_i h1; exact absurd h h1
    · rename_i h1
      obtain ⟨a1, a2, a3⟩ := after_vm hv hm s0 s1 (by simpa using h1)
      have hc : covers m' (stepAt y s).take = true := covers_mono a3 (by omega) hle
      have herr : (afterR (stepAt y s) m').2 ≠ 6 := by
        simp only [afterR, hc]
        simp
        split <;> simp
      by_cases h2 : (afterR (stepAt y s) m').2 = 0
      · rw [if_neg (by simp [h2])]
        obtain ⟨b1, b2, b3⟩ := after_vm hv hm' s0 s1 h2
        refine run_more hv l _ _ (i + 1) (j + 1) a1 b1 (fun p hp => ?_) (fun x hx => hl x (by simp [hx])) h
        have e3 := allIn_len a1
        rw [a2, b2, moved_getD (by omega), moved_getD (by omega)]
        have := hle p (by omega)
        omega
      · rw [if_pos h2]; exact herr
def mx (a b : Int) : Int := if b > a then b else a
def moreL (m g : List Int) : List Int := List.zipWith mx m g
theorem moreL_get {m g : List Int} {i : Nat} (h1 : i < m.length) (h2 : i < g.length) : (moreL m g)[i]? = some (mx m[i] g[i]) := by
  simp [moreL, List.getElem?_zipWith, h1, h2]
theorem take_snoc {α : Type} {l : List α} {i : Nat} {v : α} (h : l[i]? = some v) : l.take (i + 1) = l.take i ++ [v] := by
  rw [List.take_add_one, h]; rfl
theorem filledE_not6 (y : Yd) (ls : List (List Int)) : filledE y ls ≠ 6 := by
  unfold filledE
  split
  · unfold validate
    repeat' split
    all_goals decide
  · split <;> decide
theorem listedE_not6 (y : Yd) (l : List Int) : listedE y l ≠ 6 := by
  unfold listedE
  repeat' split
  all_goals decide
theorem more_ok {y : Yd} {m g l : List Int} (h : (runR y m l).2.2 = 0) (hg : g.length = m.length) : (runR y (moreL m g) l).2.2 ≠ 6 := by
  obtain ⟨hv, hm, h40, hl, h1, h2, e⟩ := runR_ok h
  unfold runR
  split
  · exact filledE_not6 _ _
  · rename_i h3
    split
    · exact listedE_not6 _ _
    · obtain ⟨_, hm'⟩ := filled_ok (by simpa using h3 : filledE y [moreL m g] = 0)
      refine run_more hv l m _ 0 0 hm hm' (fun p hp => ?_) hl (by rw [← e]; exact h)
      have hp2 : p < g.length := by omega
      have := moreL_get hp hp2
      have e5 : (moreL m g).getD p 0 = mx m[p] g[p] := by rw [List.getD_eq_getElem?_getD, this]; rfl
      have e6 : m.getD p 0 = m[p] := by simp [hp]
      rw [e5, e6]
      unfold mx
      split <;> omega
theorem sAt_moved {w m : List Int} {s : Stp} : ∀ p, p ≤ m.length → sAt w (moved s m) p = sAt w m p + wAt w s p
  | 0, _ => by simp [sAt, wAt]
  | p + 1, h => by
    simp only [sAt, wAt]
    rw [sAt_moved p (by omega), moved_getD (by omega), Int.mul_add]
    omega
theorem run_keeps {y : Yd} (hv : VYd y) {w : List Int} (hw : (y.steps.all fun s => wAt w s y.places.toNat == 0) = true) : ∀ (l m : List Int) (i : Nat), VM y m → (∀ x ∈ l, 0 ≤ x ∧ x < y.steps.length) → (runFrom y m l i).2.2 = 0 →
    sAt w (runFrom y m l i).1 y.places.toNat = sAt w m y.places.toNat
  | [], m, i, _, _, _ => by simp [runFrom]
  | s :: l, m, i, hm, hl, h => by
    obtain ⟨s0, s1⟩ := hl s (by simp)
    have e1 := allIn_len hm
    simp only [runFrom] at h ⊢
    split at h
    · rename_i h1; exact absurd h h1
    · rename_i h1
      rw [if_neg h1]
      obtain ⟨a1, a2, a3⟩ := after_vm hv hm s0 s1 (by simpa using h1)
      rw [run_keeps hv hw l _ (i + 1) a1 (fun x hx => hl x (by simp [hx])) h, a2, sAt_moved _ (by omega)]
      obtain ⟨_, he⟩ := fits_of hv hm s0 s1
      have := List.all_eq_true.1 hw _ (List.mem_of_getElem? he)
      have : wAt w (stepAt y s) y.places.toNat = 0 := by simpa using this
      omega
theorem invR_ok {y : Yd} {w : List Int} (h : (invR y w).1 = true) : allIn w y.places (-20) 20 = true ∧ (y.steps.all fun s => wAt w s y.places.toNat == 0) = true := by
  unfold invR at h
  split at h
  · cases h
  · split at h
    · rename_i h1; exact ⟨h1, h⟩
    · cases h
theorem filledE_of {y : Yd} {m : List Int} (hv : VYd y) (hm : VM y m) : filledE y [m] = 0 := by
  have hv' : validate y = 0 := hv
  have hm' : allIn m y.places 0 50 = true := hm
  simp [filledE, hv', hm']
theorem keeps_ok {y : Yd} {w m l : List Int} (h1 : (invR y w).1 = true) (h : (runR y m l).2.2 = 0) : (weighR y w m).2 = 0 ∧ (weighR y w (runR y m l).1).2 = 0 ∧ (weighR y w m).1 = (weighR y w (runR y m l).1).1 := by
  obtain ⟨hv, hm, h40, hl, hf, h2, e⟩ := runR_ok h
  obtain ⟨a1, a2⟩ := invR_ok h1
  have h0 : (runFrom y m l 0).2.2 = 0 := by rw [← e]; exact h
  obtain ⟨r1, _⟩ := run_pt hv l m 0 hm hl h0
  have hk := run_keeps hv a2 l m 0 hm hl h0
  have hf2 := filledE_of hv r1
  rw [e]
  simp [weighR, hf, hf2, a1, hk]
end Go.Ab.Try
