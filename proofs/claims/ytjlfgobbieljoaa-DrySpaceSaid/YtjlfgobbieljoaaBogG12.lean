/- DryS1, DryS2, DryS3. -/
import Derived.Test.YtjlfgobbieljoaaBogG11
set_option linter.all false
set_option linter.all false
namespace Go.Ab.Rank
open Go.Ab.Heap
theorem sm_skp {f : Nat → Int} {c : Nat} : ∀ {n : Nat}, c < n + 1 → sm f (n + 1) = f c + sm (fun j => f (skp c j)) n
  | 0, h => by
    have : c = 0 := by omega
    subst this; simp [sm]
  | n + 1, h => by
    by_cases e : c = n + 1
    · subst e
      have : sm (fun j => f (skp (n + 1) j)) (n + 1) = sm f (n + 1) := sm_congr fun j hj => by unfold skp; rw [if_pos hj]
      rw [this]; simp only [sm]; omega
    · have ih := sm_skp (f := f) (c := c) (n := n) (by omega)
      have e2 : f (skp c n) = f (n + 1) := by unfold skp; rw [if_neg (by omega)]
      have a1 : sm f (n + 1 + 1) = sm f (n + 1) + f (n + 1) := rfl
      have a2 : sm (fun j => f (skp c j)) (n + 1) = sm (fun j => f (skp c j)) n + f (skp c n) := rfl
      rw [a1, a2, ih, e2]; omega
def ext (c : Nat) (x : Int) (y : Nat → Int) (q : Nat) : Int := if q = c then x else y (if q < c then q else q - 1)
theorem ext_at {c : Nat} {x : Int} {y : Nat → Int} : ext c x y c = x := by simp [ext]
theorem ext_skp {c j : Nat} {x : Int} {y : Nat → Int} : ext c x y (skp c j) = y j := by
  unfold ext
  rw [if_neg skp_ne]
  unfold skp
  by_cases h : j < c
  · rw [if_pos h, if_pos h]
  · rw [if_neg h, if_neg (by omega)]; rfl
theorem ker : ∀ (r : Nat) (M : Mat), ∃ y : Nat → Int, (∃ c, c < r + 1 ∧ y c ≠ 0) ∧ ∀ i, i < r → sm (fun c => y c * M i c) (r + 1) = 0
  | 0, M => ⟨fun _ => 1, ⟨0, by omega, by decide⟩, fun i hi => by omega⟩
  | r + 1, M => by
    by_cases h : ∃ c, c < r + 2 ∧ M r c ≠ 0
    · obtain ⟨c0, hc0, hne⟩ := h
      obtain ⟨y, ⟨c, hc, hy⟩, hk⟩ := ker r fun i j => M r c0 * M i (skp c0 j) - M r (skp c0 j) * M i c0
      have row : ∀ i, sm (fun c => ext c0 (- sm (fun j => M r (skp c0 j) * y j) (r + 1)) (fun j => M r c0 * y j) c * M i c) (r + 2) = sm (fun j => y j * (M r c0 * M i (skp c0 j) - M r (skp c0 j) * M i c0)) (r + 1) := fun i => by
        rw [sm_skp (c := c0) hc0, ext_at]
        have e1 : sm (fun j => ext c0 (- sm (fun j => M r (skp c0 j) * y j) (r + 1)) (fun j => M r c0 * y j) (skp c0 j) * M i (skp c0 j)) (r + 1) = sm (fun j => M r c0 * y j * M i (skp c0 j)) (r + 1) := sm_congr fun j _ => by rw [ext_skp]
        rw [e1]
        have e2 : - sm (fun j => M r (skp c0 j) * y j) (r + 1) * M i c0 = sm (fun j => - M i c0 * (M r (skp c0 j) * y j)) (r + 1) := by
          rw [sm_mul, Int.neg_mul, Int.neg_mul, Int.mul_comm]
        rw [e2, ← sm_add]
        refine sm_congr fun j _ => ?_
        grind
      refine ⟨ext c0 (- sm (fun j => M r (skp c0 j) * y j) (r + 1)) (fun j => M r c0 * y j), ⟨skp c0 c, skp_lt hc, ?_⟩, fun i hi => ?_⟩
      · rw [ext_skp]; exact Int.mul_ne_zero hne hy
      · rw [row]
        by_cases e : i = r
        · subst e
          rw [sm_congr (g := fun _ => 0) fun j _ => by grind, sm_zero]
        · exact hk i (by omega)
    · obtain ⟨y, ⟨c, hc, hy⟩, hk⟩ := ker r M
      refine ⟨fun q => if q < r + 1 then y q else 0, ⟨c, by omega, by dsimp only; rw [if_pos hc]; exact hy⟩, fun i hi => ?_⟩
      have e0 : sm (fun c => (if c < r + 1 then y c else 0) * M i c) (r + 1 + 1) = sm (fun c => y c * M i c) (r + 1) := by
        have a1 : sm (fun c => (if c < r + 1 then y c else 0) * M i c) (r + 1 + 1) = sm (fun c => (if c < r + 1 then y c else 0) * M i c) (r + 1) + (if r + 1 < r + 1 then y (r + 1) else 0) * M i (r + 1) := rfl
        rw [a1, if_neg (by omega), Int.zero_mul, Int.add_zero]
        exact sm_congr fun q hq => by rw [if_pos hq]
      rw [e0]
      by_cases e : i = r
      · subst e
        rw [sm_congr (g := fun _ => 0) fun j hj => by
          have : M i j = 0 := Classical.byContradiction fun hh => h ⟨j, by omega, hh⟩
          rw [this, Int.mul_zero], sm_zero]
      · exact hk i (by omega)
theorem ker_more {r k : Nat} (h : r < k) (M : Mat) : ∃ y : Nat → Int, (∃ c, c < k ∧ y c ≠ 0) ∧ ∀ i, i < r → sm (fun c => y c * M i c) k = 0 := by
  obtain ⟨y, ⟨c, hc, hy⟩, hk⟩ := ker r M
  refine ⟨fun q => if q < r + 1 then y q else 0, ⟨c, by omega, by dsimp only; rw [if_pos hc]; exact hy⟩, fun i hi => ?_⟩
  have : ∀ d, sm (fun c => (if c < r + 1 then y c else 0) * M i c) (r + 1 + d) = 0 := by
    intro d
    induction d with
    | zero =>
      rw [← hk i hi]
      exact sm_congr fun q hq => by rw [if_pos (by omega)]
    | succ d ih =>
      have a1 : sm (fun c => (if c < r + 1 then y c else 0) * M i c) (r + 1 + (d + 1)) = sm (fun c => (if c < r + 1 then y c else 0) * M i c) (r + 1 + d) + (if r + 1 + d < r + 1 then y (r + 1 + d) else 0) * M i (r + 1 + d) := rfl
      rw [a1, ih, if_neg (by omega), Int.zero_mul]; rfl
  have e := this (k - (r + 1))
  rwa [show r + 1 + (k - (r + 1)) = k by omega] at e
theorem det_ker {n : Nat} {M : Mat} {y : Nat → Int} {c : Nat} (hc : c < n) (hy : y c ≠ 0) (h : ∀ i, i < n → sm (fun j => y j * M i j) n = 0) : det n M = 0 := by
  have h1 := det_mix (n := n) (M := M) hc y
  have h2 : det n (colS M c fun i => sm (fun j => y j * M i j) n) = det n (colS M c fun _ => 0) := det_congr fun i j hi hj => by
    unfold colS
    split
    · exact h i hi
    · rfl
  rw [h2, det_col0 hc] at h1
  rcases Int.mul_eq_zero.1 h1.symm with h3 | h3
  · exact absurd h3 hy
  · exact h3
theorem ker_det : ∀ (n : Nat) (M : Mat), det n M = 0 → ∃ y : Nat → Int, (∃ c, c < n ∧ y c ≠ 0) ∧ ∀ i, i < n → sm (fun j => y j * M i j) n = 0
  | 0, M, h => by simp [det] at h
  | n + 1, M, h => by
    -- where the first number is not zero
    have main : ∀ M : Mat, M 0 0 ≠ 0 → det (n + 1) M = 0 → ∃ y : Nat → Int, (∃ c, c < n + 1 ∧ y c ≠ 0) ∧ ∀ i, i < n + 1 → sm (fun j => y j * M i j) (n + 1) = 0 := by
      intro M h0 hd
      have h1 := chio n M
      rw [hd, Int.mul_zero] at h1
      have h2 : det n (elim M) = 0 := by
        rcases Int.mul_eq_zero.1 h1.symm with h3 | h3
        · exact absurd h3 h0
        · exact h3
      obtain ⟨y, ⟨c, hc, hy⟩, hk⟩ := ker_det n (elim M) h2
      refine ⟨fun q => match q with | 0 => - sm (fun j => M 0 (j + 1) * y j) n | q + 1 => M 0 0 * y q, ⟨c + 1, by omega, Int.mul_ne_zero h0 hy⟩, fun i hi => ?_⟩
      rw [sm_head]
      dsimp only
      have e2 : - sm (fun j => M 0 (j + 1) * y j) n * M i 0 = sm (fun j => - M i 0 * (M 0 (j + 1) * y j)) n := by
        rw [sm_mul, Int.neg_mul, Int.neg_mul, Int.mul_comm]
      rw [e2, ← sm_add]
      cases i with
      | zero => rw [sm_congr (g := fun _ => 0) fun j _ => by grind, sm_zero]
      | succ i =>
        rw [← hk i (by omega)]
        refine sm_congr fun j _ => ?_
        simp only [elim]
        grind
    by_cases h0 : M 0 0 = 0
    · by_cases h1 : ∃ c, c < n + 1 ∧ M 0 c ≠ 0
      · obtain ⟨c, hc, hne⟩ := h1
        have hc0 : c ≠ 0 := fun e => hne (e ▸ h0)
        have hd : det (n + 1) (colS M 0 fun i => 1 * M i 0 + 1 * M i c) = 0 := by
          rw [det_lin (by omega), colS_self, h]
          have : det (n + 1) (colS M 0 fun i => M i c) = 0 := det_two (p := 0) (q := c) (by omega) hc (Ne.symm hc0) fun i _ => by simp [colS, hc0]
          rw [this]; rfl
        obtain ⟨y, ⟨c1, hc1, hy⟩, hk⟩ := main (colS M 0 fun i => 1 * M i 0 + 1 * M i c) (by simp [colS, h0, hne]) hd
        refine ⟨fun q => if q = c then y c + y 0 else y q, ?_, fun i hi => ?_⟩
        · by_cases e : y 0 = 0
          · by_cases e2 : c1 = c
            · subst e2; exact ⟨c1, hc, by dsimp only; rw [if_pos rfl, e, Int.add_zero]; exact hy⟩
            · exact ⟨c1, hc1, by dsimp only; rw [if_neg e2]; exact hy⟩
          · exact ⟨0, by omega, by dsimp only; rw [if_neg (Ne.symm hc0)]; exact e⟩
        · rw [← hk i hi, sm_skp (c := c) hc, sm_skp (f := fun j => y j * colS M 0 (fun i => 1 * M i 0 + 1 * M i c) i j) (c := c) hc]
          dsimp only
          rw [if_pos rfl]
          have e1 : colS M 0 (fun i => 1 * M i 0 + 1 * M i c) i c = M i c := by simp [colS, hc0]
          rw [e1]
          cases n with
          | zero => omega
          | succ n =>
            rw [sm_head (f := fun j => (if skp c j = c then y c + y 0 else y (skp c j)) * M i (skp c j)), sm_head (f := fun j => y (skp c j) * colS M 0 (fun i => 1 * M i 0 + 1 * M i c) i (skp c j))]
            have s0 : skp c 0 = 0 := by unfold skp; rw [if_pos (by omega)]
            have e3 : sm (fun j => (if skp c (j + 1) = c then y c + y 0 else y (skp c (j + 1))) * M i (skp c (j + 1))) n = sm (fun j => y (skp c (j + 1)) * colS M 0 (fun i => 1 * M i 0 + 1 * M i c) i (skp c (j + 1))) n := sm_congr fun j _ => by
              have : skp c (j + 1) ≠ 0 := by unfold skp; split <;> omega
              rw [if_neg skp_ne]; simp [colS, this]
            rw [e3]
            rw [s0, if_neg (Ne.symm hc0)]
            simp only [colS, if_true]
            grind
      · obtain ⟨y, hy, hk⟩ := ker n fun i j => M (i + 1) j
        refine ⟨y, hy, fun i hi => ?_⟩
        cases i with
        | zero => rw [sm_congr (g := fun _ => 0) fun j hj => by
            have : M 0 j = 0 := Classical.byContradiction fun hh => h1 ⟨j, hj, hh⟩
            rw [this, Int.mul_zero], sm_zero]
        | succ i => exact hk i (by omega)
    · exact main M h0 h
theorem det_last : ∀ (n : Nat) (M : Mat), (∀ i, i < n → M i n = 0) → det (n + 1) M = M n n * det n M
  | 0, M, _ => by simp [det, sm, sgn, mnr]
  | n + 1, M, h => by
    have e0 : det (n + 1 + 1) M = sm (fun k => sgn k * M 0 k * det (n + 1) (mnr M k)) (n + 1) + sgn (n + 1) * M 0 (n + 1) * det (n + 1) (mnr M (n + 1)) := rfl
    rw [e0, h 0 (by omega), Int.mul_zero, Int.zero_mul, Int.add_zero]
    have e1 : det (n + 1) M = sm (fun k => sgn k * M 0 k * det n (mnr M k)) (n + 1) := rfl
    rw [e1, ← sm_mul]
    refine sm_congr fun k hk => ?_
    have s1 : skp k n = n + 1 := by unfold skp; rw [if_neg (by omega)]
    have := det_last n (mnr M k) fun i hi => by
      show M (i + 1) (skp k n) = 0
      rw [s1]; exact h (i + 1) (by omega)
    rw [this]
    show _ * _ * (M (n + 1) (skp k n) * _) = _
    rw [s1]
    grind
def gl (w : Nat → Int) : Nat → Nat
  | 0 => 0
  | k + 1 => Nat.gcd (gl w k) (w k).natAbs
theorem gl_dvd {w : Nat → Int} : ∀ {k l : Nat}, l < k → gl w k ∣ (w l).natAbs
  | 0, l, h => by omega
  | k + 1, l, h => by
    by_cases e : l = k
    · subst e; exact Nat.gcd_dvd_right _ _
    · exact Nat.dvd_trans (Nat.gcd_dvd_left _ _) (gl_dvd (by omega))
theorem gl_mul {w : Nat → Int} {x m : Nat} : ∀ {k : Nat}, (∀ l, l < k → x ∣ (w l).natAbs * m) → x ∣ gl w k * m
  | 0, _ => by simp [gl]
  | k + 1, h => by
    have h1 := gl_mul (k := k) fun l hl => h l (by omega)
    have h2 := h k (by omega)
    rw [gl, ← Nat.gcd_mul_right]
    exact Nat.dvd_gcd h1 h2
theorem gl_zero {w : Nat → Int} : ∀ {k : Nat}, gl w k = 0 → ∀ l, l < k → w l = 0
  | 0, _, l, h => by omega
  | k + 1, h, l, hl => by
    rw [gl, Nat.gcd_eq_zero_iff] at h
    by_cases e : l = k
    · subst e; omega
    · exact gl_zero h.1 l (by omega)
theorem gl_scale {w : Nat → Int} {g : Nat} : ∀ {k : Nat}, gl (fun l => (g : Int) * w l) k = g * gl w k
  | 0 => rfl
  | k + 1 => by
    rw [gl, gl, gl_scale (k := k), Int.natAbs_mul, Int.natAbs_natCast, Nat.gcd_mul_left]
theorem gl_congr {w v : Nat → Int} : ∀ {k : Nat}, (∀ l, l < k → w l = v l) → gl w k = gl v k
  | 0, _ => rfl
  | k + 1, h => by rw [gl, gl, gl_congr fun l hl => h l (by omega), h k (by omega)]
def nrm (w : Nat → Int) (P : Nat) (c : Nat) : Int := (w c).tdiv (max 1 (gl w P : Int))
theorem nrm_mul {w : Nat → Int} {P c : Nat} (hc : c < P) : (max 1 (gl w P : Int)) * nrm w P c = w c := by
  unfold nrm
  refine Int.mul_tdiv_cancel' ?_
  rcases Nat.eq_zero_or_pos (gl w P) with h | h
  · rw [h, show max 1 ((0 : Nat) : Int) = 1 by decide]; exact Int.one_dvd _
  · rw [show max 1 (gl w P : Int) = (gl w P : Int) by omega]
    exact Int.ofNat_dvd_left.2 (gl_dvd hc)
theorem nrm_prim {w : Nat → Int} {P : Nat} : (∀ c, c < P → nrm w P c = 0) ∨ gl (nrm w P) P = 1 := by
  rcases Nat.eq_zero_or_pos (gl w P) with h | h
  · refine .inl fun c hc => ?_
    unfold nrm
    rw [gl_zero h c hc]; simp
  · refine .inr ?_
    have h1 : gl (fun l => (gl w P : Int) * nrm w P l) P = gl w P := gl_congr fun l hl => by
      have := nrm_mul (w := w) hl
      rw [show max 1 (gl w P : Int) = (gl w P : Int) by omega] at this
      exact this
    rw [gl_scale] at h1
    have : gl w P * gl (nrm w P) P = gl w P * 1 := by omega
    exact Nat.eq_of_mul_eq_mul_left h this
theorem prim_le {w D : Nat → Int} {P : Nat} (hp : gl w P = 1) (h : ∀ k l, k < P → l < P → D k * w l = D l * w k) {c : Nat} (hc : c < P) : w c ∣ D c := by
  have h1 : (w c).natAbs ∣ gl w P * (D c).natAbs := gl_mul fun l hl => by
    have := h c l hc hl
    rw [← Int.natAbs_mul, Int.mul_comm (w l), this, Int.natAbs_mul]
    exact Nat.dvd_mul_left _ _
  rw [hp, Nat.one_mul] at h1
  exact Int.natAbs_dvd_natAbs.1 h1
end Go.Ab.Rank
set_option linter.all false
namespace Go.Ab.Rank
open Go.Ab.Heap
structure EInv (n P : Nat) (R W : Mat) (r p : Nat) (s q : Nat → Nat) : Prop where
  rn : r ≤ n
  pP : p ≤ P
  sn : ∀ i, i < n → s i < n
  sj : ∀ i j, i < n → j < n → s i = s j → i = j
  qp : ∀ i, i < r → q i < p
  qm : ∀ i j, i < j → j < r → q i < q j
  low : ∀ i c, r ≤ i → i < n → c < p → W i c = 0
  tri : ∀ i j, j < i → i < r → W i (q j) = 0
  piv : ∀ i, i < r → W i (q i) ≠ 0
  rel : ∀ i, i < n → ∃ (d e : Int) (a : Nat → Int), d ≠ 0 ∧ e ≠ 0 ∧ ∀ c, c < P → d * W i c = sm (fun j => a j * R (s j) c) (min i r) + e * R (s i) c
  ker : ∀ y : Nat → Int, (∀ i, i < n → sm (fun c => y c * W i c) P = 0) → ∀ t, t < n → sm (fun c => y c * R t c) P = 0
  dlt : ∀ j, j ≤ r → det j (fun c i => R (s i) (q c)) ≠ 0
  prm : (r = 0 ∧ ∀ i, i < n → W i = R (s i)) ∨ (0 < r ∧ ∀ i, r ≤ i → i < n → (∀ c, c < P → W i c = 0) ∨ gl (W i) P = 1)
section
variable {n P : Nat} {R W : Mat} {r p : Nat} {s q : Nat → Nat}
theorem EInv.start (n P : Nat) (R : Mat) : EInv n P R R 0 0 (fun i => i) (fun _ => 0) where
  rn := Nat.zero_le _
  pP := Nat.zero_le _
  sn := fun _ h => h
  sj := fun _ _ _ _ h => h
  qp := fun i h => by omega
  qm := fun i j _ h => by omega
  low := fun i c _ _ h => by omega
  tri := fun i j _ h => by omega
  piv := fun i h => by omega
  rel := fun i _ => ⟨1, 1, fun _ => 0, by decide, by decide, fun c _ => by rw [Nat.min_zero]; simp [sm]⟩
  ker := fun y h => h
  dlt := fun j h => by
    have : j = 0 := by omega
    subst this; simp [det]
  prm := .inl ⟨rfl, fun _ _ => rfl⟩
def mi (R : Mat) (r : Nat) (s q : Nat → Nat) (i c : Nat) : Mat := fun j k => R (if k < r then s k else s i) (if j < r then q j else c)
theorem EInv.cram (I : EInv n P R W r p s q) {i : Nat} (h1 : r ≤ i) (h2 : i < n) : ∃ d e : Int, d ≠ 0 ∧ e ≠ 0 ∧ ∀ c, c < P → e * det (r + 1) (mi R r s q i c) = d * W i c * det r (fun c i => R (s i) (q c)) := by
  obtain ⟨d, e, a, hd, he, hr⟩ := I.rel i h2
  rw [Nat.min_eq_right h1] at hr
  refine ⟨d, e, hd, he, fun c hc => ?_⟩
  have hcol : ∀ j, j < r + 1 → (if j < r then q j else c) < P := fun j hj => by
    split
    · rename_i h; have := I.qp j h; have := I.pP; omega
    · exact hc
  have hcr := cramer (n := r + 1) (M := mi R r s q i c) (c := r) (by omega) (s := fun k => if k < r then a k else e) (v := fun j => d * W i (if j < r then q j else c)) fun j hj => by
    have h3 := hr _ (hcol j hj)
    rw [h3]
    have e0 : sm (fun k => (if k < r then a k else e) * mi R r s q i c j k) (r + 1) = sm (fun k => (if k < r then a k else e) * mi R r s q i c j k) r + (if r < r then a r else e) * mi R r s q i c j r := rfl
    rw [e0, if_neg (by omega)]
    have e1 : mi R r s q i c j r = R (s i) (if j < r then q j else c) := by unfold mi; rw [if_neg (show ¬ r < r by omega)]
    rw [e1]
    congr 1
    refine sm_congr fun k hk => ?_
    unfold mi
    rw [if_pos hk, if_pos hk]
  rw [if_neg (by omega)] at hcr
  rw [← hcr, det_last r _ fun k hk => by
    unfold colS
    rw [if_pos rfl]
    try dsimp only
    rw [if_pos hk, I.low i (q k) h1 h2 (I.qp k hk), Int.mul_zero]]
  have e2 : colS (mi R r s q i c) r (fun j => d * W i (if j < r then q j else c)) r r = d * W i c := by
    unfold colS
    rw [if_pos rfl]
    try dsimp only
    rw [if_neg (by omega)]
  rw [e2]
  congr 1
  refine det_congr fun j k hj hk => ?_
  unfold colS mi
  rw [if_neg (by omega), if_pos hk, if_pos hj]
theorem dbd3 {k : Nat} (h : k ≤ 6) : dbd 3 k ≤ 524880 := by
  have : k = 0 ∨ k = 1 ∨ k = 2 ∨ k = 3 ∨ k = 4 ∨ k = 5 ∨ k = 6 := by omega
  rcases this with rfl | rfl | rfl | rfl | rfl | rfl | rfl <;> simp [dbd]
theorem EInv.bd (I : EInv n P R W r p s q) (hn : n ≤ 6) (hR : ∀ t c, t < n → c < P → -3 ≤ R t c ∧ R t c ≤ 3) {i c : Nat} (h1 : r ≤ i) (h2 : i < n) (hc : c < P) : -524880 ≤ W i c ∧ W i c ≤ 524880 := by
  rcases I.prm with ⟨_, h⟩ | ⟨_, h⟩
  · rw [h i h2]
    have := hR (s i) c (I.sn i h2) hc; omega
  · rcases h i h1 h2 with h3 | h3
    · rw [h3 c hc]; omega
    · obtain ⟨d, e, hd, he, hcr⟩ := I.cram h1 h2
      have hΔ := I.dlt r (Nat.le_refl _)
      have hdv := prim_le (w := W i) (D := fun c => det (r + 1) (mi R r s q i c)) h3 (fun k l hk hl => by
        refine Int.eq_of_mul_eq_mul_left he ?_
        have a1 := hcr k hk
        have a2 := hcr l hl
        rw [← Int.mul_assoc, ← Int.mul_assoc, a1, a2]; grind) hc
      have hb := det_bd (B := 3) (by decide) (n := r + 1) (M := mi R r s q i c) fun j k hj hk => by
        unfold mi
        refine hR _ _ ?_ ?_
        · split
          · rename_i hh; exact I.sn k (by omega)
          · exact I.sn i h2
        · split
          · rename_i hh; have := I.qp j hh; have := I.pP; omega
          · exact hc
      have h6 := dbd3 (k := r + 1) (by omega)
      by_cases h0 : W i c = 0
      · omega
      · have hne : det (r + 1) (mi R r s q i c) ≠ 0 := fun hh => by
          have := hcr c hc
          rw [hh, Int.mul_zero] at this
          exact Int.mul_ne_zero (Int.mul_ne_zero hd h0) hΔ this.symm
        have hle := Nat.le_of_dvd (Int.natAbs_pos.2 hne) (Int.natAbs_dvd_natAbs.2 hdv)
        omega
theorem EInv.skip (I : EInv n P R W r p s q) (hp : p < P) (h : ∀ i, r ≤ i → i < n → W i p = 0) : EInv n P R W r (p + 1) s q :=
  { I with
    pP := hp
    qp := fun i hi => by have := I.qp i hi; omega
    low := fun i c h1 h2 hc => by
      by_cases e : c = p
      · subst e; exact h i h1 h2
      · exact I.low i c h1 h2 (by omega) }
def tr (r f i : Nat) : Nat := if i = r then f else if i = f then r else i
theorem tr_tr {r f i : Nat} : tr r f (tr r f i) = i := by unfold tr; (repeat' split) <;> omega
def elm (P r p : Nat) (W : Mat) : Mat := fun i => if i ≤ r then W i else nrm (fun c => W i c * W r p - W r c * W i p) P
def swR (r f : Nat) (W : Mat) : Mat := fun i => W (tr r f i)
theorem EInv.step (I : EInv n P R W r p s q) (hp : p < P) {f : Nat} (h1 : r ≤ f) (h2 : f < n) (hf : W f p ≠ 0) :
    EInv n P R (elm P r p (swR r f W)) (r + 1) (p + 1) (fun i => s (tr r f i)) (fun i => if i = r then p else q i) := by
  have trn : ∀ i, i < n → tr r f i < n := fun i hi => by unfold tr; (repeat' split) <;> omega
  have trl : ∀ i, i < r → tr r f i = i := fun i hi => by unfold tr; rw [if_neg (by omega), if_neg (by omega)]
  have trr : tr r f r = f := by unfold tr; rw [if_pos rfl]
  have trh : ∀ i, r ≤ i → r ≤ tr r f i := fun i hi => by unfold tr; (repeat' split) <;> omega
  have eL : ∀ i, i ≤ r → elm P r p (swR r f W) i = W (tr r f i) := fun i hi => by unfold elm; rw [if_pos hi]; rfl
  have eH : ∀ i, r < i → elm P r p (swR r f W) i = nrm (fun c => W (tr r f i) c * W f p - W f c * W (tr r f i) p) P := fun i hi => by
    unfold elm; rw [if_neg (by omega)]; unfold swR; rw [trr]
  refine ⟨by omega, hp, fun i hi => I.sn _ (trn i hi), fun i j hi hj e => ?_, fun i hi => ?_, fun i j hij hj => ?_, fun i c hi hi2 hc => ?_, fun i j hj hi => ?_, fun i hi => ?_, fun i hi => ?_, fun y hy t ht => ?_, fun j hj => ?_, .inr ⟨by omega, fun i hi hi2 => ?_⟩⟩
  · have := I.sj _ _ (trn i hi) (trn j hj) e
    rw [← tr_tr (r := r) (f := f) (i := i), this, tr_tr]
  · split
    · omega
    · have := I.qp i (by omega); omega
  · rw [if_neg (show i ≠ r by omega)]
    split
    · exact I.qp i (by omega)
    · exact I.qm i j hij (by omega)
  · rw [eH i (by omega)]
    unfold nrm
    have z : W (tr r f i) c * W f p - W f c * W (tr r f i) p = 0 := by
      by_cases e : c = p
      · subst e; grind
      · rw [I.low _ c (trh i (by omega)) (trn i hi2) (by omega), I.low f c h1 h2 (by omega)]; simp
    try dsimp only
    rw [z]; simp
  · try dsimp only
    rw [if_neg (show j ≠ r by omega), eL i (by omega)]
    by_cases e : i = r
    · subst e; rw [trr]; exact I.low f _ h1 h2 (I.qp j hj)
    · rw [trl i (by omega)]; exact I.tri i j hj (by omega)
  · try dsimp only
    rw [eL i (by omega)]
    split
    · rename_i e; subst e; rw [trr]; exact hf
    · rw [trl i (by omega)]; exact I.piv i (by omega)
  · by_cases e : i ≤ r
    · rw [eL i e, Nat.min_eq_left (show i ≤ r + 1 by omega)]
      obtain ⟨d, e', a, hd, he, hr⟩ := I.rel (tr r f i) (trn i hi)
      have hm : min (tr r f i) r = i := by
        by_cases e2 : i = r
        · subst e2; rw [trr]; exact Nat.min_eq_right h1
        · rw [trl i (by omega)]; exact Nat.min_eq_left e
      rw [hm] at hr
      refine ⟨d, e', a, hd, he, fun c hc => ?_⟩
      rw [hr c hc]
      congr 1
      exact sm_congr fun j hj => by rw [trl j (by omega)]
    · rw [eH i (by omega), Nat.min_eq_right (show r + 1 ≤ i by omega)]
      obtain ⟨d, e', a, hd, he, hr⟩ := I.rel (tr r f i) (trn i hi)
      obtain ⟨d2, e2, b, hd2, he2, hr2⟩ := I.rel f h2
      rw [Nat.min_eq_right (trh i (by omega))] at hr
      rw [Nat.min_eq_right h1] at hr2
      refine ⟨d * d2 * (max 1 (gl (fun c => W (tr r f i) c * W f p - W f c * W (tr r f i) p) P : Int)), d2 * W f p * e', fun j => if j < r then d2 * W f p * a j - d * W (tr r f i) p * b j else - (d * W (tr r f i) p * e2), ?_, Int.mul_ne_zero (Int.mul_ne_zero hd2 hf) he, fun c hc => ?_⟩
      · exact Int.mul_ne_zero (Int.mul_ne_zero hd hd2) (by omega)
      · rw [Int.mul_assoc, nrm_mul hc]
        have s0 : sm (fun j => (if j < r then d2 * W f p * a j - d * W (tr r f i) p * b j else - (d * W (tr r f i) p * e2)) * R (s (tr r f j)) c) (r + 1) = sm (fun j => (if j < r then d2 * W f p * a j - d * W (tr r f i) p * b j else - (d * W (tr r f i) p * e2)) * R (s (tr r f j)) c) r + (if r < r then d2 * W f p * a r - d * W (tr r f i) p * b r else - (d * W (tr r f i) p * e2)) * R (s (tr r f r)) c := rfl
        have s1 : sm (fun j => (if j < r then d2 * W f p * a j - d * W (tr r f i) p * b j else - (d * W (tr r f i) p * e2)) * R (s (tr r f j)) c) r = d2 * W f p * sm (fun j => a j * R (s j) c) r - d * W (tr r f i) p * sm (fun j => b j * R (s j) c) r := by
          rw [← sm_mul, ← sm_mul, ← sm_sub]
          refine sm_congr fun j hj => ?_
          rw [if_pos hj, trl j hj]; grind
        rw [s0, s1, if_neg (by omega), trr]
        have a1 := hr c hc
        have a2 := hr2 c hc
        have a3 : d * d2 * (W (tr r f i) c * W f p - W f c * W (tr r f i) p) = d2 * W f p * (d * W (tr r f i) c) - d * W (tr r f i) p * (d2 * W f c) := by grind
        try dsimp only
        rw [a3, a1, a2]; grind
  · refine I.ker y (fun i hi => ?_) t ht
    have key : ∀ i, i < n → sm (fun c => y c * W (tr r f i) c) P = 0 := by
      have hr0 : sm (fun c => y c * W f c) P = 0 := by
        have := hy r (by omega)
        rw [eL r (Nat.le_refl _), trr] at this; exact this
      intro i hi
      by_cases e : i ≤ r
      · have := hy i hi
        rw [eL i e] at this; exact this
      · have h3 := hy i hi
        rw [eH i (by omega)] at h3
        have h4 : sm (fun c => (max 1 (gl (fun c => W (tr r f i) c * W f p - W f c * W (tr r f i) p) P : Int)) * (y c * nrm (fun c => W (tr r f i) c * W f p - W f c * W (tr r f i) p) P c)) P = 0 := by
          rw [sm_mul, h3, Int.mul_zero]
        have h5 : sm (fun c => W f p * (y c * W (tr r f i) c) - W (tr r f i) p * (y c * W f c)) P = 0 := by
          rw [← h4]
          refine sm_congr fun c hc => ?_
          have := nrm_mul (w := fun c => W (tr r f i) c * W f p - W f c * W (tr r f i) p) hc
          have h7 : ∀ m u v : Int, m * (u * v) = u * (m * v) := fun m u v => by grind
          rw [h7 (max 1 _) (y c), this]; grind
        rw [sm_sub, sm_mul, sm_mul, hr0, Int.mul_zero, Int.sub_zero] at h5
        rcases Int.mul_eq_zero.1 h5 with h6 | h6
        · exact absurd h6 hf
        · exact h6
    have := key (tr r f i) (trn i hi)
    rw [tr_tr] at this; exact this
  · by_cases e : j ≤ r
    · have := I.dlt j e
      rw [← det_congr (M := fun c i => R (s i) (q c)) fun c i hc hi => by
        try dsimp only
        rw [trl i (by omega), if_neg (by omega)]]
      exact this
    · have : j = r + 1 := by omega
      subst this
      obtain ⟨d, e', hd, he, hcr⟩ := I.cram h1 h2
      have h3 := hcr p hp
      have h4 : det (r + 1) (fun c i => R (s (tr r f i)) (if c = r then p else q c)) = det (r + 1) (mi R r s q f p) := det_congr fun c i hc hi => by
        unfold mi
        by_cases e1 : i < r
        · rw [if_pos e1, trl i e1]
          by_cases e2 : c < r
          · rw [if_pos e2, if_neg (by omega)]
          · rw [if_neg e2, if_pos (by omega)]
        · have : i = r := by omega
          subst this
          rw [if_neg e1, trr]
          by_cases e2 : c < i
          · rw [if_pos e2, if_neg (by omega)]
          · rw [if_neg e2, if_pos (by omega)]
      rw [h4]
      intro hz
      rw [hz, Int.mul_zero] at h3
      exact Int.mul_ne_zero (Int.mul_ne_zero hd hf) (I.dlt r (Nat.le_refl _)) h3.symm
  · rw [eH i (by omega)]; exact nrm_prim
theorem sm_pick {k P : Nat} {C : Nat → Nat} {y F : Nat → Int} (hC : ∀ j, j < k → C j < P) : sm (fun c => sm (fun j => if C j = c then y j else 0) k * F c) P = sm (fun j => y j * F (C j)) k := by
  have e1 : sm (fun c => sm (fun j => if C j = c then y j else 0) k * F c) P = sm (fun c => sm (fun j => if C j = c then y j * F c else 0) k) P := sm_congr fun c _ => by
    rw [Int.mul_comm, ← sm_mul]
    refine sm_congr fun j _ => ?_
    split
    · rw [Int.mul_comm]
    · rw [Int.mul_zero]
  rw [e1, sm_swap]
  refine sm_congr fun j hj => ?_
  have one : ∀ P, sm (fun c => if C j = c then y j * F c else 0) P = if C j < P then y j * F (C j) else 0 := by
    intro P
    induction P with
    | zero => simp [sm]
    | succ P ih =>
      have : sm (fun c => if C j = c then y j * F c else 0) (P + 1) = sm (fun c => if C j = c then y j * F c else 0) P + (if C j = P then y j * F P else 0) := rfl
      rw [this, ih]
      by_cases h : C j = P
      · rw [if_neg (by omega), if_pos h, if_pos (by omega), h]; omega
      · by_cases h2 : C j < P
        · rw [if_pos h2, if_neg h, if_pos (by omega)]; omega
        · rw [if_neg h2, if_neg h, if_neg (by omega)]; rfl
  rw [one, if_pos (hC j hj)]
theorem EInv.zero (I : EInv n P R W r P s q) {k : Nat} (hk : r < k) {S C : Nat → Nat} (hS : ∀ i, i < k → S i < n) (hC : ∀ j, j < k → C j < P) : det k (fun i j => R (S i) (C j)) = 0 := by
  obtain ⟨y, ⟨c, hc, hy⟩, hker⟩ := ker_more hk fun i j => W i (C j)
  have h1 := I.ker (fun c => sm (fun j => if C j = c then y j else 0) k) fun i hi => by
    rw [sm_pick (F := W i) hC]
    by_cases e : i < r
    · exact hker i e
    · rw [sm_congr (g := fun _ => 0) fun j hj => by rw [I.low i _ (by omega) hi (hC j hj), Int.mul_zero], sm_zero]
  refine det_ker hc hy fun i hi => ?_
  have := h1 (S i) (hS i hi)
  rw [sm_pick (F := R (S i)) hC] at this
  exact this
theorem sm_one {f : Nat → Int} {k : Nat} : ∀ {n : Nat}, k < n → (∀ i, i < n → i ≠ k → f i = 0) → sm f n = f k
  | 0, h, _ => by omega
  | n + 1, h, hz => by
    have e : sm f (n + 1) = sm f n + f n := rfl
    rw [e]
    by_cases hk : k = n
    · subst hk
      rw [sm_congr (g := fun _ => 0) fun i hi => hz i (by omega) (by omega), sm_zero]; omega
    · rw [sm_one (k := k) (by omega) fun i hi hik => hz i (by omega) hik, hz n (by omega) (by omega)]; omega
theorem EInv.nz (I : EInv n P R W r p s q) {S : Nat → Nat} (hS : ∀ i, i < r → ∃ j, j < r ∧ S j = s i) : det r (fun i j => R (S i) (q j)) ≠ 0 := by
  intro h0
  obtain ⟨y, ⟨c, hc, hy⟩, hk⟩ := ker_det r _ h0
  have hq : ∀ j, j < r → q j < P := fun j hj => by have := I.qp j hj; have := I.pP; omega
  have h1 : ∀ i, i < r → sm (fun j => y j * R (s i) (q j)) r = 0 := fun i hi => by
    obtain ⟨j, hj, e⟩ := hS i hi
    have := hk j hj
    try dsimp only at this
    rw [e] at this; exact this
  have h2 : ∀ i, i < r → sm (fun j => y j * W i (q j)) r = 0 := fun i hi => by
    obtain ⟨d, e, a, hd, he, hr⟩ := I.rel i (by have := I.rn; omega)
    rw [Nat.min_eq_left (by omega)] at hr
    have e1 : d * sm (fun j => y j * W i (q j)) r = sm (fun k => a k * sm (fun j => y j * R (s k) (q j)) r) i + e * sm (fun j => y j * R (s i) (q j)) r := by
      rw [← sm_mul, ← sm_mul]
      have e2 : sm (fun k => a k * sm (fun j => y j * R (s k) (q j)) r) i = sm (fun j => sm (fun k => a k * (y j * R (s k) (q j))) i) r := by
        rw [← sm_swap]
        exact sm_congr fun k _ => by rw [← sm_mul]
      rw [e2, ← sm_add]
      refine sm_congr fun j hj => ?_
      have a1 := hr (q j) (hq j hj)
      have a2 : sm (fun k => a k * (y j * R (s k) (q j))) i = y j * sm (fun k => a k * R (s k) (q j)) i := by
        rw [← sm_mul]
        exact sm_congr fun k _ => by grind
      try dsimp only
      rw [a2, Int.mul_left_comm, a1]; grind
    rw [h1 i hi, Int.mul_zero, Int.add_zero, sm_congr (f := fun k => a k * sm (fun j => y j * R (s k) (q j)) r) (g := fun _ => 0) fun k hk => by rw [h1 k (by omega), Int.mul_zero], sm_zero] at e1
    rcases Int.mul_eq_zero.1 e1 with h3 | h3
    · exact absurd h3 hd
    · exact h3
  have h3 : ∀ m j, r ≤ j + m → j < r → y j = 0 := by
    intro m
    induction m with
    | zero => intro j h4 h5; omega
    | succ m ih =>
      intro j h4 h5
      have h6 := h2 j h5
      rw [sm_one (k := j) h5 fun k hk1 hk2 => by
        rcases Nat.lt_or_ge k j with h7 | h7
        · rw [I.tri j k h7 h5, Int.mul_zero]
        · rw [ih k (by omega) hk1, Int.zero_mul]] at h6
      rcases Int.mul_eq_zero.1 h6 with h7 | h7
      · exact h7
      · exact absurd h7 (I.piv j h5)
  exact hy (h3 r c (by omega) hc)
end
end Go.Ab.Rank
set_option linter.all false
namespace Go.Ab.Rank
open Go.Ab.Heap
theorem nodup_le : ∀ {l m : List Nat}, l.Nodup → (∀ x ∈ l, x ∈ m) → l.length ≤ m.length
  | [], _, _, _ => Nat.zero_le _
  | x :: l, m, hn, hs => by
    rw [List.nodup_cons] at hn
    have h1 := hs x (by simp)
    have h2 := nodup_le (l := l) (m := m.erase x) hn.2 fun y hy => by
      have hne : y ≠ x := fun e => hn.1 (e ▸ hy)
      exact (List.mem_erase_of_ne hne).2 (hs y (List.mem_cons_of_mem _ hy))
    rw [List.length_erase_of_mem h1] at h2
    have h3 := List.length_pos_of_mem h1
    simp only [List.length_cons]
    omega
def pick (n mask : Nat) : List Nat := (List.range n).filter fun i => mask.testBit i
def setsL (n k : Nat) : List (List Nat) := ((List.range (2 ^ n)).map (pick n)).filter fun l => l.length == k
def maskL : List Nat → Nat
  | [] => 0
  | i :: l => 2 ^ i ||| maskL l
theorem mask_bit : ∀ {l : List Nat} {i : Nat}, (maskL l).testBit i = l.contains i
  | [], i => by simp [maskL]
  | j :: l, i => by
    rw [maskL, Nat.testBit_or, Nat.testBit_two_pow, mask_bit, List.contains_cons]
    by_cases h : j = i
    · subst h; simp
    · have h2 : (i == j) = false := by simpa using fun e => h e.symm
      simp [h, h2]
theorem mask_lt {n : Nat} : ∀ {l : List Nat}, (∀ i ∈ l, i < n) → maskL l < 2 ^ n
  | [], _ => Nat.two_pow_pos n
  | j :: l, h => by
    refine Nat.or_lt_two_pow ?_ (mask_lt fun i hi => h i (List.mem_cons_of_mem _ hi))
    exact Nat.pow_lt_pow_right (by decide) (h j (by simp))
theorem sorted_eq : ∀ {l m : List Nat}, l.Pairwise (· < ·) → m.Pairwise (· < ·) → (∀ x, x ∈ l ↔ x ∈ m) → l = m
  | [], [], _, _, _ => rfl
  | [], y :: m, _, _, h => absurd ((h y).2 (by simp)) (by simp)
  | x :: l, [], _, _, h => absurd ((h x).1 (by simp)) (by simp)
  | x :: l, y :: m, hl, hm, h => by
    rw [List.pairwise_cons] at hl hm
    have e : x = y := by
      have h1 := (h x).1 (by simp)
      have h2 := (h y).2 (by simp)
      rcases List.mem_cons.1 h1 with e | e
      · exact e
      · rcases List.mem_cons.1 h2 with e2 | e2
        · exact e2.symm
        · have := hm.1 x e
          have := hl.1 y e2
          omega
    subst e
    congr 1
    refine sorted_eq hl.2 hm.2 fun z => ⟨fun hz => ?_, fun hz => ?_⟩
    · rcases List.mem_cons.1 ((h z).1 (List.mem_cons_of_mem _ hz)) with e | e
      · subst e; have := hl.1 z hz; omega
      · exact e
    · rcases List.mem_cons.1 ((h z).2 (List.mem_cons_of_mem _ hz)) with e | e
      · subst e; have := hm.1 z hz; omega
      · exact e
theorem range_sorted (n : Nat) : (List.range n).Pairwise (· < ·) := List.pairwise_lt_range
theorem pick_sorted (n mask : Nat) : (pick n mask).Pairwise (· < ·) := (range_sorted n).filter _
theorem mem_sets {n k : Nat} {l : List Nat} (h : l.Pairwise (· < ·)) (hb : ∀ i ∈ l, i < n) (hl : l.length = k) : l ∈ setsL n k := by
  unfold setsL
  rw [List.mem_filter]
  refine ⟨List.mem_map.2 ⟨maskL l, List.mem_range.2 (mask_lt hb), ?_⟩, by simpa using hl⟩
  refine sorted_eq (pick_sorted _ _) h fun x => ?_
  unfold pick
  rw [List.mem_filter, mask_bit]
  simp only [List.mem_range, List.contains_iff_mem]
  exact ⟨fun hh => hh.2, fun hh => ⟨hb x hh, hh⟩⟩
theorem sets_mem {n k : Nat} {l : List Nat} (h : l ∈ setsL n k) : (∀ i ∈ l, i < n) ∧ l.length = k := by
  unfold setsL at h
  rw [List.mem_filter] at h
  obtain ⟨h1, h2⟩ := h
  obtain ⟨mask, _, rfl⟩ := List.mem_map.1 h1
  refine ⟨fun i hi => ?_, by simpa using h2⟩
  unfold pick at hi
  exact List.mem_range.1 (List.mem_filter.1 hi).1
def dtL (R : Mat) (a b : List Nat) : Int := det a.length fun i j => R (a.getD i 0) (b.getD j 0)
def hasD (R : Mat) (n P k : Nat) : Bool := (setsL n k).any fun a => (setsL P k).any fun b => dtL R a b != 0
def spR (R : Mat) (n P : Nat) : Nat → Nat
  | 0 => P
  | k + 1 => if hasD R n P (k + 1) then P - (k + 1) else spR R n P k
section
variable {n P : Nat} {R W : Mat} {r : Nat} {s q : Nat → Nat}
theorem EInv.none (I : EInv n P R W r P s q) {k : Nat} (hk : r < k) : hasD R n P k = false := by
  unfold hasD
  rw [List.any_eq_false]
  intro a ha
  rw [Bool.not_eq_true, List.any_eq_false]
  intro b hb
  obtain ⟨a1, a2⟩ := sets_mem ha
  obtain ⟨b1, b2⟩ := sets_mem hb
  have : dtL R a b = 0 := by
    unfold dtL
    rw [a2]
    refine I.zero hk (fun i hi => ?_) (fun j hj => ?_)
    · rw [List.getD_eq_getElem?_getD, List.getElem?_eq_getElem (by omega)]
      exact a1 _ (List.getElem_mem _)
    · rw [List.getD_eq_getElem?_getD, List.getElem?_eq_getElem (by omega)]
      exact b1 _ (List.getElem_mem _)
  simp [this]
theorem EInv.some (I : EInv n P R W r P s q) : hasD R n P r = true := by
  have hrn := I.rn
  have ha : ∀ x, x ∈ (List.range n).filter (fun t => (List.range r).any fun i => s i == t) ↔ ∃ i, i < r ∧ s i = x := fun x => by
    rw [List.mem_filter, List.any_eq_true]
    simp only [List.mem_range, beq_iff_eq]
    constructor
    · rintro ⟨_, i, h1, h2⟩; exact ⟨i, h1, h2⟩
    · rintro ⟨i, h1, h2⟩; exact ⟨by rw [← h2]; exact I.sn i (by omega), i, h1, h2⟩
  generalize hA : (List.range n).filter (fun t => (List.range r).any fun i => s i == t) = a at ha
  have aso : a.Pairwise (· < ·) := by rw [← hA]; exact (range_sorted n).filter _
  have an : a.Nodup := aso.imp fun h => Nat.ne_of_lt h
  have sn : ((List.range r).map s).Nodup := by
    rw [List.nodup_iff_pairwise_ne, List.pairwise_map]
    refine (range_sorted r).imp_of_mem fun {i j} hi hj hlt e => ?_
    have := I.sj i j (by have := List.mem_range.1 hi; omega) (by have := List.mem_range.1 hj; omega) e
    omega
  have al : a.length = r := by
    have h1 := nodup_le an (m := (List.range r).map s) fun x hx => by
      obtain ⟨i, h1, h2⟩ := (ha x).1 hx
      exact List.mem_map.2 ⟨i, List.mem_range.2 h1, h2⟩
    have h2 := nodup_le sn (m := a) fun x hx => by
      obtain ⟨i, h1, h2⟩ := List.mem_map.1 hx
      exact (ha x).2 ⟨i, List.mem_range.1 h1, h2⟩
    simp only [List.length_map, List.length_range] at h1 h2
    omega
  have bs : ((List.range r).map q).Pairwise (· < ·) := by
    rw [List.pairwise_map]
    exact (range_sorted r).imp_of_mem fun {i j} _ hj hlt => I.qm i j hlt (List.mem_range.1 hj)
  unfold hasD
  rw [List.any_eq_true]
  refine ⟨a, mem_sets aso (fun i hi => by obtain ⟨j, h1, h2⟩ := (ha i).1 hi; rw [← h2]; exact I.sn j (by omega)) al, ?_⟩
  rw [List.any_eq_true]
  refine ⟨(List.range r).map q, mem_sets bs (fun i hi => by obtain ⟨j, h1, rfl⟩ := List.mem_map.1 hi; exact I.qp j (List.mem_range.1 h1)) (by simp), ?_⟩
  have h1 : dtL R a ((List.range r).map q) = det r fun i j => R (a.getD i 0) (q j) := by
    unfold dtL
    rw [al]
    refine det_congr fun i j hi hj => ?_
    have : ((List.range r).map q).getD j 0 = q j := by
      rw [List.getD_eq_getElem?_getD, List.getElem?_map, List.getElem?_range hj]; rfl
    rw [this]
  rw [h1, bne_iff_ne]
  refine I.nz fun i hi => ?_
  obtain ⟨j, hj, e⟩ := List.getElem_of_mem ((ha (s i)).2 ⟨i, hi, rfl⟩)
  exact ⟨j, by omega, by rw [List.getD_eq_getElem?_getD, List.getElem?_eq_getElem hj]; exact e⟩
theorem EInv.sp (I : EInv n P R W r P s q) : ∀ K, r ≤ K → spR R n P K = P - r
  | 0, h => by
    have : r = 0 := by omega
    subst this; rfl
  | K + 1, h => by
    unfold spR
    by_cases e : r = K + 1
    · subst e
      rw [if_pos I.some]
    · rw [I.none (by omega), if_neg (by simp)]
      exact EInv.sp I K (by omega)
end
theorem det_negA : ∀ (k : Nat) (M : Mat), det k M = 0 ↔ det k (fun i j => - M i j) = 0 := by
  have key : ∀ (k : Nat) (M : Mat), ∃ e : Int, (e = 1 ∨ e = -1) ∧ det k (fun i j => - M i j) = e * det k M := by
    intro k
    induction k with
    | zero => intro M; exact ⟨1, .inl rfl, by simp [det]⟩
    | succ k ih =>
      have un : ∃ e : Int, (e = 1 ∨ e = -1) ∧ ∀ M : Mat, det k (fun i j => - M i j) = e * det k M := by
        clear ih
        induction k with
        | zero => exact ⟨1, .inl rfl, fun M => by simp [det]⟩
        | succ k ih =>
          obtain ⟨e, he, h⟩ := ih
          refine ⟨-e, by omega, fun M => ?_⟩
          show sm (fun c => sgn c * (- M 0 c) * det k (mnr (fun i j => - M i j) c)) (k + 1) = -e * sm (fun c => sgn c * M 0 c * det k (mnr M c)) (k + 1)
          rw [← sm_mul]
          refine sm_congr fun c hc => ?_
          have := h (mnr M c)
          have e2 : mnr (fun i j => - M i j) c = fun i j => - mnr M c i j := rfl
          rw [e2, this]; grind
      intro M
      obtain ⟨e, he, h⟩ := un
      refine ⟨-e, by omega, ?_⟩
      show sm (fun c => sgn c * (- M 0 c) * det k (mnr (fun i j => - M i j) c)) (k + 1) = -e * sm (fun c => sgn c * M 0 c * det k (mnr M c)) (k + 1)
      rw [← sm_mul]
      refine sm_congr fun c hc => ?_
      have := h (mnr M c)
      have e2 : mnr (fun i j => - M i j) c = fun i j => - mnr M c i j := rfl
      rw [e2, this]; grind
  intro k M
  obtain ⟨e, he, h⟩ := key k M
  rw [h]
  rcases he with rfl | rfl <;> omega
theorem hasD_neg {R : Mat} {n P k : Nat} : hasD (fun i j => - R i j) n P k = hasD R n P k := by
  unfold hasD
  congr 1
  funext a
  congr 1
  funext b
  have : (dtL (fun i j => - R i j) a b = 0) ↔ dtL R a b = 0 := by
    unfold dtL
    exact (det_negA a.length fun i j => R (a.getD i 0) (b.getD j 0)).symm
  rw [Bool.eq_iff_iff, bne_iff_ne, bne_iff_ne, ne_eq, ne_eq, this]
theorem spR_neg {R : Mat} {n P : Nat} : ∀ K, spR (fun i j => - R i j) n P K = spR R n P K
  | 0 => rfl
  | K + 1 => by unfold spR; rw [hasD_neg, spR_neg K]
end Go.Ab.Rank
