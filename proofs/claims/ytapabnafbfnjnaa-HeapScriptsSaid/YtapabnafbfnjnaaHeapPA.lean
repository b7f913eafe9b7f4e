/- HeapL1, HeapL2, HeapL3, HeapD, HeapL4, HeapL5. -/
set_option linter.all false
namespace Go.Ab.Heap
def sm (f : Nat → Int) : Nat → Int
  | 0 => 0
  | n + 1 => sm f n + f n
theorem sm_congr {f g : Nat → Int} : ∀ {n : Nat}, (∀ i, i < n → f i = g i) → sm f n = sm g n
  | 0, _ => rfl
  | n + 1, h => by simp only [sm]; rw [sm_congr fun i hi => h i (by omega), h n (by omega)]
theorem sm_le {f g : Nat → Int} : ∀ {n : Nat}, (∀ i, i < n → f i ≤ g i) → sm f n ≤ sm g n
  | 0, _ => Int.le_refl _
  | n + 1, h => by
    have h1 := sm_le (n := n) fun i hi => h i (by omega)
    have h2 := h n (by omega)
    simp only [sm]; omega
theorem sm_le_at {f g : Nat → Int} {d : Int} {k : Nat} : ∀ {n : Nat}, (∀ i, i < n → f i ≤ g i) → k < n → f k + d ≤ g k → sm f n + d ≤ sm g n
  | 0, _, hk, _ => by omega
  | n + 1, h, hk, hd => by
    simp only [sm]
    by_cases e : k = n
    · subst e
      have h1 := sm_le (n := k) fun i hi => h i (by omega)
      omega
    · have h1 := sm_le_at (n := n) (fun i hi => h i (by omega)) (by omega) hd
      have h2 := h n (by omega)
      omega
theorem sm_zero : ∀ {n : Nat}, sm (fun _ => 0) n = 0
  | 0 => rfl
  | n + 1 => by simp only [sm]; rw [sm_zero]; rfl
theorem sm_nonneg {f : Nat → Int} {n : Nat} (h : ∀ i, i < n → 0 ≤ f i) : 0 ≤ sm f n := by
  have := sm_le h; rwa [sm_zero] at this
theorem sm_ge_at {f : Nat → Int} {n k : Nat} (h : ∀ i, i < n → 0 ≤ f i) (hk : k < n) : f k ≤ sm f n := by
  have := sm_le_at (f := fun _ => 0) (g := f) (d := f k) h hk (by omega)
  rw [sm_zero] at this; omega
theorem sm_add {f g : Nat → Int} : ∀ {n : Nat}, sm (fun i => f i + g i) n = sm f n + sm g n
  | 0 => rfl
  | n + 1 => by simp only [sm]; rw [sm_add]; omega
theorem sm_sub {f g : Nat → Int} : ∀ {n : Nat}, sm (fun i => f i - g i) n = sm f n - sm g n
  | 0 => rfl
  | n + 1 => by simp only [sm]; rw [sm_sub]; omega
theorem sm_neg {f : Nat → Int} : ∀ {n : Nat}, sm (fun i => - f i) n = - sm f n
  | 0 => rfl
  | n + 1 => by simp only [sm]; rw [sm_neg]; omega
theorem sm_mul {f : Nat → Int} {k : Int} : ∀ {n : Nat}, sm (fun i => k * f i) n = k * sm f n
  | 0 => by simp [sm]
  | n + 1 => by simp only [sm]; rw [sm_mul, Int.mul_add]
theorem sm_const {k : Int} : ∀ {n : Nat}, sm (fun _ => k) n = n * k
  | 0 => by simp [sm]
  | n + 1 => by simp only [sm]; rw [sm_const, Int.natCast_succ, Int.add_mul, Int.one_mul]
theorem sm_swap {f : Nat → Nat → Int} {m : Nat} : ∀ {n : Nat}, sm (fun i => sm (f i) m) n = sm (fun j => sm (fun i => f i j) n) m
  | 0 => by simp only [sm]; rw [sm_zero]
  | n + 1 => by simp only [sm]; rw [sm_swap, ← sm_add]
theorem exists_min {n : Nat} (u : Nat → Int) (hn : 0 < n) : ∃ i, i < n ∧ ∀ j, j < n → u i ≤ u j := by
  induction n with
  | zero => omega
  | succ n ih =>
    by_cases h : n = 0
    · subst h; exact ⟨0, by omega, fun j hj => by have : j = 0 := by omega
                                                  subst this; exact Int.le_refl _⟩
    · obtain ⟨i, hi, hm⟩ := ih (by omega)
      by_cases hc : u i ≤ u n
      · refine ⟨i, by omega, fun j hj => ?_⟩
        rcases Nat.lt_or_ge j n with h1 | h1
        · exact hm j h1
        · have : j = n := by omega
          subst this; exact hc
      · refine ⟨n, by omega, fun j hj => ?_⟩
        rcases Nat.lt_or_ge j n with h1 | h1
        · have := hm j h1; omega
        · have : j = n := by omega
          subst this; exact Int.le_refl _
structure SP where
  n : Nat
  l : Nat → Nat → Int
  g : Nat → Int
inductive SP.Reach (s : SP) : Nat → Prop
  | ground {i : Nat} : i < s.n → 0 < s.g i → s.Reach i
  | link {i k : Nat} : i < s.n → k < s.n → s.Reach k → 0 < s.l i k → s.Reach i
structure SP.Ok (s : SP) : Prop where
  l0 : ∀ i k, i < s.n → k < s.n → 0 ≤ s.l i k
  sym : ∀ i k, i < s.n → k < s.n → s.l i k = s.l k i
  diag : ∀ i, i < s.n → s.l i i = 0
  g0 : ∀ i, i < s.n → 0 ≤ s.g i
  all : ∀ i, i < s.n → s.Reach i
def SP.lim (s : SP) (i : Nat) : Int := s.g i + sm (s.l i) s.n
def SP.lap (s : SP) (u : Nat → Int) (i : Nat) : Int := s.g i * u i + sm (fun j => s.l i j * (u i - u j)) s.n
variable {s : SP}
theorem lap_eq (u : Nat → Int) (i : Nat) : s.lap u i = s.lim i * u i - sm (fun j => s.l i j * u j) s.n := by
  have : sm (fun j => s.l i j * (u i - u j)) s.n = sm (s.l i) s.n * u i - sm (fun j => s.l i j * u j) s.n := by
    rw [Int.mul_comm (sm (s.l i) s.n), ← sm_mul, ← sm_sub]
    exact sm_congr fun j _ => by rw [Int.mul_sub, Int.mul_comm (s.l i j) (u i)]
  unfold SP.lap SP.lim
  rw [this, Int.add_mul]; omega
theorem lap_add (u v : Nat → Int) (i : Nat) : s.lap (fun j => u j + v j) i = s.lap u i + s.lap v i := by
  have : sm (fun j => s.l i j * (u i + v i - (u j + v j))) s.n = sm (fun j => s.l i j * (u i - u j)) s.n + sm (fun j => s.l i j * (v i - v j)) s.n := by
    rw [← sm_add]; exact sm_congr fun j _ => by rw [← Int.mul_add]; congr 1; omega
  unfold SP.lap
  rw [this, Int.mul_add]; omega
theorem lap_mul (k : Int) (u : Nat → Int) (i : Nat) : s.lap (fun j => k * u j) i = k * s.lap u i := by
  have : sm (fun j => s.l i j * (k * u i - k * u j)) s.n = k * sm (fun j => s.l i j * (u i - u j)) s.n := by
    rw [← sm_mul]; exact sm_congr fun j _ => by rw [← Int.mul_sub, ← Int.mul_assoc, ← Int.mul_assoc, Int.mul_comm k]
  unfold SP.lap
  rw [this, Int.mul_add, ← Int.mul_assoc, ← Int.mul_assoc, Int.mul_comm k, Int.mul_comm (s.g i)]
theorem lap_neg (u : Nat → Int) (i : Nat) : s.lap (fun j => - u j) i = - s.lap u i := by
  have := lap_mul (s := s) (-1) u i
  simp only [Int.neg_mul, Int.one_mul] at this
  exact this
theorem lap_sub (u v : Nat → Int) (i : Nat) : s.lap (fun j => u j - v j) i = s.lap u i - s.lap v i := by
  have := lap_add (s := s) u (fun j => - v j) i
  rw [lap_neg] at this
  simpa [Int.sub_eq_add_neg] using this
theorem lap_zero (i : Nat) : s.lap (fun _ => 0) i = 0 := by
  have := lap_mul (s := s) 0 (fun _ => 0) i
  simpa using this
theorem lap_congr {u v : Nat → Int} (h : ∀ j, j < s.n → u j = v j) {i : Nat} (hi : i < s.n) : s.lap u i = s.lap v i := by
  unfold SP.lap
  rw [h i hi, sm_congr fun j hj => by rw [h j hj]]
def cnt (p : Nat → Bool) : Nat → Nat
  | 0 => 0
  | n + 1 => cnt p n + if p n then 1 else 0
theorem cnt_le (p : Nat → Bool) : ∀ n, cnt p n ≤ n
  | 0 => Nat.le_refl _
  | n + 1 => by simp only [cnt]; have := cnt_le p n; split <;> omega
theorem cnt_mono {p q : Nat → Bool} : ∀ {n : Nat}, (∀ i, i < n → p i = true → q i = true) → cnt p n ≤ cnt q n
  | 0, _ => Nat.le_refl _
  | n + 1, h => by
    have h1 := cnt_mono (n := n) fun i hi => h i (by omega)
    have h2 := h n (by omega)
    simp only [cnt]
    cases hp : p n <;> cases hq : q n <;> simp_all <;> omega
theorem cnt_lt {p q : Nat → Bool} {k : Nat} : ∀ {n : Nat}, (∀ i, i < n → p i = true → q i = true) → k < n → p k = false → q k = true → cnt p n < cnt q n
  | 0, _, hk, _, _ => by omega
  | n + 1, h, hk, h1, h2 => by
    simp only [cnt]
    by_cases e : k = n
    · subst e
      have := cnt_mono (n := k) fun i hi => h i (by omega)
      simp [h1, h2]; omega
    · have := cnt_lt (n := n) (fun i hi => h i (by omega)) (by omega) h1 h2
      have h3 := h n (by omega)
      cases hp : p n <;> cases hq : q n <;> simp_all <;> omega
theorem way_out (ok : s.Ok) {S : Nat → Prop} {i : Nat} (hi : i < s.n) (h : S i) : (∃ k, k < s.n ∧ S k ∧ 0 < s.g k) ∨ ∃ k j, k < s.n ∧ j < s.n ∧ S k ∧ ¬ S j ∧ 0 < s.l k j := by
  by_cases hg : ∃ k, k < s.n ∧ S k ∧ 0 < s.g k
  · exact .inl hg
  · by_cases hl : ∃ k j, k < s.n ∧ j < s.n ∧ S k ∧ ¬ S j ∧ 0 < s.l k j
    · exact .inr hl
    · exfalso
      have : ∀ k, s.Reach k → ¬ S k := fun k hk => by
        induction hk with
        | @ground k h1 h2 => exact fun h3 => hg ⟨k, h1, h3, h2⟩
        | @link k j h1 h2 _ h4 ih => exact fun h3 => hl ⟨k, j, h1, h2, h3, ih, h4⟩
      exact this i (ok.all i hi) h
def chi (t : Nat → Int) (m : Int) (j : Nat) : Int := if m ≤ t j then 1 else 0
theorem lap_chi (ok : s.Ok) (t : Nat → Int) (m : Int) : 2 * sm (fun j => chi t m j * s.lap t j) s.n = 2 * sm (fun j => chi t m j * (s.g j * t j)) s.n + sm (fun j => sm (fun k => s.l j k * ((chi t m j - chi t m k) * (t j - t k))) s.n) s.n := by
  have e1 : sm (fun j => chi t m j * s.lap t j) s.n = sm (fun j => chi t m j * (s.g j * t j)) s.n + sm (fun j => sm (fun k => chi t m j * (s.l j k * (t j - t k))) s.n) s.n := by
    rw [← sm_add]
    refine sm_congr fun j _ => ?_
    rw [sm_mul, ← Int.mul_add]; rfl
  have e2 : sm (fun j => sm (fun k => chi t m j * (s.l j k * (t j - t k))) s.n) s.n = sm (fun j => sm (fun k => chi t m k * (s.l j k * (t k - t j))) s.n) s.n := by
    rw [sm_swap]
    exact sm_congr fun j hj => sm_congr fun k hk => by rw [ok.sym j k hj hk]
  have e3 : sm (fun j => sm (fun k => s.l j k * ((chi t m j - chi t m k) * (t j - t k))) s.n) s.n = sm (fun j => sm (fun k => chi t m j * (s.l j k * (t j - t k))) s.n) s.n + sm (fun j => sm (fun k => chi t m k * (s.l j k * (t k - t j))) s.n) s.n := by
    rw [← sm_add]
    refine sm_congr fun j _ => ?_
    rw [← sm_add]
    refine sm_congr fun k _ => ?_
    grind
  rw [e3, ← e2, e1]; omega
theorem chi_term (ok : s.Ok) (t : Nat → Int) (m : Int) {j k : Nat} (hj : j < s.n) (hk : k < s.n) : 0 ≤ s.l j k * ((chi t m j - chi t m k) * (t j - t k)) := by
  refine Int.mul_nonneg (ok.l0 j k hj hk) ?_
  unfold chi
  split <;> split <;> simp <;> omega
theorem often (ok : s.Ok) {a t : Nat → Int} {A : Int} (ht : ∀ i, i < s.n → 0 ≤ t i) (ha : ∀ i, i < s.n → 0 ≤ a i) (hA : sm a s.n ≤ A) (hc : ∀ i, i < s.n → 0 ≤ a i - s.lap t i) : ∀ i, i < s.n → t i ≤ s.n * A := by
  have hA0 : 0 ≤ A := Int.le_trans (sm_nonneg ha) hA
  have tot : ∀ m, sm (fun j => chi t m j * s.lap t j) s.n ≤ A := fun m => by
    refine Int.le_trans (sm_le fun j hj => ?_) hA
    have := hc j hj
    have := ha j hj
    unfold chi
    split <;> simp <;> omega
  have term0 : ∀ m j, j < s.n → 0 ≤ chi t m j * (s.g j * t j) := fun m j hj => by
    have := Int.mul_nonneg (ok.g0 j hj) (ht j hj)
    unfold chi
    split <;> simp <;> omega
  have low : ∀ (v : Nat) i, i < s.n → (t i).toNat ≤ v → t i ≤ A * (1 + (cnt (fun j => decide (t j < t i)) s.n : Nat)) := by
    intro v
    induction v with
    | zero =>
      intro i hi hv
      have : 0 ≤ A * (1 + (cnt (fun j => decide (t j < t i)) s.n : Nat)) := Int.mul_nonneg hA0 (by omega)
      omega
    | succ v ih =>
      intro i hi hv
      have h2 := lap_chi ok t (t i)
      have h3 := tot (t i)
      have h0 : 0 ≤ A * (cnt (fun j => decide (t j < t i)) s.n : Nat) := Int.mul_nonneg hA0 (by omega)
      rcases way_out ok (S := fun j => t i ≤ t j) hi (Int.le_refl _) with ⟨k, k1, k2, k3⟩ | ⟨k, j, k1, j1, k2, k3, k4⟩
      · have p1 := sm_ge_at (term0 (t i)) k1
        have p2 := sm_nonneg (f := fun j => sm (fun k => s.l j k * ((chi t (t i) j - chi t (t i) k) * (t j - t k))) s.n) fun j hj => sm_nonneg fun k hk => chi_term ok t (t i) hj hk
        have p3 : chi t (t i) k = 1 := by unfold chi; rw [if_pos k2]
        rw [p3, Int.one_mul] at p1
        have p4 : t k ≤ s.g k * t k := by
          have := Int.mul_nonneg (show 0 ≤ s.g k - 1 by omega) (ht k k1)
          rw [Int.sub_mul] at this; omega
        rw [Int.mul_add, Int.mul_one]
        omega
      · have p1 := sm_nonneg (term0 (t i))
        have pk : chi t (t i) k = 1 := by unfold chi; rw [if_pos k2]
        have pj : chi t (t i) j = 0 := by unfold chi; rw [if_neg k3]
        have q1 : t k - t j ≤ s.l k j * ((chi t (t i) k - chi t (t i) j) * (t k - t j)) := by
          rw [pk, pj]
          have := Int.mul_nonneg (show 0 ≤ s.l k j - 1 by omega) (show 0 ≤ t k - t j by omega)
          rw [Int.sub_mul] at this
          simp only [Int.sub_zero, Int.one_mul]; omega
        have q2 : t k - t j ≤ s.l j k * ((chi t (t i) j - chi t (t i) k) * (t j - t k)) := by
          rw [pk, pj, ok.sym j k j1 k1]
          have := Int.mul_nonneg (show 0 ≤ s.l k j - 1 by omega) (show 0 ≤ t k - t j by omega)
          rw [Int.sub_mul] at this
          have e : (0 - 1 : Int) * (t j - t k) = t k - t j := by omega
          rw [e]; omega
        have r1 := sm_ge_at (f := fun q => s.l k q * ((chi t (t i) k - chi t (t i) q) * (t k - t q))) (fun q hq => chi_term ok t (t i) k1 hq) j1
        have r2 := sm_ge_at (f := fun q => s.l j q * ((chi t (t i) j - chi t (t i) q) * (t j - t q))) (fun q hq => chi_term ok t (t i) j1 hq) k1
        have hkj : k ≠ j := fun e => k3 (e ▸ k2)
        have r3 : (t k - t j) + (t k - t j) ≤ sm (fun j => sm (fun k => s.l j k * ((chi t (t i) j - chi t (t i) k) * (t j - t k))) s.n) s.n := by
          have nn : ∀ q, q < s.n → 0 ≤ sm (fun k => s.l q k * ((chi t (t i) q - chi t (t i) k) * (t q - t k))) s.n := fun q hq => sm_nonneg fun k hk => chi_term ok t (t i) hq hk
          have z := sm_le_at (f := fun q => if q = k then t k - t j else 0) (g := fun q => sm (fun k => s.l q k * ((chi t (t i) q - chi t (t i) k) * (t q - t k))) s.n) (d := t k - t j) (k := j) (n := s.n) (fun q hq => by
            split
            · rename_i e; subst e; exact Int.le_trans q1 r1
            · exact nn q hq) j1 (by rw [if_neg (Ne.symm hkj)]; have := Int.le_trans q2 r2; omega)
          have z2 := sm_ge_at (f := fun q => if q = k then t k - t j else 0) (n := s.n) (k := k) (fun q hq => by split <;> omega) k1
          simp only [if_true] at z2
          omega
        have hjv := ih j j1 (by have := ht j j1; have := ht i hi; omega)
        have hcn : cnt (fun q => decide (t q < t j)) s.n < cnt (fun q => decide (t q < t i)) s.n := cnt_lt (k := j) (fun q hq hd => by simp only [decide_eq_true_eq] at hd ⊢; omega) j1 (by simp) (by simp only [decide_eq_true_eq]; omega)
        have hmul : A * (1 + (cnt (fun q => decide (t q < t j)) s.n : Nat)) ≤ A * (cnt (fun q => decide (t q < t i)) s.n : Nat) := Int.mul_le_mul_of_nonneg_left (by omega) hA0
        rw [Int.mul_add, Int.mul_one]
        omega
  intro i hi
  have h1 := low _ i hi (Nat.le_refl _)
  have h2 : cnt (fun j => decide (t j < t i)) s.n < cnt (fun _ => true) s.n := cnt_lt (k := i) (fun _ _ _ => rfl) hi (by simp) rfl
  have h3 := cnt_le (fun _ => true) s.n
  have h4 : A * (1 + (cnt (fun j => decide (t j < t i)) s.n : Nat)) ≤ A * (s.n : Int) := Int.mul_le_mul_of_nonneg_left (by omega) hA0
  rw [Int.mul_comm (s.n : Int)]; omega
def SP.lft (s : SP) (a t : Nat → Int) (i : Nat) : Int := a i - s.lap t i
def SP.Calms (s : SP) (a u : Nat → Int) : Prop := (∀ i, i < s.n → 0 ≤ u i) ∧ ∀ i, i < s.n → s.lft a u i < s.lim i
def SP.Legal (s : SP) (a t : Nat → Int) : Prop := (∀ i, i < s.n → 0 ≤ t i) ∧ ∀ u, s.Calms a u → ∀ i, i < s.n → t i ≤ u i
def SP.Stl (s : SP) (a t : Nat → Int) : Prop := s.Calms a t ∧ s.Legal a t
theorem stl_unique {a t t' : Nat → Int} (h : s.Stl a t) (h' : s.Stl a t') : ∀ i, i < s.n → t i = t' i := fun i hi => by
  have h1 := h.2.2 t' h'.1 i hi
  have h2 := h'.2.2 t h.1 i hi
  (try dsimp only); omega
theorem legal_zero {a : Nat → Int} : s.Legal a fun _ => 0 := ⟨fun _ _ => Int.le_refl _, fun _ hu i hi => hu.1 i hi⟩
theorem legal_congr {a a' t t' : Nat → Int} (ha : ∀ i, i < s.n → a i = a' i) (ht : ∀ i, i < s.n → t i = t' i) (h : s.Legal a t) : s.Legal a' t' :=
  ⟨fun i hi => by rw [← ht i hi]; exact h.1 i hi, fun u hu i hi => by
    rw [← ht i hi]
    refine h.2 u ⟨hu.1, fun j hj => ?_⟩ i hi
    have := hu.2 j hj
    unfold SP.lft at *
    rw [ha j hj]; exact this⟩
theorem legal_more {a t t' : Nat → Int} (h : s.Legal a t) (h' : s.Legal (s.lft a t) t') : s.Legal a fun i => t i + t' i :=
  ⟨fun i hi => by have := h.1 i hi; have := h'.1 i hi; (try dsimp only); omega, fun u hu i hi => by
    have h1 := h.2 u hu
    have := h'.2 (fun j => u j - t j) ⟨fun j hj => by have := h1 j hj; (try dsimp only); omega, fun j hj => by
      have := hu.2 j hj
      unfold SP.lft at *
      rw [lap_sub]; (try dsimp only); omega⟩ i hi
    (try dsimp only); omega⟩
theorem legal_one (ok : s.Ok) {a : Nat → Int} {i : Nat} {k : Int} (hi : i < s.n) (h0 : 0 ≤ k) (hk : k * s.lim i ≤ a i) (hl : 0 < s.lim i) : s.Legal a fun j => if j = i then k else 0 := by
  refine ⟨fun j _ => by dsimp only; split <;> omega, fun u hu j hj => ?_⟩
  dsimp only
  split
  · rename_i e; subst e
    have h1 := hu.2 j hj
    unfold SP.lft at h1
    rw [lap_eq] at h1
    have h2 := sm_nonneg (f := fun q => s.l j q * u q) (n := s.n) fun q hq => Int.mul_nonneg (ok.l0 j q hj hq) (hu.1 q hq)
    have h3 : k * s.lim j < (u j + 1) * s.lim j := by rw [Int.add_mul, Int.one_mul, Int.mul_comm (u j)]; omega
    have := Int.lt_of_mul_lt_mul_right h3 (Int.le_of_lt hl)
    omega
  · exact hu.1 j hj
theorem lim_pos (ok : s.Ok) {i : Nat} (hi : i < s.n) : 0 < s.lim i := by
  have h1 := ok.g0 i hi
  have h2 := sm_nonneg (f := s.l i) (n := s.n) fun j hj => ok.l0 i j hi hj
  unfold SP.lim
  cases ok.all i hi with
  | ground _ h => omega
  | link _ hk _ h => have := sm_ge_at (f := s.l i) (n := s.n) (fun j hj => ok.l0 i j hi hj) hk; omega
theorem lap_sum (ok : s.Ok) (t : Nat → Int) : sm (s.lap t) s.n = sm (fun i => s.g i * t i) s.n := by
  have e1 : sm (s.lap t) s.n = sm (fun i => s.g i * t i) s.n + sm (fun i => sm (fun j => s.l i j * (t i - t j)) s.n) s.n := by rw [← sm_add]; rfl
  have e2 : sm (fun i => sm (fun j => s.l i j * (t i - t j)) s.n) s.n = sm (fun i => sm (fun j => s.l i j * (t j - t i)) s.n) s.n := by
    rw [sm_swap]
    exact sm_congr fun j hj => sm_congr fun k hk => by rw [ok.sym j k hj hk]
  have e3 : sm (fun i => sm (fun j => s.l i j * (t j - t i)) s.n) s.n = - sm (fun i => sm (fun j => s.l i j * (t i - t j)) s.n) s.n := by
    rw [← sm_neg]
    refine sm_congr fun i _ => ?_
    rw [← sm_neg]
    exact sm_congr fun j _ => by rw [← Int.mul_neg]; congr 1; omega
  rw [e3] at e2
  rw [e1]; omega
theorem left_sum (ok : s.Ok) {a t : Nat → Int} (ht : ∀ i, i < s.n → 0 ≤ t i) : sm (s.lft a t) s.n ≤ sm a s.n := by
  have e : sm (s.lft a t) s.n = sm a s.n - sm (s.lap t) s.n := by rw [← sm_sub]; rfl
  rw [e, lap_sum ok]
  have := sm_nonneg (f := fun i => s.g i * t i) (n := s.n) fun i hi => Int.mul_nonneg (ok.g0 i hi) (ht i hi)
  omega
def SP.Burns (s : SP) (c : Nat → Int) : Prop := ∀ S : Nat → Bool, (∃ i, i < s.n ∧ S i = true) → ∃ i, i < s.n ∧ S i = true ∧ sm (fun j => if S j then s.l i j else 0) s.n ≤ c i
theorem part_le (ok : s.Ok) {i : Nat} (hi : i < s.n) (S : Nat → Bool) : sm (fun j => if S j then s.l i j else 0) s.n ≤ sm (s.l i) s.n :=
  sm_le fun j hj => by have := ok.l0 i j hi hj; split <;> omega
theorem burns_full (ok : s.Ok) : s.Burns fun i => s.lim i - 1 := by
  rintro S ⟨i, hi, hS⟩
  rcases way_out ok (S := fun j => S j = true) hi hS with ⟨k, k1, k2, k3⟩ | ⟨k, j, k1, j1, k2, k3, k4⟩
  · refine ⟨k, k1, k2, ?_⟩
    have := part_le ok k1 S
    (try dsimp only); unfold SP.lim; omega
  · refine ⟨k, k1, k2, ?_⟩
    have := sm_le_at (f := fun j => if S j then s.l k j else 0) (g := s.l k) (d := s.l k j) (n := s.n) (k := j) (fun q hq => by have := ok.l0 k q k1 hq; (try dsimp only); split <;> omega) j1 (by simp [k3])
    have := ok.g0 k k1
    (try dsimp only); unfold SP.lim; omega
theorem lap_set (S : Nat → Bool) (i : Nat) : s.lap (fun j => if S j then 1 else 0) i = (if S i then s.lim i else 0) - sm (fun j => if S j then s.l i j else 0) s.n := by
  rw [lap_eq]
  have : sm (fun j => s.l i j * (if S j then 1 else 0)) s.n = sm (fun j => if S j then s.l i j else 0) s.n := sm_congr fun j _ => by split <;> simp
  rw [this]
  split <;> simp
theorem burns_more (ok : s.Ok) {c a t : Nat → Int} (hc : s.Burns c) (ha : ∀ i, i < s.n → c i ≤ a i) (ht : s.Stl a t) : s.Burns (s.lft a t) := by
  intro S hS
  refine Classical.byContradiction fun hno => ?_
  have low : ∀ i, i < s.n → S i = true → s.lft a t i < sm (fun j => if S j then s.l i j else 0) s.n := fun i hi h => by
    refine Classical.byContradiction fun h2 => hno ⟨i, hi, h, by omega⟩
  by_cases hz : ∃ i, i < s.n ∧ S i = true ∧ t i = 0
  · obtain ⟨i0, h1, h2, h3⟩ := hz
    obtain ⟨i, hi, hSi, hle⟩ := hc (fun j => S j && decide (t j = 0)) ⟨i0, h1, by simp [h2, h3]⟩
    simp only [Bool.and_eq_true, decide_eq_true_eq] at hSi
    have h4 := low i hi hSi.1
    unfold SP.lft at h4
    rw [lap_eq, hSi.2, Int.mul_zero] at h4
    have h5 := ha i hi
    have h6 : sm (fun j => if S j then s.l i j else 0) s.n ≤ sm (fun j => if S j && decide (t j = 0) then s.l i j else 0) s.n + sm (fun j => s.l i j * t j) s.n := by
      rw [← sm_add]
      refine sm_le fun j hj => ?_
      have p1 := ok.l0 i j hi hj
      have p2 := ht.1.1 j hj
      have p3 := Int.mul_nonneg p1 p2
      by_cases hz : t j = 0
      · rw [hz] at p3 ⊢; simp
      · have p4 := Int.mul_nonneg p1 (show 0 ≤ t j - 1 by omega)
        rw [Int.mul_sub] at p4
        simp only [hz, decide_false, Bool.and_false, Bool.false_eq_true, if_false]
        split <;> omega
    omega
  · have pos : ∀ i, i < s.n → S i = true → 1 ≤ t i := fun i hi h => by
      have := ht.1.1 i hi
      refine Classical.byContradiction fun h2 => hz ⟨i, hi, h, by omega⟩
    obtain ⟨i0, h1, h2⟩ := hS
    have h3 := ht.2.2 (fun j => t j - if S j then 1 else 0) ⟨fun i hi => by
      have := ht.1.1 i hi
      (try dsimp only)
      split
      · rename_i h; have := pos i hi h; omega
      · omega, fun i hi => by
      have h4 := ht.1.2 i hi
      unfold SP.lft at *
      rw [lap_sub, lap_set]
      have h6 := sm_nonneg (f := fun j => if S j then s.l i j else 0) (n := s.n) fun j hj => by have := ok.l0 i j hi hj; split <;> omega
      by_cases hSi : S i = true
      · have := low i hi hSi
        unfold SP.lft at this
        rw [if_pos hSi]; omega
      · rw [if_neg hSi]; omega⟩ i0 h1
    simp only [h2, if_true] at h3
    omega
theorem burns_one (ok : s.Ok) {c d u : Nat → Int} (hcs : ∀ i, i < s.n → c i < s.lim i) (hd : s.Burns d) (h : ∀ i, i < s.n → d i = c i - s.lap u i) : ∀ i, i < s.n → u i ≤ 0 := by
  intro i hi
  obtain ⟨m, hm, hmin⟩ := exists_min (fun j => - u j) (show 0 < s.n by omega)
  have hmax : ∀ j, j < s.n → u j ≤ u m := fun j hj => by have := hmin j hj; omega
  refine Classical.byContradiction fun hpos => ?_
  have hM : 1 ≤ u m := by have := hmax i hi; omega
  obtain ⟨k, hk, hS, hle⟩ := hd (fun j => decide (u j = u m)) ⟨m, hm, by simp⟩
  simp only [decide_eq_true_eq] at hS hle
  have h1 := h k hk
  have h2 := hcs k hk
  have h3 : sm (s.l k) s.n ≤ sm (fun j => if u j = u m then s.l k j else 0) s.n + sm (fun j => s.l k j * (u k - u j)) s.n := by
    rw [← sm_add]
    refine sm_le fun j hj => ?_
    have p1 := ok.l0 k j hk hj
    have p2 := hmax j hj
    have p3 := Int.mul_nonneg p1 (show 0 ≤ u k - u j by omega)
    by_cases hz : u j = u m
    · rw [if_pos hz]; omega
    · have p4 := Int.mul_nonneg p1 (show 0 ≤ u k - u j - 1 by omega)
      rw [Int.mul_sub, Int.mul_one] at p4
      rw [if_neg hz]; omega
  have h4 : s.g k ≤ s.g k * u k := by
    have := Int.mul_nonneg (ok.g0 k hk) (show 0 ≤ u k - 1 by omega)
    rw [Int.mul_sub, Int.mul_one] at this; omega
  unfold SP.lap at h1
  unfold SP.lim at h2
  omega
def SP.Alike (s : SP) (a b : Nat → Int) : Prop := ∃ u : Nat → Int, ∀ i, i < s.n → b i = a i - s.lap u i
theorem burns_unique (ok : s.Ok) {c d : Nat → Int} (hcs : ∀ i, i < s.n → c i < s.lim i) (hds : ∀ i, i < s.n → d i < s.lim i) (hc : s.Burns c) (hd : s.Burns d) (h : s.Alike c d) : ∀ i, i < s.n → c i = d i := by
  obtain ⟨u, hu⟩ := h
  have h1 := burns_one ok hcs hd hu
  have h2 := burns_one ok (u := fun j => - u j) hds hc (fun i hi => by rw [lap_neg]; have := hu i hi; omega)
  intro i hi
  have h3 : s.lap u i = s.lap (fun _ => 0) i := lap_congr (fun j hj => by have := h1 j hj; have := h2 j hj; omega) hi
  rw [lap_zero] at h3
  have := hu i hi
  omega
theorem alike_refl (a : Nat → Int) : s.Alike a a := ⟨fun _ => 0, fun i _ => by rw [lap_zero]; omega⟩
theorem alike_symm {a b : Nat → Int} (h : s.Alike a b) : s.Alike b a := by
  obtain ⟨u, hu⟩ := h
  exact ⟨fun j => - u j, fun i hi => by rw [lap_neg]; have := hu i hi; omega⟩
theorem alike_trans {a b c : Nat → Int} (h : s.Alike a b) (h' : s.Alike b c) : s.Alike a c := by
  obtain ⟨u, hu⟩ := h
  obtain ⟨v, hv⟩ := h'
  exact ⟨fun j => u j + v j, fun i hi => by rw [lap_add]; have := hu i hi; have := hv i hi; (try dsimp only); omega⟩
theorem alike_add {a b c d : Nat → Int} (h : s.Alike a b) (h' : s.Alike c d) : s.Alike (fun i => a i + c i) fun i => b i + d i := by
  obtain ⟨u, hu⟩ := h
  obtain ⟨v, hv⟩ := h'
  exact ⟨fun j => u j + v j, fun i hi => by rw [lap_add]; have := hu i hi; have := hv i hi; (try dsimp only); omega⟩
theorem alike_mul {a b : Nat → Int} (k : Int) (h : s.Alike a b) : s.Alike (fun i => k * a i) fun i => k * b i := by
  obtain ⟨u, hu⟩ := h
  exact ⟨fun j => k * u j, fun i hi => by rw [lap_mul]; (try dsimp only); rw [hu i hi, Int.mul_sub]⟩
theorem alike_lft (a t : Nat → Int) : s.Alike a (s.lft a t) := ⟨t, fun _ _ => rfl⟩
theorem alike_congr {a b a' b' : Nat → Int} (ha : ∀ i, i < s.n → a i = a' i) (hb : ∀ i, i < s.n → b i = b' i) (h : s.Alike a b) : s.Alike a' b' := by
  obtain ⟨u, hu⟩ := h
  exact ⟨u, fun i hi => by rw [← ha i hi, ← hb i hi]; exact hu i hi⟩
theorem burns_congr {a a' : Nat → Int} (ha : ∀ i, i < s.n → a i = a' i) (h : s.Burns a) : s.Burns a' := fun S hS => by
  obtain ⟨i, h1, h2, h3⟩ := h S hS
  exact ⟨i, h1, h2, by rw [← ha i h1]; exact h3⟩
end Go.Ab.Heap
namespace Go.Ab.Heap
structure Hp where
  links : List (List Int)
  ground : List Int
def ata (a : List Int) (i : Nat) : Int := a.getD i 0
def lrow (h : Hp) (i : Nat) : List Int := h.links.getD i []
def lnk (h : Hp) (i k : Nat) : Int := (lrow h i).getD k 0
def gnd (h : Hp) (i : Nat) : Int := h.ground.getD i 0
def Hp.sp (h : Hp) : SP := ⟨h.ground.length, lnk h, gnd h⟩
def inR (x lo hi : Int) : Bool := decide (lo ≤ x) && decide (x ≤ hi)
def rowOk (h : Hp) (i : Nat) : Bool := (lrow h i).length == h.ground.length
def numOk (h : Hp) (i k : Nat) : Bool := inR (lnk h i k) 0 2 && lnk h i k == lnk h k i
def gndOk (h : Hp) (i : Nat) : Bool := inR (gnd h i) 0 2 && lnk h i i == 0
def okArg (h : Hp) : Bool := (decide (1 ≤ h.ground.length) && decide (h.ground.length ≤ 5) && h.links.length == h.ground.length) && (List.range h.ground.length).all (rowOk h) && (List.range h.ground.length).all fun i => gndOk h i && (List.range h.ground.length).all (numOk h i)
def atb (d : List Bool) (i : Nat) : Bool := d.getD i false
def inn (h : Hp) (d : List Bool) (i : Nat) : Nat → List Bool
  | 0 => d
  | k + 1 => (inn h d i k).set i (atb (inn h d i k) i || decide (0 < gnd h i) || atb (inn h d i k) k && decide (0 < lnk h i k))
def pas (h : Hp) (d : List Bool) : Nat → List Bool
  | 0 => d
  | i + 1 => inn h (pas h d i) i h.ground.length
def rnd (h : Hp) : Nat → List Bool
  | 0 => List.replicate h.ground.length false
  | r + 1 => pas h (rnd h r) h.ground.length
def innF (h : Hp) (d : List Bool) (i : Nat) : Nat → List Bool
  | 0 => d.set i (atb d i || decide (0 < gnd h i))
  | k + 1 => (innF h d i k).set i (atb (innF h d i k) i || atb (innF h d i k) k && decide (0 < lnk h i k))
def pasF (h : Hp) (d : List Bool) : Nat → List Bool
  | 0 => d
  | i + 1 => innF h (pasF h d i) i h.ground.length
def rndF (h : Hp) : Nat → List Bool
  | 0 => List.replicate h.ground.length false
  | r + 1 => pasF h (rndF h r) h.ground.length
def validate (h : Hp) : Int := if okArg h then (if (rnd h h.ground.length).contains false then 9 else 0) else 1
def validateF (h : Hp) : Int := if okArg h then (if (rndF h (h.ground.length + 1)).contains false then 9 else 0) else 1
theorem inn_len {h : Hp} {d : List Bool} {i : Nat} : ∀ k, (inn h d i k).length = d.length
  | 0 => rfl
  | k + 1 => by simp only [inn, List.length_set]; exact inn_len k
theorem pas_len {h : Hp} {d : List Bool} : ∀ i, (pas h d i).length = d.length
  | 0 => rfl
  | i + 1 => by simp only [pas]; rw [inn_len, pas_len i]
theorem rnd_len {h : Hp} : ∀ r, (rnd h r).length = h.ground.length
  | 0 => by simp [rnd]
  | r + 1 => by simp only [rnd]; rw [pas_len, rnd_len r]
theorem innF_len {h : Hp} {d : List Bool} {i : Nat} : ∀ k, (innF h d i k).length = d.length
  | 0 => by simp [innF]
  | k + 1 => by simp only [innF, List.length_set]; exact innF_len k
theorem pasF_len {h : Hp} {d : List Bool} : ∀ i, (pasF h d i).length = d.length
  | 0 => rfl
  | i + 1 => by simp only [pasF]; rw [innF_len, pasF_len i]
theorem rndF_len {h : Hp} : ∀ r, (rndF h r).length = h.ground.length
  | 0 => by simp [rndF]
  | r + 1 => by simp only [rndF]; rw [pasF_len, rndF_len r]
theorem atb_set {d : List Bool} {i j : Nat} {b : Bool} (hi : i < d.length) : atb (d.set i b) j = if j = i then b else atb d j := by
  unfold atb
  rw [List.getD_eq_getElem?_getD, List.getElem?_set, List.getD_eq_getElem?_getD]
  by_cases e : i = j
  · subst e; simp [hi]
  · rw [if_neg e, if_neg (Ne.symm e)]
def rk (s : SP) : Nat → Nat → Bool
  | 0, _ => false
  | r + 1, i => decide (0 < s.g i) || (List.range s.n).any fun k => rk s r k && decide (0 < s.l i k)
theorem rk_succ {s : SP} {r i : Nat} : rk s (r + 1) i = true ↔ 0 < s.g i ∨ ∃ k, k < s.n ∧ rk s r k = true ∧ 0 < s.l i k := by
  simp [rk, List.any_eq_true]
theorem rk_up {s : SP} : ∀ {r i : Nat}, rk s r i = true → rk s (r + 1) i = true
  | 0, _, h => by simp [rk] at h
  | r + 1, i, h => by
    rw [rk_succ] at h ⊢
    rcases h with h | ⟨k, h1, h2, h3⟩
    · exact .inl h
    · exact .inr ⟨k, h1, rk_up h2, h3⟩
theorem rk_le {s : SP} {r i : Nat} (h : rk s r i = true) : ∀ {q : Nat}, r ≤ q → rk s q i = true := by
  intro q hq
  induction q with
  | zero => have : r = 0 := by omega
            subst this; exact h
  | succ q ih =>
    by_cases e : r = q + 1
    · subst e; exact h
    · exact rk_up (ih (by omega))
theorem rk_stable {s : SP} {q : Nat} (h : ∀ i, i < s.n → rk s (q + 1) i = true → rk s q i = true) : ∀ i, s.Reach i → rk s q i = true := by
  intro i hi
  induction hi with
  | @ground i h1 h2 => exact h i h1 (rk_succ.2 (.inl h2))
  | @link i k h1 h2 _ h4 ih => exact h i h1 (rk_succ.2 (.inr ⟨k, h2, ih, h4⟩))
theorem rk_count {s : SP} : ∀ r, (∃ q, q ≤ r ∧ ∀ i, i < s.n → rk s (q + 1) i = true → rk s q i = true) ∨ r ≤ cnt (rk s r) s.n
  | 0 => .inr (Nat.zero_le _)
  | r + 1 => by
    rcases rk_count (s := s) r with ⟨q, h1, h2⟩ | h
    · exact .inl ⟨q, by omega, h2⟩
    · by_cases hs : ∀ i, i < s.n → rk s (r + 1) i = true → rk s r i = true
      · exact .inl ⟨r, by omega, hs⟩
      · simp only [Classical.not_forall] at hs
        obtain ⟨i, hi, h1, h2⟩ := hs
        have := cnt_lt (p := rk s r) (q := rk s (r + 1)) (k := i) (n := s.n) (fun _ _ => rk_up) hi (by simpa using h2) h1
        exact .inr (by omega)
theorem cnt_full {p : Nat → Bool} : ∀ {n : Nat}, n ≤ cnt p n → ∀ i, i < n → p i = true
  | 0, _, _, hi => by omega
  | n + 1, h, i, hi => by
    simp only [cnt] at h
    have h1 := cnt_le p n
    split at h
    · rename_i hp
      by_cases e : i = n
      · subst e; exact hp
      · exact cnt_full (n := n) (by omega) i (by omega)
    · omega
theorem reach_lt {s : SP} {i : Nat} (h : s.Reach i) : i < s.n := by cases h <;> assumption
theorem reach_rk {s : SP} {i : Nat} (h : s.Reach i) : rk s s.n i = true := by
  rcases rk_count (s := s) s.n with ⟨q, h1, h2⟩ | h1
  · exact rk_le (rk_stable h2 i h) h1
  · exact cnt_full h1 i (reach_lt h)
def Sound (h : Hp) (d : List Bool) : Prop := ∀ i, i < h.ground.length → atb d i = true → h.sp.Reach i
theorem sound_set {h : Hp} {d : List Bool} {i : Nat} {b : Bool} (hd : Sound h d) (hl : d.length = h.ground.length) (hi : i < h.ground.length) (hb : b = true → h.sp.Reach i) : Sound h (d.set i b) := fun j hj hjt => by
  rw [atb_set (by omega)] at hjt
  split at hjt
  · rename_i e; subst e; exact hb hjt
  · exact hd j hj hjt
theorem inn_sound {h : Hp} {d : List Bool} {i : Nat} (hd : Sound h d) (hl : d.length = h.ground.length) (hi : i < h.ground.length) : ∀ k, k ≤ h.ground.length → Sound h (inn h d i k)
  | 0, _ => hd
  | k + 1, hk => by
    have ih := inn_sound hd hl hi k (by omega)
    refine sound_set ih (by rw [inn_len, hl]) hi fun hb => ?_
    simp only [Bool.or_eq_true, Bool.and_eq_true, decide_eq_true_eq] at hb
    rcases hb with (h1 | h1) | ⟨h1, h2⟩
    · exact ih i hi h1
    · exact .ground hi h1
    · exact .link hi (show k < h.sp.n from by show k < h.ground.length; omega) (ih k (by omega) h1) h2
theorem innF_sound {h : Hp} {d : List Bool} {i : Nat} (hd : Sound h d) (hl : d.length = h.ground.length) (hi : i < h.ground.length) : ∀ k, k ≤ h.ground.length → Sound h (innF h d i k)
  | 0, _ => sound_set hd hl hi fun hb => by
    simp only [Bool.or_eq_true, decide_eq_true_eq] at hb
    rcases hb with h1 | h1
    · exact hd i hi h1
    · exact .ground hi h1
  | k + 1, hk => by
    have ih := innF_sound hd hl hi k (by omega)
    refine sound_set ih (by rw [innF_len, hl]) hi fun hb => ?_
    simp only [Bool.or_eq_true, Bool.and_eq_true, decide_eq_true_eq] at hb
    rcases hb with h1 | ⟨h1, h2⟩
    · exact ih i hi h1
    · exact .link hi (show k < h.sp.n from by show k < h.ground.length; omega) (ih k (by omega) h1) h2
theorem pas_sound {h : Hp} {d : List Bool} (hd : Sound h d) (hl : d.length = h.ground.length) : ∀ i, i ≤ h.ground.length → Sound h (pas h d i)
  | 0, _ => hd
  | i + 1, hi => inn_sound (pas_sound hd hl i (by omega)) (by rw [pas_len, hl]) (by omega) _ (Nat.le_refl _)
theorem pasF_sound {h : Hp} {d : List Bool} (hd : Sound h d) (hl : d.length = h.ground.length) : ∀ i, i ≤ h.ground.length → Sound h (pasF h d i)
  | 0, _ => hd
  | i + 1, hi => innF_sound (pasF_sound hd hl i (by omega)) (by rw [pasF_len, hl]) (by omega) _ (Nat.le_refl _)
theorem none_sound {h : Hp} : Sound h (List.replicate h.ground.length false) := fun i _ ht => by
  unfold atb at ht
  rw [List.getD_eq_getElem?_getD, List.getElem?_replicate] at ht
  split at ht <;> simp at ht
theorem rnd_sound {h : Hp} : ∀ r, Sound h (rnd h r)
  | 0 => none_sound
  | r + 1 => pas_sound (rnd_sound r) (rnd_len r) _ (Nat.le_refl _)
theorem rndF_sound {h : Hp} : ∀ r, Sound h (rndF h r)
  | 0 => none_sound
  | r + 1 => pasF_sound (rndF_sound r) (rndF_len r) _ (Nat.le_refl _)
def Keeps (n : Nat) (d d' : List Bool) : Prop := ∀ i, i < n → atb d i = true → atb d' i = true
theorem keeps_set {n : Nat} {d : List Bool} {i : Nat} {b : Bool} (hl : d.length = n) (hi : i < n) (hb : atb d i = true → b = true) : Keeps n d (d.set i b) := fun j _ h => by
  rw [atb_set (by omega)]
  split
  · rename_i e; subst e; exact hb h
  · exact h
theorem Keeps.trans {n : Nat} {a b c : List Bool} (h : Keeps n a b) (k : Keeps n b c) : Keeps n a c := fun i hi ha => k i hi (h i hi ha)
theorem Keeps.refl {n : Nat} {a : List Bool} : Keeps n a a := fun _ _ h => h
theorem inn_keeps {h : Hp} {d : List Bool} {i : Nat} (hl : d.length = h.ground.length) (hi : i < h.ground.length) : ∀ k, Keeps h.ground.length d (inn h d i k)
  | 0 => .refl
  | k + 1 => (inn_keeps hl hi k).trans (keeps_set (by rw [inn_len, hl]) hi fun h => by simp [h])
theorem innF_keeps {h : Hp} {d : List Bool} {i : Nat} (hl : d.length = h.ground.length) (hi : i < h.ground.length) : ∀ k, Keeps h.ground.length d (innF h d i k)
  | 0 => keeps_set hl hi fun h => by simp [h]
  | k + 1 => (innF_keeps hl hi k).trans (keeps_set (by rw [innF_len, hl]) hi fun h => by simp [h])
theorem pas_keeps {h : Hp} {d : List Bool} (hl : d.length = h.ground.length) : ∀ i, i ≤ h.ground.length → Keeps h.ground.length d (pas h d i)
  | 0, _ => .refl
  | i + 1, hi => (pas_keeps hl i (by omega)).trans (inn_keeps (by rw [pas_len, hl]) (by omega) _)
theorem pasF_keeps {h : Hp} {d : List Bool} (hl : d.length = h.ground.length) : ∀ i, i ≤ h.ground.length → Keeps h.ground.length d (pasF h d i)
  | 0, _ => .refl
  | i + 1, hi => (pasF_keeps hl i (by omega)).trans (innF_keeps (by rw [pasF_len, hl]) (by omega) _)
theorem inn_mid {h : Hp} {d : List Bool} {i : Nat} (hl : d.length = h.ground.length) (hi : i < h.ground.length) {k q : Nat} (hkq : k ≤ q) : Keeps h.ground.length (inn h d i k) (inn h d i q) := by
  induction q with
  | zero => have : k = 0 := by omega
            subst this; exact .refl
  | succ q ih =>
    by_cases e : k = q + 1
    · subst e; exact .refl
    · exact (ih (by omega)).trans (keeps_set (by rw [inn_len, hl]) hi fun h => by simp [h])
theorem innF_mid {h : Hp} {d : List Bool} {i : Nat} (hl : d.length = h.ground.length) (hi : i < h.ground.length) {k q : Nat} (hkq : k ≤ q) : Keeps h.ground.length (innF h d i k) (innF h d i q) := by
  induction q with
  | zero => have : k = 0 := by omega
            subst this; exact .refl
  | succ q ih =>
    by_cases e : k = q + 1
    · subst e; exact .refl
    · exact (ih (by omega)).trans (keeps_set (by rw [innF_len, hl]) hi fun h => by simp [h])
theorem pas_mid {h : Hp} {d : List Bool} (hl : d.length = h.ground.length) {k q : Nat} (hkq : k ≤ q) (hq : q ≤ h.ground.length) : Keeps h.ground.length (pas h d k) (pas h d q) := by
  induction q with
  | zero => have : k = 0 := by omega
            subst this; exact .refl
  | succ q ih =>
    by_cases e : k = q + 1
    · subst e; exact .refl
    · exact (ih (by omega) (by omega)).trans (inn_keeps (by rw [pas_len, hl]) (by omega) _)
theorem pasF_mid {h : Hp} {d : List Bool} (hl : d.length = h.ground.length) {k q : Nat} (hkq : k ≤ q) (hq : q ≤ h.ground.length) : Keeps h.ground.length (pasF h d k) (pasF h d q) := by
  induction q with
  | zero => have : k = 0 := by omega
            subst this; exact .refl
  | succ q ih =>
    by_cases e : k = q + 1
    · subst e; exact .refl
    · exact (ih (by omega) (by omega)).trans (innF_keeps (by rw [pasF_len, hl]) (by omega) _)
theorem pas_step {h : Hp} {d : List Bool} {r : Nat} (hl : d.length = h.ground.length) (hd : ∀ i, i < h.ground.length → rk h.sp r i = true → atb d i = true) : ∀ i, i < h.ground.length → rk h.sp (r + 1) i = true → atb (pas h d h.ground.length) i = true := fun i hi hr => by
  refine pas_mid hl (show i + 1 ≤ h.ground.length by omega) (Nat.le_refl _) i hi ?_
  have hl2 : (pas h d i).length = h.ground.length := by rw [pas_len, hl]
  have hk : Keeps h.ground.length d (pas h d i) := pas_keeps hl i (by omega)
  show atb (inn h (pas h d i) i h.ground.length) i = true
  rcases rk_succ.1 hr with hg | ⟨k, h1, h2, h3⟩
  · refine inn_mid hl2 hi (show 1 ≤ h.ground.length by omega) i hi ?_
    show atb ((inn h (pas h d i) i 0).set i _) i = true
    have hg' : 0 < gnd h i := hg
    rw [atb_set (by rw [inn_len, hl2]; exact hi), if_pos rfl]
    simp [hg']
  · have hk1 : k < h.ground.length := h1
    refine inn_mid hl2 hi (show k + 1 ≤ h.ground.length by omega) i hi ?_
    show atb ((inn h (pas h d i) i k).set i _) i = true
    have h3' : 0 < lnk h i k := h3
    have := inn_keeps hl2 hi k k hk1 (hk k hk1 (hd k hk1 h2))
    rw [atb_set (by rw [inn_len, hl2]; exact hi), if_pos rfl]
    simp [h3', this]
theorem pasF_step {h : Hp} {d : List Bool} {r : Nat} (hl : d.length = h.ground.length) (hd : ∀ i, i < h.ground.length → rk h.sp r i = true → atb d i = true) : ∀ i, i < h.ground.length → rk h.sp (r + 1) i = true → atb (pasF h d h.ground.length) i = true := fun i hi hr => by
  refine pasF_mid hl (show i + 1 ≤ h.ground.length by omega) (Nat.le_refl _) i hi ?_
  have hl2 : (pasF h d i).length = h.ground.length := by rw [pasF_len, hl]
  have hk : Keeps h.ground.length d (pasF h d i) := pasF_keeps hl i (by omega)
  show atb (innF h (pasF h d i) i h.ground.length) i = true
  rcases rk_succ.1 hr with hg | ⟨k, h1, h2, h3⟩
  · refine innF_mid hl2 hi (show 0 ≤ h.ground.length by omega) i hi ?_
    show atb ((pasF h d i).set i _) i = true
    have hg' : 0 < gnd h i := hg
    rw [atb_set (by rw [hl2]; exact hi), if_pos rfl]
    simp [hg']
  · have hk1 : k < h.ground.length := h1
    refine innF_mid hl2 hi (show k + 1 ≤ h.ground.length by omega) i hi ?_
    show atb ((innF h (pasF h d i) i k).set i _) i = true
    have h3' : 0 < lnk h i k := h3
    have := innF_keeps hl2 hi k k hk1 (hk k hk1 (hd k hk1 h2))
    rw [atb_set (by rw [innF_len, hl2]; exact hi), if_pos rfl]
    simp [h3', this]
theorem rnd_rk {h : Hp} : ∀ r i, i < h.ground.length → rk h.sp r i = true → atb (rnd h r) i = true
  | 0, _, _, hr => by simp [rk] at hr
  | r + 1, i, hi, hr => pas_step (rnd_len r) (fun j hj => rnd_rk r j hj) i hi hr
theorem rndF_rk {h : Hp} : ∀ r i, i < h.ground.length → rk h.sp r i = true → atb (rndF h r) i = true
  | 0, _, _, hr => by simp [rk] at hr
  | r + 1, i, hi, hr => pasF_step (rndF_len r) (fun j hj => rndF_rk r j hj) i hi hr
theorem no_false {d : List Bool} : d.contains false = false ↔ ∀ i, i < d.length → atb d i = true := by
  rw [Bool.eq_false_iff]
  simp only [ne_eq, List.contains_iff_mem]
  constructor
  · intro h i hi
    unfold atb
    rw [List.getD_eq_getElem?_getD, List.getElem?_eq_getElem hi]
    cases hb : d[i] with
    | true => simp
    | false => exact absurd (hb ▸ List.getElem_mem hi) h
  · intro h hm
    obtain ⟨i, hi, e⟩ := List.getElem_of_mem hm
    have := h i hi
    unfold atb at this
    rw [List.getD_eq_getElem?_getD, List.getElem?_eq_getElem hi, e] at this
    simp at this
theorem all_reach {h : Hp} : (rnd h h.ground.length).contains false = false ↔ ∀ i, i < h.ground.length → h.sp.Reach i := by
  rw [no_false, rnd_len]
  exact ⟨fun hh i hi => rnd_sound _ i hi (hh i hi), fun hh i hi => rnd_rk _ i hi (reach_rk (hh i hi))⟩
theorem all_reachF {h : Hp} : (rndF h (h.ground.length + 1)).contains false = false ↔ ∀ i, i < h.ground.length → h.sp.Reach i := by
  rw [no_false, rndF_len]
  exact ⟨fun hh i hi => rndF_sound _ i hi (hh i hi), fun hh i hi => rndF_rk _ i hi (rk_up (reach_rk (hh i hi)))⟩
theorem validate_same (h : Hp) : validateF h = validate h := by
  unfold validate validateF
  have : (rndF h (h.ground.length + 1)).contains false = (rnd h h.ground.length).contains false := by
    cases h1 : (rnd h h.ground.length).contains false with
    | false => exact all_reachF.2 (all_reach.1 h1)
    | true =>
      cases h2 : (rndF h (h.ground.length + 1)).contains false with
      | true => rfl
      | false => rw [all_reach.2 (all_reachF.1 h2)] at h1; cases h1
  rw [this]
structure VH (h : Hp) : Prop where
  n1 : 1 ≤ h.ground.length
  n5 : h.ground.length ≤ 5
  len : h.links.length = h.ground.length
  row : ∀ i, i < h.ground.length → (lrow h i).length = h.ground.length
  gb : ∀ i, i < h.ground.length → 0 ≤ gnd h i ∧ gnd h i ≤ 2
  dg : ∀ i, i < h.ground.length → lnk h i i = 0
  lb : ∀ i k, i < h.ground.length → k < h.ground.length → 0 ≤ lnk h i k ∧ lnk h i k ≤ 2
  sy : ∀ i k, i < h.ground.length → k < h.ground.length → lnk h i k = lnk h k i
  re : ∀ i, i < h.ground.length → h.sp.Reach i
theorem okArg_iff {h : Hp} : okArg h = true ↔ (1 ≤ h.ground.length ∧ h.ground.length ≤ 5 ∧ h.links.length = h.ground.length) ∧ (∀ i, i < h.ground.length → (lrow h i).length = h.ground.length) ∧ ∀ i, i < h.ground.length → (0 ≤ gnd h i ∧ gnd h i ≤ 2) ∧ lnk h i i = 0 ∧ ∀ k, k < h.ground.length → (0 ≤ lnk h i k ∧ lnk h i k ≤ 2) ∧ lnk h i k = lnk h k i := by
  simp only [okArg, rowOk, gndOk, numOk, inR, Bool.and_eq_true, decide_eq_true_eq, beq_iff_eq, List.all_eq_true, List.mem_range, and_assoc]
theorem vh_of {h : Hp} (e : validate h = 0) : VH h := by
  unfold validate at e
  split at e
  · rename_i ha
    split at e
    · cases e
    · rename_i hb
      obtain ⟨⟨a1, a2, a3⟩, a4, a5⟩ := okArg_iff.1 ha
      exact ⟨a1, a2, a3, a4, fun i hi => (a5 i hi).1, fun i hi => (a5 i hi).2.1, fun i k hi hk => ((a5 i hi).2.2 k hk).1, fun i k hi hk => ((a5 i hi).2.2 k hk).2, all_reach.1 (by simpa using hb)⟩
  · cases e
theorem VH.ok {h : Hp} (v : VH h) : h.sp.Ok := ⟨fun i k hi hk => (v.lb i k hi hk).1, v.sy, v.dg, fun i hi => (v.gb i hi).1, v.re⟩
theorem VH.get {h : Hp} (v : VH h) {i : Nat} (hi : i < h.ground.length) : h.links[i]? = some (lrow h i) := by
  unfold lrow
  rw [List.getD_eq_getElem?_getD, List.getElem?_eq_getElem (by rw [v.len]; exact hi)]; rfl
theorem VH.get2 {h : Hp} (v : VH h) {i k : Nat} (hi : i < h.ground.length) (hk : k < h.ground.length) : (lrow h i)[k]? = some (lnk h i k) := by
  unfold lnk
  rw [List.getD_eq_getElem?_getD (l := lrow h i), List.getElem?_eq_getElem (by rw [v.row i hi]; exact hk)]; rfl
theorem gnd_get {h : Hp} {i : Nat} (hi : i < h.ground.length) : h.ground[i]? = some (gnd h i) := by
  unfold gnd
  rw [List.getD_eq_getElem?_getD, List.getElem?_eq_getElem hi]; rfl
theorem ata_get {a : List Int} {i : Nat} (hi : i < a.length) : a[i]? = some (ata a i) := by
  unfold ata
  rw [List.getD_eq_getElem?_getD, List.getElem?_eq_getElem hi]; rfl
theorem ata_mk {n : Nat} {f : Nat → Int} {i : Nat} (hi : i < n) : ata ((List.range n).map f) i = f i := by
  unfold ata
  simp [List.getD_eq_getElem?_getD, hi]
theorem list_ext {n : Nat} {a : List Int} {f : Nat → Int} (hl : a.length = n) (h : ∀ i, i < n → ata a i = f i) : a = (List.range n).map f := by
  apply List.ext_getElem
  · simp [hl]
  · intro i h1 h2
    have := h i (by omega)
    unfold ata at this
    rw [List.getD_eq_getElem?_getD, List.getElem?_eq_getElem h1] at this
    simpa using this
theorem ata_ext {n : Nat} {a b : List Int} (ha : a.length = n) (hb : b.length = n) (h : ∀ i, i < n → ata a i = ata b i) : a = b :=
  (list_ext ha h).trans (list_ext hb fun _ _ => rfl).symm
theorem ata_set {a : List Int} {i j : Nat} {x : Int} (hi : i < a.length) : ata (a.set i x) j = if j = i then x else ata a j := by
  unfold ata
  rw [List.getD_eq_getElem?_getD, List.getElem?_set, List.getD_eq_getElem?_getD]
  by_cases e : i = j
  · subst e; simp [hi]
  · rw [if_neg e, if_neg (Ne.symm e)]
theorem VH.lim1 {h : Hp} (v : VH h) {i : Nat} (hi : i < h.ground.length) : 1 ≤ h.sp.lim i := lim_pos v.ok hi
theorem VH.lim12 {h : Hp} (v : VH h) {i : Nat} (hi : i < h.ground.length) : h.sp.lim i ≤ 12 := by
  have h1 := (v.gb i hi).2
  have h2 : sm (h.sp.l i) h.sp.n ≤ sm (fun _ => 2) h.sp.n := sm_le fun k hk => (v.lb i k hi hk).2
  rw [sm_const] at h2
  have h3 := v.n5
  have : (h.sp.n : Int) ≤ 5 := by show (h.ground.length : Int) ≤ 5; omega
  unfold SP.lim
  have : h.sp.g i = gnd h i := rfl
  omega
end Go.Ab.Heap
namespace Go.Ab.Heap
def topL (h : Hp) (c : List Int) (i : Nat) (k : Int) : List Int := (List.range h.ground.length).map fun j => ata c j - (if j = i then k * h.sp.lim i else 0) + k * lnk h i j
structure SInv (h : Hp) (a c t : List Int) : Prop where
  lc : c.length = h.ground.length
  lt : t.length = h.ground.length
  le : h.sp.Legal (ata a) (ata t)
  eq : ∀ i, i < h.ground.length → ata c i = h.sp.lft (ata a) (ata t) i
  c0 : ∀ i, i < h.ground.length → 0 ≤ ata c i
theorem ata_repl {n i : Nat} {x : Int} (hi : i < n) : ata (List.replicate n x) i = x := by
  unfold ata
  rw [List.getD_eq_getElem?_getD, List.getElem?_replicate, if_pos hi]; rfl
theorem SInv.start {h : Hp} {a : List Int} (hl : a.length = h.ground.length) (h0 : ∀ i, i < h.ground.length → 0 ≤ ata a i) : SInv h a a (List.replicate h.ground.length 0) where
  lc := hl
  lt := by simp
  le := legal_congr (fun _ _ => rfl) (fun i hi => (ata_repl hi).symm) legal_zero
  eq := fun i hi => by
    unfold SP.lft
    rw [lap_congr (s := h.sp) (u := ata (List.replicate h.ground.length 0)) (v := fun _ => 0) (fun j hj => ata_repl hj) hi, lap_zero]; omega
  c0 := h0
theorem lap_one (h : Hp) (v : VH h) {i : Nat} (hi : i < h.ground.length) (k : Int) {j : Nat} (hj : j < h.ground.length) : h.sp.lap (fun q => if q = i then k else 0) j = (if j = i then k * h.sp.lim i else 0) - k * lnk h i j := by
  rw [lap_eq]
  have e : sm (fun q => h.sp.l j q * (if q = i then k else 0)) h.sp.n = k * lnk h i j := by
    have e1 : (fun q => h.sp.l j q * (if q = i then k else 0)) = fun q => if q = i then k * lnk h j q else 0 := by
      funext q
      split
      · rw [Int.mul_comm]; rfl
      · simp
    rw [e1]
    have : ∀ m, sm (fun q => if q = i then k * lnk h j q else 0) m = if i < m then k * lnk h j i else 0 := by
      intro m
      induction m with
      | zero => simp [sm]
      | succ m ih =>
        simp only [sm]
        rw [ih]
        by_cases e : m = i
        · subst e; simp
        · rw [if_neg e]
          by_cases e2 : i < m
          · rw [if_pos e2, if_pos (by omega)]; omega
          · rw [if_neg e2, if_neg (by omega)]; omega
    rw [this, if_pos (show i < h.sp.n from hi), v.sy j i hj hi]
  rw [e]
  split
  · rename_i e; subst e; rw [Int.mul_comm]
  · simp
theorem topL_len {h : Hp} {c : List Int} {i : Nat} {k : Int} : (topL h c i k).length = h.ground.length := by simp [topL]
theorem topL_at {h : Hp} {c : List Int} {i j : Nat} {k : Int} (hj : j < h.ground.length) : ata (topL h c i k) j = ata c j - (if j = i then k * h.sp.lim i else 0) + k * lnk h i j := ata_mk hj
theorem topL_lft {h : Hp} (v : VH h) {c : List Int} {i j : Nat} {k : Int} (hi : i < h.ground.length) (hj : j < h.ground.length) : ata (topL h c i k) j = h.sp.lft (ata c) (fun q => if q = i then k else 0) j := by
  rw [topL_at hj]
  unfold SP.lft
  rw [lap_one h v hi k hj]; omega
theorem SInv.step {h : Hp} (v : VH h) {a c t : List Int} (I : SInv h a c t) {i : Nat} (hi : i < h.ground.length) {k : Int} (h0 : 0 ≤ k) (hk : k * h.sp.lim i ≤ ata c i) : SInv h a (topL h c i k) (t.set i (ata t i + k)) := by
  have et : ∀ j, ata (t.set i (ata t i + k)) j = ata t j + (if j = i then k else 0) := fun j => by
    rw [ata_set (by rw [I.lt]; exact hi)]
    split
    · rename_i e; subst e; rfl
    · omega
  refine ⟨topL_len, by simp [I.lt], ?_, fun j hj => ?_, fun j hj => ?_⟩
  · refine legal_congr (fun _ _ => rfl) (fun j hj => (et j).symm) (legal_more I.le (t' := fun j => if j = i then k else 0) ?_)
    exact legal_congr (fun j hj => I.eq j hj) (fun _ _ => rfl) (legal_one v.ok (a := ata c) hi h0 hk (lim_pos v.ok hi))
  · rw [topL_lft v hi hj]
    unfold SP.lft
    rw [I.eq j hj]
    unfold SP.lft
    rw [lap_congr (s := h.sp) (v := fun q => ata t q + if q = i then k else 0) (fun q _ => et q) hj, lap_add]; omega
  · rw [topL_at hj]
    have h1 := I.c0 j hj
    have h2 := Int.mul_nonneg h0 (v.lb i j hi hj).1
    split
    · rename_i e; subst e; omega
    · omega
theorem SInv.sum {h : Hp} (v : VH h) {a c t : List Int} (I : SInv h a c t) : sm (ata c) h.ground.length ≤ sm (ata a) h.ground.length := by
  rw [sm_congr I.eq]
  exact left_sum v.ok I.le.1
theorem SInv.bd {h : Hp} (v : VH h) {a c t : List Int} (I : SInv h a c t) (h0 : ∀ i, i < h.ground.length → 0 ≤ ata a i) {A : Int} (hA : sm (ata a) h.ground.length ≤ A) : ∀ i, i < h.ground.length → 0 ≤ ata t i ∧ ata t i ≤ h.ground.length * A := fun i hi =>
  ⟨I.le.1 i hi, often v.ok (a := ata a) (t := ata t) I.le.1 h0 hA (fun j hj => by have := I.c0 j hj; rw [I.eq j hj] at this; exact this) i hi⟩
theorem SInv.cb {h : Hp} (v : VH h) {a c t : List Int} (I : SInv h a c t) {A : Int} (hA : sm (ata a) h.ground.length ≤ A) : ∀ i, i < h.ground.length → 0 ≤ ata c i ∧ ata c i ≤ A := fun i hi =>
  ⟨I.c0 i hi, Int.le_trans (sm_ge_at (f := ata c) (n := h.ground.length) I.c0 hi) (Int.le_trans (I.sum v) hA)⟩
def calmB (h : Hp) (c : List Int) : Prop := ∀ i, i < h.ground.length → ata c i < h.sp.lim i
theorem SInv.isStl {h : Hp} {a c t : List Int} (I : SInv h a c t) (hc : calmB h c) : h.sp.Stl (ata a) (ata t) :=
  ⟨⟨I.le.1, fun i hi => by rw [← I.eq i hi]; exact hc i hi⟩, I.le⟩
def smeas (h : Hp) (a t : List Int) : Nat := (h.ground.length * (h.ground.length * sm (ata a) h.ground.length) - sm (ata t) h.ground.length).toNat
theorem sm_set {t : List Int} {n i : Nat} {x : Int} (hl : t.length = n) (hi : i < n) : sm (ata (t.set i x)) n = sm (ata t) n + (x - ata t i) := by
  have : ∀ m, m ≤ n → sm (ata (t.set i x)) m = sm (ata t) m + if i < m then x - ata t i else 0 := by
    intro m
    induction m with
    | zero => intro _; simp [sm]
    | succ m ih =>
      intro hm
      simp only [sm]
      rw [ih (by omega), ata_set (by omega)]
      by_cases e : m = i
      · subst e; rw [if_pos rfl, if_neg (by omega), if_pos (by omega)]; omega
      · rw [if_neg e]
        by_cases e2 : i < m
        · rw [if_pos e2, if_pos (by omega)]; omega
        · rw [if_neg e2, if_neg (by omega)]; omega
  rw [this n (Nat.le_refl _), if_pos hi]
theorem SInv.tsum {h : Hp} (v : VH h) {a c t : List Int} (I : SInv h a c t) (h0 : ∀ i, i < h.ground.length → 0 ≤ ata a i) : sm (ata t) h.ground.length ≤ h.ground.length * (h.ground.length * sm (ata a) h.ground.length) := by
  have := sm_le (f := ata t) (g := fun _ => h.ground.length * sm (ata a) h.ground.length) (n := h.ground.length) fun i hi => (I.bd v h0 (Int.le_refl _) i hi).2
  rwa [sm_const] at this
theorem smeas_lt {h : Hp} (v : VH h) {a c t : List Int} (I : SInv h a c t) (h0 : ∀ i, i < h.ground.length → 0 ≤ ata a i) {i : Nat} (hi : i < h.ground.length) {k : Int} (h1 : 1 ≤ k) (hk : k * h.sp.lim i ≤ ata c i) : smeas h a (t.set i (ata t i + k)) < smeas h a t := by
  have h2 := (I.step v hi (by omega) hk).tsum v h0
  have h3 := sm_set (x := ata t i + k) I.lt hi
  unfold smeas
  omega
theorem stl_ex {h : Hp} (v : VH h) {a : List Int} (h0 : ∀ i, i < h.ground.length → 0 ≤ ata a i) : ∀ (m : Nat) {c t : List Int}, SInv h a c t → smeas h a t ≤ m → ∃ c t, SInv h a c t ∧ calmB h c
  | m, c, t, I, hm => by
    by_cases hc : calmB h c
    · exact ⟨c, t, I, hc⟩
    · simp only [calmB, Classical.not_forall] at hc
      obtain ⟨i, hi, hlt⟩ := hc
      have hk : (1 : Int) * h.sp.lim i ≤ ata c i := by omega
      have h2 := smeas_lt v I h0 hi (Int.le_refl _) hk
      match m with
      | 0 => omega
      | m + 1 => exact stl_ex v h0 m (I.step v hi (by omega) hk) (by omega)
open Classical in
noncomputable def stlT (h : Hp) (a : List Int) : List Int := if e : ∃ t : List Int, t.length = h.ground.length ∧ h.sp.Stl (ata a) (ata t) then e.choose else []
noncomputable def stl (h : Hp) (a : List Int) : List Int := (List.range h.ground.length).map (h.sp.lft (ata a) (ata (stlT h a)))
theorem SInv.done {h : Hp} {a c t : List Int} (I : SInv h a c t) (hc : calmB h c) : stl h a = c ∧ stlT h a = t := by
  have ht : stlT h a = t := by
    have e : ∃ t : List Int, t.length = h.ground.length ∧ h.sp.Stl (ata a) (ata t) := ⟨t, I.lt, I.isStl hc⟩
    have hd : stlT h a = e.choose := by unfold stlT; rw [dif_pos e]
    rw [hd]
    exact ata_ext e.choose_spec.1 I.lt fun i hi => stl_unique e.choose_spec.2 (I.isStl hc) i hi
  refine ⟨?_, ht⟩
  unfold stl
  rw [ht]
  exact (list_ext I.lc I.eq).symm
structure Hpg (h : Hp) (a : List Int) : Prop where
  len : a.length = h.ground.length
  nn : ∀ i, i < h.ground.length → 0 ≤ ata a i
theorem stl_spec {h : Hp} (v : VH h) {a : List Int} (ha : Hpg h a) : SInv h a (stl h a) (stlT h a) ∧ calmB h (stl h a) := by
  obtain ⟨c, t, I, hc⟩ := stl_ex v ha.nn _ (SInv.start ha.len ha.nn) (Nat.le_refl _)
  obtain ⟨e1, e2⟩ := I.done hc
  rw [e1, e2]
  exact ⟨I, hc⟩
theorem stl_hpg {h : Hp} (v : VH h) {a : List Int} (ha : Hpg h a) : Hpg h (stl h a) := ⟨(stl_spec v ha).1.lc, (stl_spec v ha).1.c0⟩
theorem stl_lt {h : Hp} (v : VH h) {a : List Int} (ha : Hpg h a) : calmB h (stl h a) := (stl_spec v ha).2
theorem stl_stl {h : Hp} (v : VH h) {a : List Int} (ha : Hpg h a) : h.sp.Stl (ata a) (ata (stlT h a)) := (stl_spec v ha).1.isStl (stl_spec v ha).2
theorem stl_alike {h : Hp} (v : VH h) {a : List Int} (ha : Hpg h a) : h.sp.Alike (ata a) (ata (stl h a)) :=
  alike_congr (fun _ _ => rfl) (fun i hi => ((stl_spec v ha).1.eq i hi).symm) (alike_lft (ata a) (ata (stlT h a)))
def addL (h : Hp) (a b : List Int) : List Int := (List.range h.ground.length).map fun i => ata a i + ata b i
theorem addL_at {h : Hp} {a b : List Int} {i : Nat} (hi : i < h.ground.length) : ata (addL h a b) i = ata a i + ata b i := ata_mk hi
theorem addL_hpg {h : Hp} {a b : List Int} (ha : Hpg h a) (hb : Hpg h b) : Hpg h (addL h a b) := ⟨by simp [addL], fun i hi => by rw [addL_at hi]; have := ha.nn i hi; have := hb.nn i hi; omega⟩
def Rec (h : Hp) (c : List Int) : Prop := calmB h c ∧ h.sp.Burns (ata c)
theorem rec_unique {h : Hp} (v : VH h) {c d : List Int} (hc : Hpg h c) (hd : Hpg h d) (rc : Rec h c) (rd : Rec h d) (ha : h.sp.Alike (ata c) (ata d)) : c = d :=
  ata_ext hc.len hd.len (burns_unique v.ok rc.1 rd.1 rc.2 rd.2 ha)
theorem rec_stl {h : Hp} (v : VH h) {c : Nat → Int} {a : List Int} (hc : h.sp.Burns c) (ha : Hpg h a) (hca : ∀ i, i < h.ground.length → c i ≤ ata a i) : Rec h (stl h a) := by
  obtain ⟨I, hs⟩ := stl_spec v ha
  exact ⟨hs, burns_congr (fun i hi => (I.eq i hi).symm) (burns_more v.ok hc hca (stl_stl v ha))⟩
theorem rec_big {h : Hp} (v : VH h) {a : List Int} (ha : Hpg h a) (hb : ∀ i, i < h.ground.length → h.sp.lim i - 1 ≤ ata a i) : Rec h (stl h a) := rec_stl v (burns_full v.ok) ha hb
def fullL (h : Hp) (k : Int) : List Int := (List.range h.ground.length).map fun i => k * h.sp.lim i
noncomputable def nothingL (h : Hp) : List Int := (List.range h.ground.length).map fun i => ata (fullL h 4) i - ata (stl h (fullL h 4)) i
noncomputable def lastL (h : Hp) (a : List Int) : List Int := stl h (addL h a (nothingL h))
theorem fullL_at {h : Hp} {k : Int} {i : Nat} (hi : i < h.ground.length) : ata (fullL h k) i = k * h.sp.lim i := ata_mk hi
theorem fullL_hpg {h : Hp} (v : VH h) {k : Int} (hk : 0 ≤ k) : Hpg h (fullL h k) := ⟨by simp [fullL], fun i hi => by rw [fullL_at hi]; exact Int.mul_nonneg hk (by have := v.lim1 hi; omega)⟩
theorem nothing_at {h : Hp} {i : Nat} (hi : i < h.ground.length) : ata (nothingL h) i = ata (fullL h 4) i - ata (stl h (fullL h 4)) i := ata_mk hi
theorem nothing_big {h : Hp} (v : VH h) {i : Nat} (hi : i < h.ground.length) : 3 * h.sp.lim i + 1 ≤ ata (nothingL h) i ∧ ata (nothingL h) i ≤ 48 := by
  have h1 := stl_lt v (fullL_hpg v (k := 4) (by omega)) i hi
  have h2 := (stl_hpg v (fullL_hpg v (k := 4) (by omega))).nn i hi
  have h3 := v.lim12 hi
  rw [nothing_at hi, fullL_at hi]; omega
theorem nothing_hpg {h : Hp} (v : VH h) : Hpg h (nothingL h) := ⟨by simp [nothingL], fun i hi => by have := nothing_big v hi; have := v.lim1 hi; omega⟩
theorem diff_alike {h : Hp} (v : VH h) {a : List Int} (ha : Hpg h a) : h.sp.Alike (fun i => ata a i - ata (stl h a) i) fun _ => 0 := by
  obtain ⟨u, hu⟩ := stl_alike v ha
  exact ⟨u, fun i hi => by have := hu i hi; (try dsimp only); omega⟩
theorem nothing_alike {h : Hp} (v : VH h) : h.sp.Alike (ata (nothingL h)) fun _ => 0 :=
  alike_congr (fun i hi => (nothing_at hi).symm) (fun _ _ => rfl) (diff_alike v (fullL_hpg v (k := 4) (by omega)))
theorem last_spec {h : Hp} (v : VH h) {a : List Int} (ha : Hpg h a) : Hpg h (lastL h a) ∧ Rec h (lastL h a) ∧ h.sp.Alike (ata a) (ata (lastL h a)) := by
  have hn := nothing_hpg v
  refine ⟨stl_hpg v (addL_hpg ha hn), rec_big v (addL_hpg ha hn) fun i hi => ?_, ?_⟩
  · rw [addL_at hi]
    have := ha.nn i hi; have := nothing_big v hi; have := v.lim1 hi; omega
  · refine alike_trans ?_ (stl_alike v (addL_hpg ha hn))
    have := alike_add (alike_refl (s := h.sp) (ata a)) (alike_symm (nothing_alike v))
    exact alike_congr (fun i _ => by (try dsimp only); omega) (fun i hi => (addL_at hi).symm) this
theorem last_alike {h : Hp} (v : VH h) {a b : List Int} (ha : Hpg h a) (hb : Hpg h b) : lastL h a = lastL h b ↔ h.sp.Alike (ata a) (ata b) := by
  obtain ⟨a1, a2, a3⟩ := last_spec v ha
  obtain ⟨b1, b2, b3⟩ := last_spec v hb
  constructor
  · intro e; rw [← e] at b3; exact alike_trans a3 (alike_symm b3)
  · intro hab; exact rec_unique v a1 b1 a2 b2 (alike_trans (alike_symm a3) (alike_trans hab b3))
def burnsAt (h : Hp) (a : List Int) (B : Nat → Bool) (i : Nat) : Bool := decide (sm (fun k => if B k then 0 else lnk h i k) h.ground.length ≤ ata a i)
def nextB (h : Hp) (a : List Int) (B : Nat → Bool) : List Nat := (List.range h.ground.length).filter fun i => !B i && burnsAt h a B i
end Go.Ab.Heap
namespace Go.Ab.Heap
abbrev Mat := Nat → Nat → Int
def sgn (k : Nat) : Int := if k % 2 = 0 then 1 else -1
def skp (k j : Nat) : Nat := if j < k then j else j + 1
def mnr (M : Mat) (k : Nat) : Mat := fun i j => M (i + 1) (skp k j)
def det : Nat → Mat → Int
  | 0, _ => 1
  | n + 1, M => sm (fun k => sgn k * M 0 k * det n (mnr M k)) (n + 1)
theorem sgn_succ (k : Nat) : sgn (k + 1) = - sgn k := by
  unfold sgn
  split <;> split <;> omega
theorem skp_lt {k j n : Nat} (h : j < n) : skp k j < n + 1 := by unfold skp; split <;> omega
theorem skp_ne {k j : Nat} : skp k j ≠ k := by unfold skp; split <;> omega
theorem det_congr : ∀ {n : Nat} {M N : Mat}, (∀ i j, i < n → j < n → M i j = N i j) → det n M = det n N
  | 0, _, _, _ => rfl
  | n + 1, M, N, h => by
    simp only [det]
    refine sm_congr fun k hk => ?_
    rw [h 0 k (by omega) hk, det_congr (M := mnr M k) (N := mnr N k) fun i j hi hj => h _ _ (by omega) (skp_lt hj)]
def colS (M : Mat) (c : Nat) (v : Nat → Int) : Mat := fun i j => if j = c then v i else M i j
def cpl (c k : Nat) : Nat := if c < k then c else c - 1
theorem mnr_colS_same (M : Mat) (c : Nat) (v : Nat → Int) : mnr (colS M c v) c = mnr M c := by
  funext i j
  simp only [mnr, colS, if_neg skp_ne]
theorem mnr_colS (M : Mat) {c k : Nat} (v : Nat → Int) (h : k ≠ c) : mnr (colS M c v) k = colS (mnr M k) (cpl c k) fun i => v (i + 1) := by
  funext i j
  simp only [mnr, colS, skp, cpl]
  by_cases h1 : j < k <;> by_cases h2 : c < k <;> simp only [h1, h2, if_true, if_false]
  all_goals (split <;> split <;> first | rfl | omega)
theorem cpl_lt {c k n : Nat} (hc : c < n + 1) (hk : k < n + 1) (h : k ≠ c) : cpl c k < n := by unfold cpl; split <;> omega
theorem det_lin : ∀ {n : Nat} {M : Mat} {c : Nat} {x y : Int} {v w : Nat → Int}, c < n → det n (colS M c fun i => x * v i + y * w i) = x * det n (colS M c v) + y * det n (colS M c w)
  | 0, _, _, _, _, _, _, h => by omega
  | n + 1, M, c, x, y, v, w, hc => by
    simp only [det]
    rw [← sm_mul, ← sm_mul, ← sm_add]
    refine sm_congr fun k hk => ?_
    by_cases e : k = c
    · subst e
      rw [mnr_colS_same, mnr_colS_same, mnr_colS_same]
      simp only [colS, if_true]
      simp only [Int.mul_add, Int.add_mul, Int.mul_assoc, Int.mul_left_comm]
    · rw [mnr_colS _ _ e, mnr_colS _ _ e, mnr_colS _ _ e, det_lin (M := mnr M k) (cpl_lt hc hk e)]
      simp only [colS, if_neg e]
      simp only [Int.mul_add, Int.mul_assoc, Int.mul_left_comm]
theorem colS_self (M : Mat) (c : Nat) : colS M c (fun i => M i c) = M := by
  funext i j
  unfold colS
  split
  · rename_i e; subst e; rfl
  · rfl
theorem sm_two {f : Nat → Int} {c : Nat} : ∀ {n : Nat}, c + 1 < n → (∀ k, k < n → k ≠ c → k ≠ c + 1 → f k = 0) → f c + f (c + 1) = 0 → sm f n = 0
  | 0, h, _, _ => by omega
  | n + 1, h, hz, hs => by
    simp only [sm]
    by_cases e : c + 1 = n
    · subst e
      simp only [sm]
      have : sm f c = sm (fun _ => 0) c := sm_congr fun i hi => hz i (by omega) (by omega) (by omega)
      rw [this, sm_zero]; omega
    · rw [sm_two (by omega) (fun k hk h1 h2 => hz k (by omega) h1 h2) hs, hz n (by omega) (by omega) (by omega)]; rfl
theorem det_adj : ∀ {n : Nat} {M : Mat} {c : Nat}, c + 1 < n → (∀ i, i < n → M i c = M i (c + 1)) → det n M = 0
  | 0, _, _, h, _ => by omega
  | n + 1, M, c, h, he => by
    simp only [det]
    refine sm_two (c := c) h (fun k hk h1 h2 => ?_) ?_
    · have : det n (mnr M k) = 0 := by
        refine det_adj (c := cpl c k) ?_ fun i hi => ?_
        · unfold cpl; split <;> omega
        · have := he (i + 1) (by omega)
          have s1 : skp k (cpl c k) = c := by unfold skp cpl; (repeat' split) <;> omega
          have s2 : skp k (cpl c k + 1) = c + 1 := by unfold skp cpl; (repeat' split) <;> omega
          simp only [mnr, s1, s2]; exact this
      rw [this, Int.mul_zero]
    · have e : det n (mnr M c) = det n (mnr M (c + 1)) := det_congr fun i j hi hj => by
        simp only [mnr, skp]
        have := he (i + 1) (by omega)
        by_cases h1 : j < c
        · rw [if_pos h1, if_pos (by omega)]
        · by_cases h2 : j = c
          · subst h2; rw [if_neg h1, if_pos (by omega)]; exact this.symm
          · rw [if_neg h1, if_neg (by omega)]
      rw [e, sgn_succ, he 0 (by omega), Int.neg_mul, Int.neg_mul]; omega
def swp (M : Mat) (c : Nat) : Mat := fun i j => if j = c then M i (c + 1) else if j = c + 1 then M i c else M i j
theorem det_swp {n : Nat} {M : Mat} {c : Nat} (h : c + 1 < n) : det n (swp M c) = - det n M := by
  have A : ∀ u v : Nat → Int, det n (colS (colS M c u) (c + 1) v) + det n (colS (colS M c v) (c + 1) u) = 0 := fun u v => by
    have z : ∀ w : Nat → Int, det n (colS (colS M c w) (c + 1) w) = 0 := fun w => det_adj h fun i _ => by simp [colS]
    have comm : ∀ a b : Nat → Int, colS (colS M c a) (c + 1) b = colS (colS M (c + 1) b) c a := fun a b => by
      funext i j
      unfold colS
      split
      · rename_i e; subst e; rw [if_neg (by omega)]
      · rfl
    have l1 : ∀ a b d : Nat → Int, det n (colS (colS M c d) (c + 1) fun i => 1 * a i + 1 * b i) = 1 * det n (colS (colS M c d) (c + 1) a) + 1 * det n (colS (colS M c d) (c + 1) b) := fun a b d => det_lin h
    have l2 : ∀ a b d : Nat → Int, det n (colS (colS M c fun i => 1 * a i + 1 * b i) (c + 1) d) = 1 * det n (colS (colS M c a) (c + 1) d) + 1 * det n (colS (colS M c b) (c + 1) d) := fun a b d => by
      rw [comm, comm, comm]; exact det_lin (by omega)
    have := z fun i => 1 * u i + 1 * v i
    rw [l1, l2, l2, z, z] at this
    omega
  have := A (fun i => M i (c + 1)) (fun i => M i c)
  have e1 : colS (colS M c fun i => M i (c + 1)) (c + 1) (fun i => M i c) = swp M c := by
    funext i j
    unfold colS swp
    by_cases e : j = c + 1
    · subst e; rw [if_pos rfl, if_neg (by omega), if_pos rfl]
    · rw [if_neg e]; by_cases e2 : j = c
      · rw [if_pos e2, if_pos e2]
      · rw [if_neg e2, if_neg e2, if_neg e]
  have e2 : colS (colS M c fun i => M i c) (c + 1) (fun i => M i (c + 1)) = M := by
    funext i j
    unfold colS
    split
    · rename_i e; subst e; rfl
    · split
      · rename_i e; subst e; rfl
      · rfl
  rw [e1, e2] at this
  omega
theorem det_same {n : Nat} : ∀ (d : Nat) {M : Mat} {p : Nat}, p + d + 1 < n → (∀ i, i < n → M i p = M i (p + d + 1)) → det n M = 0
  | 0, _, _, h, he => det_adj h he
  | d + 1, M, p, h, he => by
    have := det_swp (n := n) (M := M) (c := p + d + 1) (by omega)
    have z : det n (swp M (p + d + 1)) = 0 := det_same d (p := p) (by omega) fun i hi => by
      unfold swp
      rw [if_neg (by omega), if_neg (by omega), if_pos (by omega)]
      exact he i hi
    omega
theorem det_two {n : Nat} {M : Mat} {p q : Nat} (hp : p < n) (hq : q < n) (h : p ≠ q) (he : ∀ i, i < n → M i p = M i q) : det n M = 0 := by
  rcases Nat.lt_or_ge p q with h1 | h1
  · exact det_same (q - p - 1) (p := p) (by omega) fun i hi => by rw [show p + (q - p - 1) + 1 = q by omega]; exact he i hi
  · exact det_same (p - q - 1) (p := q) (by omega) fun i hi => by rw [show q + (p - q - 1) + 1 = p by omega]; exact (he i hi).symm
theorem det_col0 {n : Nat} {M : Mat} {c : Nat} (hc : c < n) : det n (colS M c fun _ => 0) = 0 := by
  have := det_lin (n := n) (M := M) (c := c) (x := 0) (y := 0) (v := fun _ => 0) (w := fun _ => 0) hc
  simpa using this
theorem det_mix {n : Nat} {M : Mat} {c : Nat} (hc : c < n) (s : Nat → Int) : det n (colS M c fun i => sm (fun j => s j * M i j) n) = s c * det n M := by
  have : ∀ m, m ≤ n → det n (colS M c fun i => sm (fun j => s j * M i j) m) = if c < m then s c * det n M else 0 := by
    intro m
    induction m with
    | zero => intro _; simp only [sm]; rw [det_col0 hc]; simp
    | succ m ih =>
      intro hm
      have e : (fun i => sm (fun j => s j * M i j) (m + 1)) = fun i => 1 * sm (fun j => s j * M i j) m + s m * M i m := by
        funext i; simp only [sm, Int.one_mul]
      rw [e, det_lin hc, ih (by omega)]
      by_cases h1 : c = m
      · subst h1
        rw [if_neg (by omega), if_pos (by omega), colS_self]; omega
      · have z : det n (colS M c fun i => M i m) = 0 := det_two hc (by omega) h1 fun i _ => by simp [colS, Ne.symm h1]
        rw [z]
        by_cases h2 : c < m
        · rw [if_pos h2, if_pos (by omega)]; omega
        · rw [if_neg h2, if_neg (by omega)]; omega
  rw [this n (Nat.le_refl _), if_pos hc]
theorem cramer {n : Nat} {M : Mat} {c : Nat} (hc : c < n) {s v : Nat → Int} (h : ∀ i, i < n → sm (fun j => s j * M i j) n = v i) : det n (colS M c v) = s c * det n M := by
  rw [← det_mix hc s]
  refine det_congr fun i j hi _ => ?_
  unfold colS
  split
  · exact (h i hi).symm
  · rfl
def elim (M : Mat) : Mat := fun i j => M 0 0 * M (i + 1) (j + 1) - M 0 (j + 1) * M (i + 1) 0
def elK (M : Mat) (k : Nat) : Mat := fun i j => if 0 < j ∧ j ≤ k then M 0 0 * M i j - M 0 j * M i 0 else M i j
theorem det_elK {n : Nat} {M : Mat} : ∀ k, k ≤ n → det (n + 1) (elK M k) = M 0 0 ^ k * det (n + 1) M
  | 0, _ => by
    have : elK M 0 = M := by funext i j; simp only [elK]; rw [if_neg (by omega)]
    rw [this]; simp
  | k + 1, hk => by
    have e : elK M (k + 1) = colS (elK M k) (k + 1) fun i => M 0 0 * M i (k + 1) + (- M 0 (k + 1)) * M i 0 := by
      funext i j
      simp only [elK, colS]
      by_cases h : j = k + 1
      · subst h; rw [if_pos (by omega), if_pos rfl]; rw [Int.neg_mul]; rfl
      · rw [if_neg h]
        by_cases h2 : 0 < j ∧ j ≤ k
        · rw [if_pos h2, if_pos (by omega)]
        · rw [if_neg h2, if_neg (by omega)]
    rw [e, det_lin (by omega)]
    have e1 : colS (elK M k) (k + 1) (fun i => M i (k + 1)) = elK M k := by
      have : (fun i => M i (k + 1)) = fun i => elK M k i (k + 1) := by funext i; simp only [elK]; rw [if_neg (by omega)]
      rw [this, colS_self]
    have e2 : det (n + 1) (colS (elK M k) (k + 1) fun i => M i 0) = 0 := det_two (p := k + 1) (q := 0) (by omega) (by omega) (by omega) fun i _ => by
      simp only [colS, elK, if_true]
      rw [if_neg (by omega), if_neg (by omega)]
    rw [e1, e2, det_elK k (by omega), Int.pow_succ]; grind
theorem sm_first {f : Nat → Int} : ∀ {n : Nat}, (∀ k, 0 < k → k < n + 1 → f k = 0) → sm f (n + 1) = f 0
  | 0, _ => by simp [sm]
  | n + 1, h => by
    simp only [sm]
    have := sm_first (n := n) fun k h1 h2 => h k h1 (by omega)
    simp only [sm] at this
    rw [this, h (n + 1) (by omega) (by omega)]; omega
theorem chio (n : Nat) (M : Mat) : M 0 0 ^ n * det (n + 1) M = M 0 0 * det n (elim M) := by
  rw [← det_elK n (Nat.le_refl _)]
  simp only [det]
  rw [sm_first fun k h1 h2 => by
    simp only [elK]
    rw [if_pos (by omega), Int.mul_comm (M 0 k)]; simp]
  have e : det n (mnr (elK M n) 0) = det n (elim M) := det_congr fun i j hi hj => by
    have s1 : skp 0 j = j + 1 := by unfold skp; rw [if_neg (by omega)]
    simp only [mnr, elK, elim, s1]
    rw [if_pos (by omega)]
  rw [e]
  have : elK M n 0 0 = M 0 0 := by simp only [elK]; rw [if_neg (by omega)]
  rw [this]; simp [sgn]
def bord (M : Mat) (i k c : Nat) : Mat := fun r q => M (if r < i then r else k) (if q < i then q else c)
def bm (M : Mat) (i k c : Nat) : Int := det (i + 1) (bord M i k c)
theorem bm_zero (M : Mat) (k c : Nat) : bm M 0 k c = M k c := by
  simp [bm, det, bord, sm, sgn]
theorem bm_elim {M : Mat} (h : M 0 0 ≠ 0) (i k c : Nat) : M 0 0 ^ i * bm M (i + 1) (k + 1) (c + 1) = bm (elim M) i k c := by
  have h1 := chio (i + 1) (bord M (i + 1) (k + 1) (c + 1))
  have e0 : bord M (i + 1) (k + 1) (c + 1) 0 0 = M 0 0 := by simp [bord]
  have e1 : det (i + 1) (elim (bord M (i + 1) (k + 1) (c + 1))) = bm (elim M) i k c := det_congr fun r q _ _ => by
    simp only [elim, bord]
    by_cases h1 : r < i <;> by_cases h2 : q < i <;> simp [h1, h2]
  rw [e0, e1, Int.pow_succ, Int.mul_comm (M 0 0 ^ i), Int.mul_assoc] at h1
  exact Int.eq_of_mul_eq_mul_left h h1
theorem det_elim (M : Mat) (i : Nat) : M 0 0 ^ i * det (i + 1) M = M 0 0 * det i (elim M) := chio i M
def Piv : Nat → Mat → Prop
  | 0, _ => True
  | n + 1, M => M 0 0 ≠ 0 ∧ Piv n (elim M)
theorem jacobi : ∀ (i : Nat) {M : Mat}, Piv i M → ∀ k c, i ≤ k → i ≤ c → bm M i k c * bm M i i i - bm M i k i * bm M i i c = bm M (i + 1) k c * det i M
  | 0, M, _, k, c, _, _ => by
    simp only [bm_zero, det, Int.mul_one]
    simp only [bm, det, sm, bord, mnr, skp, sgn]
    simp
    grind
  | i + 1, M, hp, k, c, hk, hc => by
    obtain ⟨k, rfl⟩ : ∃ k', k = k' + 1 := ⟨k - 1, by omega⟩
    obtain ⟨c, rfl⟩ : ∃ c', c = c' + 1 := ⟨c - 1, by omega⟩
    have ih := jacobi i hp.2 k c (by omega) (by omega)
    rw [← bm_elim hp.1, ← bm_elim hp.1, ← bm_elim hp.1, ← bm_elim hp.1, ← bm_elim hp.1] at ih
    have hd := det_elim M i
    have hne : M 0 0 ^ (2 * i + 1) ≠ 0 := Int.pow_ne_zero hp.1
    refine Int.eq_of_mul_eq_mul_left hne ?_
    generalize M 0 0 = p at *
    generalize bm M (i + 1) (k + 1) (c + 1) = A at *
    generalize bm M (i + 1) (i + 1) (i + 1) = B at *
    generalize bm M (i + 1) (k + 1) (i + 1) = C at *
    generalize bm M (i + 1) (i + 1) (c + 1) = D at *
    generalize bm M (i + 1 + 1) (k + 1) (c + 1) = F at *
    generalize det (i + 1) M = G at *
    generalize det i (elim M) = H at *
    have e1 : p ^ (2 * i + 1) * (A * B - C * D) = p * (p ^ i * A * (p ^ i * B) - p ^ i * C * (p ^ i * D)) := by
      rw [Int.pow_succ, Nat.two_mul, Int.pow_add]; grind
    rw [e1, ih]
    have e2 : p ^ (2 * i + 1) * (F * G) = p ^ (i + 1) * F * (p ^ i * G) := by
      rw [Int.pow_succ, Int.pow_succ, Nat.two_mul, Int.pow_add]; grind
    rw [e2, hd]; grind
theorem bm_last (M : Mat) (n : Nat) : bm M n n n = det (n + 1) M := det_congr fun r q hr hq => by
  unfold bord
  congr 1 <;> split <;> omega
inductive MReach (n : Nat) (M : Mat) : Nat → Prop
  | ground {i : Nat} : i < n → 0 < sm (M i) n → MReach n M i
  | link {i k : Nat} : i < n → k < n → i ≠ k → MReach n M k → M i k < 0 → MReach n M i
structure KM (n : Nat) (M : Mat) : Prop where
  off : ∀ i j, i < n → j < n → i ≠ j → M i j ≤ 0
  row : ∀ i, i < n → 0 ≤ sm (M i) n
  re : ∀ i, i < n → MReach n M i
theorem sm_head {f : Nat → Int} : ∀ {n : Nat}, sm f (n + 1) = f 0 + sm (fun i => f (i + 1)) n
  | 0 => by simp [sm]
  | n + 1 => by
    have := sm_head (f := f) (n := n)
    simp only [sm] at this ⊢
    omega
theorem KM.pos {n : Nat} {M : Mat} (h : KM (n + 1) M) : 0 < M 0 0 := by
  have hs := sm_head (f := M 0) (n := n)
  have neg : sm (fun i => M 0 (i + 1)) n ≤ 0 := by
    have := sm_le (f := fun i => M 0 (i + 1)) (g := fun _ => 0) (n := n) fun i hi => h.off 0 (i + 1) (by omega) (by omega) (by omega)
    rwa [sm_zero] at this
  cases h.re 0 (by omega) with
  | ground _ hg => omega
  | @link _ k _ hk hne _ hl =>
    obtain ⟨k, rfl⟩ : ∃ k', k = k' + 1 := ⟨k - 1, by omega⟩
    have h0 := h.row 0 (by omega)
    have := sm_le_at (f := fun i => M 0 (i + 1)) (g := fun _ => 0) (d := - M 0 (k + 1)) (k := k) (n := n) (fun i hi => h.off 0 (i + 1) (by omega) (by omega) (by omega)) (by omega) (by (try dsimp only); omega)
    rw [sm_zero] at this
    omega
theorem elim_row {n : Nat} {M : Mat} (i : Nat) : sm (elim M i) n = M 0 0 * sm (M (i + 1)) (n + 1) - M (i + 1) 0 * sm (M 0) (n + 1) := by
  have e1 : sm (elim M i) n = M 0 0 * sm (fun j => M (i + 1) (j + 1)) n - M (i + 1) 0 * sm (fun j => M 0 (j + 1)) n := by
    rw [← sm_mul, ← sm_mul, ← sm_sub]
    exact sm_congr fun j _ => by simp only [elim]; rw [Int.mul_comm (M 0 (j + 1))]
  rw [e1, sm_head (f := M (i + 1)), sm_head (f := M 0)]; grind
theorem KM.elm {n : Nat} {M : Mat} (h : KM (n + 1) M) : KM n (elim M) := by
  have hp := h.pos
  have low : ∀ i j, i < n → j < n → i ≠ j → Heap.elim M i j ≤ M 0 0 * M (i + 1) (j + 1) ∧ Heap.elim M i j ≤ - (M 0 (j + 1) * M (i + 1) 0) := fun i j hi hj hne => by
    have h1 := h.off (i + 1) (j + 1) (by omega) (by omega) (by omega)
    have h2 := h.off 0 (j + 1) (by omega) (by omega) (by omega)
    have h3 := h.off (i + 1) 0 (by omega) (by omega) (by omega)
    have h4 : 0 ≤ M 0 (j + 1) * M (i + 1) 0 := Int.mul_nonneg_of_nonpos_of_nonpos h2 h3
    have h5 : 0 ≤ M 0 0 * (- M (i + 1) (j + 1)) := Int.mul_nonneg (by omega) (by omega)
    rw [Int.mul_neg] at h5
    simp only [Heap.elim]; omega
  have rows : ∀ i, i < n → M 0 0 * sm (M (i + 1)) (n + 1) ≤ sm (Heap.elim M i) n ∧ (- M (i + 1) 0) * sm (M 0) (n + 1) ≤ sm (Heap.elim M i) n := fun i hi => by
    rw [elim_row]
    have h1 := Int.mul_nonneg (Int.le_of_lt hp) (h.row (i + 1) (by omega))
    have h2 := Int.mul_nonneg (show 0 ≤ - M (i + 1) 0 by have := h.off (i + 1) 0 (by omega) (by omega) (by omega); omega) (h.row 0 (by omega))
    rw [Int.neg_mul] at h2 ⊢
    omega
  refine ⟨fun i j hi hj hne => ?_, fun i hi => ?_, fun i hi => ?_⟩
  · have h1 := (low i j hi hj hne).1
    have h2 : 0 ≤ M 0 0 * (- M (i + 1) (j + 1)) := Int.mul_nonneg (by omega) (by have := h.off (i + 1) (j + 1) (by omega) (by omega) (by omega); omega)
    rw [Int.mul_neg] at h2; omega
  · have := Int.mul_nonneg (Int.le_of_lt hp) (h.row (i + 1) (by omega))
    have := (rows i hi).1; omega
  · have key : ∀ i, MReach (n + 1) M i → (i = 0 → 0 < sm (M 0) (n + 1) ∨ ∃ j, j < n ∧ M 0 (j + 1) < 0 ∧ MReach n (Heap.elim M) j) ∧ ∀ i', i = i' + 1 → MReach n (Heap.elim M) i' := by
      intro i hi
      induction hi with
      | @ground i h1 h2 =>
        refine ⟨fun e => .inl (e ▸ h2), fun i' e => ?_⟩
        subst e
        have := Int.mul_pos hp h2
        exact .ground (by omega) (by have := (rows i' (by omega)).1; omega)
      | @link i k h1 h2 hne _ h4 ih =>
        refine ⟨fun e => ?_, fun i' e => ?_⟩
        · subst e
          obtain ⟨k, rfl⟩ : ∃ k', k = k' + 1 := ⟨k - 1, by omega⟩
          exact .inr ⟨k, by omega, h4, ih.2 k rfl⟩
        · subst e
          by_cases hk : k = 0
          · subst hk
            rcases ih.1 rfl with h5 | ⟨j, j1, j2, j3⟩
            · have := Int.mul_pos (show 0 < - M (i' + 1) 0 by omega) h5
              exact .ground (by omega) (by have := (rows i' (by omega)).2; omega)
            · by_cases e : i' = j
              · subst e; exact j3
              · have := Int.mul_pos (show 0 < - M 0 (j + 1) by omega) (show 0 < - M (i' + 1) 0 by omega)
                rw [Int.neg_mul_neg] at this
                exact .link (by omega) j1 e j3 (by have := (low i' j (by omega) j1 e).2; omega)
          · obtain ⟨k, rfl⟩ : ∃ k', k = k' + 1 := ⟨k - 1, by omega⟩
            have := Int.mul_pos hp (show 0 < - M (i' + 1) (k + 1) by omega)
            rw [Int.mul_neg] at this
            exact .link (by omega) (by omega) (by omega) (ih.2 k rfl) (by have := (low i' k (by omega) (by omega) (by omega)).1; omega)
    exact (key (i + 1) (h.re (i + 1) (by omega))).2 i rfl
theorem KM.piv : ∀ {n : Nat} {M : Mat}, KM n M → Piv n M
  | 0, _, _ => trivial
  | n + 1, _, h => ⟨by have := h.pos; omega, h.elm.piv⟩
theorem Piv.le : ∀ {n m : Nat} {M : Mat}, Piv n M → m ≤ n → Piv m M
  | _, 0, _, _, _ => trivial
  | 0, m + 1, _, _, h => by omega
  | n + 1, m + 1, _, hp, h => ⟨hp.1, hp.2.le (by omega)⟩
theorem KM.det_pos : ∀ {n : Nat} {M : Mat}, KM n M → ∀ i, i ≤ n → 0 < det i M
  | _, _, _, 0, _ => by simp [det]
  | 0, _, _, i + 1, h => by omega
  | n + 1, M, h, i + 1, hi => by
    have h1 := h.elm.det_pos i (by omega)
    have h2 := det_elim M i
    have h3 := Int.mul_pos h.pos h1
    rw [← h2] at h3
    have h4 : 0 < M 0 0 ^ i := Int.pow_pos h.pos
    refine Classical.byContradiction fun hh => ?_
    have := Int.mul_nonneg (Int.le_of_lt h4) (show 0 ≤ - det (i + 1) M by omega)
    rw [Int.mul_neg] at this; omega
theorem KM.solve : ∀ {n : Nat} {M : Mat}, KM n M → ∀ v : Nat → Int, ∃ (N : Int) (u : Nat → Int), 0 < N ∧ ∀ i, i < n → sm (fun j => u j * M i j) n = N * v i
  | 0, _, _, _ => ⟨1, fun _ => 0, by omega, fun i hi => by omega⟩
  | n + 1, M, h, v => by
    obtain ⟨N, u, hN, hu⟩ := h.elm.solve fun i => M 0 0 * v (i + 1) - M (i + 1) 0 * v 0
    refine ⟨M 0 0 * N, fun j => match j with | 0 => N * v 0 - sm (fun j => u j * M 0 (j + 1)) n | j + 1 => M 0 0 * u j, Int.mul_pos h.pos hN, fun i hi => ?_⟩
    rw [sm_head]
    dsimp only
    have e1 : ∀ i, sm (fun j => M 0 0 * u j * M i (j + 1)) n = M 0 0 * sm (fun j => u j * M i (j + 1)) n := fun i => by
      rw [← sm_mul]; exact sm_congr fun j _ => by rw [Int.mul_assoc]
    rw [e1]
    cases i with
    | zero => grind
    | succ i =>
      have h1 := hu i (by omega)
      have e2 : sm (fun j => u j * Heap.elim M i j) n = M 0 0 * sm (fun j => u j * M (i + 1) (j + 1)) n - M (i + 1) 0 * sm (fun j => u j * M 0 (j + 1)) n := by
        rw [← sm_mul, ← sm_mul, ← sm_sub]
        refine sm_congr fun j _ => ?_
        simp only [Heap.elim]; grind
      rw [e2] at h1
      grind
theorem KM.cramer_back {n : Nat} {M : Mat} (h : KM n M) (v : Nat → Int) : ∀ i, i < n → sm (fun j => det n (colS M j v) * M i j) n = det n M * v i := by
  obtain ⟨N, u, hN, hu⟩ := h.solve v
  intro i hi
  have e : ∀ c, c < n → N * det n (colS M c v) = u c * det n M := fun c hc => by
    have h1 := cramer (M := M) hc (s := u) (v := fun i => N * v i) hu
    have h2 := det_lin (n := n) (M := M) (c := c) (x := N) (y := 0) (v := v) (w := v) hc
    simp only [Int.zero_mul, Int.add_zero] at h2
    rw [← h2]; exact h1
  refine Int.eq_of_mul_eq_mul_left (show N ≠ 0 by omega) ?_
  rw [← sm_mul]
  have e2 : sm (fun j => N * (det n (colS M j v) * M i j)) n = sm (fun j => det n M * (u j * M i j)) n := sm_congr fun j hj => by
    rw [← Int.mul_assoc, e j hj]; grind
  rw [e2, sm_mul, hu i hi]; grind
def dbd (B : Int) : Nat → Int
  | 0 => 1
  | n + 1 => (n + 1 : Nat) * (B * dbd B n)
theorem mul_abs {a b A B : Int} (h1 : -A ≤ a) (h2 : a ≤ A) (h3 : -B ≤ b) (h4 : b ≤ B) : -(A * B) ≤ a * b ∧ a * b ≤ A * B := by
  have p1 : 0 ≤ (A - a) * (B - b) := Int.mul_nonneg (by omega) (by omega)
  have p2 : 0 ≤ (A + a) * (B + b) := Int.mul_nonneg (by omega) (by omega)
  have p3 : 0 ≤ (A - a) * (B + b) := Int.mul_nonneg (by omega) (by omega)
  have p4 : 0 ≤ (A + a) * (B - b) := Int.mul_nonneg (by omega) (by omega)
  simp only [Int.sub_mul, Int.mul_sub, Int.add_mul, Int.mul_add] at p1 p2 p3 p4
  omega
theorem det_bd {B : Int} (hB : 0 ≤ B) : ∀ {n : Nat} {M : Mat}, (∀ i j, i < n → j < n → -B ≤ M i j ∧ M i j ≤ B) → -dbd B n ≤ det n M ∧ det n M ≤ dbd B n
  | 0, _, _ => by simp [det, dbd]
  | n + 1, M, h => by
    have term : ∀ k, k < n + 1 → -(B * dbd B n) ≤ sgn k * M 0 k * det n (mnr M k) ∧ sgn k * M 0 k * det n (mnr M k) ≤ B * dbd B n := fun k hk => by
      obtain ⟨a1, a2⟩ := h 0 k (by omega) hk
      obtain ⟨b1, b2⟩ := det_bd hB (n := n) (M := mnr M k) fun i j hi hj => h (i + 1) _ (by omega) (skp_lt hj)
      have hs : -B ≤ sgn k * M 0 k ∧ sgn k * M 0 k ≤ B := by unfold sgn; split <;> omega
      exact mul_abs hs.1 hs.2 b1 b2
    have h1 := sm_le (f := fun k => sgn k * M 0 k * det n (mnr M k)) (g := fun _ => B * dbd B n) (n := n + 1) fun k hk => (term k hk).2
    have h2 := sm_le (f := fun _ => -(B * dbd B n)) (g := fun k => sgn k * M 0 k * det n (mnr M k)) (n := n + 1) fun k hk => (term k hk).1
    rw [sm_const] at h1 h2
    rw [Int.mul_neg] at h2
    exact ⟨h2, h1⟩
end Go.Ab.Heap
namespace Go.Ab.Heap
def inB (out : List Nat) (k : Nat) : Bool := out.contains k
theorem inB_iff {out : List Nat} {k : Nat} : inB out k = true ↔ k ∈ out := by simp [inB]
theorem inB_app {a b : List Nat} {k : Nat} : inB (a ++ b) k = (inB a k || inB b k) := by simp [inB]
def frees (h : Hp) (out : List Nat) : Nat := ((List.range h.ground.length).filter fun i => !inB out i).length
theorem filter_split {α : Type} (p q : α → Bool) : ∀ l : List α, (l.filter p).length = (l.filter fun x => p x && q x).length + (l.filter fun x => p x && !q x).length
  | [] => rfl
  | x :: l => by
    have := filter_split p q l
    cases hp : p x <;> cases hq : q x <;> simp [List.filter_cons, hp, hq, this] <;> omega
theorem nextB_mem {h : Hp} {a : List Int} {B : Nat → Bool} {i : Nat} : i ∈ nextB h a B ↔ i < h.ground.length ∧ B i = false ∧ burnsAt h a B i = true := by
  unfold nextB
  simp only [List.mem_filter, List.mem_range, Bool.and_eq_true, Bool.not_eq_true']
theorem frees_step (h : Hp) (a : List Int) (out : List Nat) : frees h (out ++ nextB h a (inB out)) + (nextB h a (inB out)).length = frees h out := by
  have h1 := filter_split (fun i => !inB out i) (burnsAt h a (inB out)) (List.range h.ground.length)
  have h2 : frees h (out ++ nextB h a (inB out)) = ((List.range h.ground.length).filter fun i => (!inB out i) && !burnsAt h a (inB out) i).length := by
    unfold frees
    congr 1
    refine List.filter_congr fun i hi => ?_
    rw [inB_app]
    have hi2 : i < h.ground.length := by simpa using hi
    have : inB (nextB h a (inB out)) i = (!inB out i && burnsAt h a (inB out) i) := by
      rw [Bool.eq_iff_iff, inB_iff, nextB_mem]
      simp [hi2]
    rw [this]
    cases inB out i <;> cases burnsAt h a (inB out) i <;> rfl
  rw [h2]
  unfold frees
  rw [h1]
  have h3 : (nextB h a (inB out)).length = ((List.range h.ground.length).filter fun i => (!inB out i) && burnsAt h a (inB out) i).length := rfl
  omega
def burnF (h : Hp) (a : List Int) : Nat → List Nat → List Nat
  | 0, out => out
  | m + 1, out => if nextB h a (inB out) = [] then out else burnF h a m (out ++ nextB h a (inB out))
theorem burnF_nil {h : Hp} {a : List Int} {out : List Nat} (e : nextB h a (inB out) = []) : ∀ m, burnF h a m out = out
  | 0 => rfl
  | m + 1 => by simp [burnF, e]
theorem burnF_fuel {h : Hp} {a : List Int} : ∀ (m m' : Nat) (out : List Nat), frees h out ≤ m → frees h out ≤ m' → burnF h a m out = burnF h a m' out := by
  intro m
  induction m with
  | zero =>
    intro m' out h1 _
    have h2 := frees_step h a out
    have e : nextB h a (inB out) = [] := List.eq_nil_of_length_eq_zero (by omega)
    rw [burnF_nil e, burnF_nil e]
  | succ m ih =>
    intro m' out h1 h2
    by_cases e : nextB h a (inB out) = []
    · rw [burnF_nil e, burnF_nil e]
    · have h3 := frees_step h a out
      have h4 : 0 < (nextB h a (inB out)).length := List.length_pos_iff.2 e
      cases m' with
      | zero => omega
      | succ m' =>
        simp only [burnF, if_neg e]
        exact ih m' _ (by omega) (by omega)
def burnN (h : Hp) (a : List Int) : List Nat := burnF h a h.ground.length []
structure Bst (h : Hp) (a : List Int) (out : List Nat) : Prop where
  cnt : out.length + frees h out = h.ground.length
  eq : burnF h a (frees h out) out = burnN h a
  lt : ∀ i ∈ out, i < h.ground.length
theorem frees_nil (h : Hp) : frees h [] = h.ground.length := by
  unfold frees
  rw [List.filter_eq_self.2 (fun i _ => by simp [inB])]; simp
theorem Bst.start (h : Hp) (a : List Int) : Bst h a [] := ⟨by rw [frees_nil]; simp, by rw [frees_nil]; rfl, fun i hi => by cases hi⟩
theorem Bst.step {h : Hp} {a : List Int} {out : List Nat} (b : Bst h a out) (e : nextB h a (inB out) ≠ []) : Bst h a (out ++ nextB h a (inB out)) := by
  have h3 := frees_step h a out
  have h4 : 0 < (nextB h a (inB out)).length := List.length_pos_iff.2 e
  refine ⟨by have := b.cnt; simp only [List.length_append]; omega, ?_, fun i hi => ?_⟩
  · rw [← b.eq]
    obtain ⟨k, hk⟩ : ∃ k, frees h out = k + 1 := ⟨frees h out - 1, by omega⟩
    rw [hk]
    simp only [burnF, if_neg e]
    exact burnF_fuel _ _ _ (Nat.le_refl _) (by omega)
  · rcases List.mem_append.1 hi with h1 | h1
    · exact b.lt i h1
    · exact (nextB_mem.1 h1).1
theorem Bst.stop {h : Hp} {a : List Int} {out : List Nat} (b : Bst h a out) (e : nextB h a (inB out) = []) : burnN h a = out := by
  rw [← b.eq, burnF_nil e]
def FPr (h : Hp) (a : List Int) (out : List Nat) : Prop := ∀ S : Nat → Bool, (∃ i, i ∈ out ∧ S i = true) → ∃ i, i < h.ground.length ∧ S i = true ∧ sm (fun j => if S j then lnk h i j else 0) h.ground.length ≤ ata a i
theorem FPr.step {h : Hp} (v : VH h) {a : List Int} {out : List Nat} (f : FPr h a out) : FPr h a (out ++ nextB h a (inB out)) := by
  intro S ⟨i, hi, hS⟩
  by_cases ho : ∃ i, i ∈ out ∧ S i = true
  · exact f S ho
  · rcases List.mem_append.1 hi with h1 | h1
    · exact absurd ⟨i, h1, hS⟩ ho
    · obtain ⟨h2, _, h4⟩ := nextB_mem.1 h1
      refine ⟨i, h2, hS, Int.le_trans (sm_le fun j hj => ?_) (of_decide_eq_true h4)⟩
      have h5 := (v.lb i j h2 hj).1
      cases hb : inB out j
      · simp only [Bool.false_eq_true, if_false]
        split <;> omega
      · have : S j = false := by
          cases hs : S j
          · rfl
          · exact absurd ⟨j, inB_iff.1 hb, hs⟩ ho
        simp [this]
theorem burn_ex {h : Hp} (v : VH h) {a : List Int} : ∀ (m : Nat) (out : List Nat), frees h out ≤ m → Bst h a out → FPr h a out → ∃ out, Bst h a out ∧ FPr h a out ∧ nextB h a (inB out) = [] := by
  intro m
  induction m with
  | zero =>
    intro out h1 b f
    have h2 := frees_step h a out
    exact ⟨out, b, f, List.eq_nil_of_length_eq_zero (by omega)⟩
  | succ m ih =>
    intro out h1 b f
    by_cases e : nextB h a (inB out) = []
    · exact ⟨out, b, f, e⟩
    · have h3 := frees_step h a out
      have h4 : 0 < (nextB h a (inB out)).length := List.length_pos_iff.2 e
      exact ih _ (by omega) (b.step e) (f.step v)
theorem burn_spec {h : Hp} (v : VH h) (a : List Int) : Bst h a (burnN h a) ∧ FPr h a (burnN h a) ∧ nextB h a (inB (burnN h a)) = [] := by
  obtain ⟨out, b, f, e⟩ := burn_ex v (a := a) _ [] (Nat.le_refl _) (Bst.start h a) (fun S ⟨i, hi, _⟩ => by cases hi)
  rw [b.stop e]
  exact ⟨b, f, e⟩
theorem frees_zero {h : Hp} {out : List Nat} : frees h out = 0 ↔ ∀ i, i < h.ground.length → inB out i = true := by
  unfold frees
  rw [List.length_eq_zero_iff, List.filter_eq_nil_iff]
  simp
theorem burn_all {h : Hp} (v : VH h) (a : List Int) : (burnN h a).length = h.ground.length ↔ h.sp.Burns (ata a) := by
  obtain ⟨b, f, e⟩ := burn_spec v a
  have hc := b.cnt
  constructor
  · intro hl
    have h0 := frees_zero.1 (show frees h (burnN h a) = 0 by omega)
    exact fun S ⟨i, hi, hS⟩ => f S ⟨i, inB_iff.1 (h0 i hi), hS⟩
  · intro hb
    have : frees h (burnN h a) = 0 := by
      rw [frees_zero]
      intro i hi
      cases hx : inB (burnN h a) i
      · obtain ⟨k, hk, hS, hle⟩ := hb (fun j => !inB (burnN h a) j) ⟨i, hi, by simp [hx]⟩
        have : k ∈ nextB h a (inB (burnN h a)) := by
          rw [nextB_mem]
          refine ⟨hk, by simpa using hS, ?_⟩
          unfold burnsAt
          rw [decide_eq_true_eq]
          refine Int.le_trans (Int.le_of_eq (sm_congr fun j _ => ?_)) hle
          cases inB (burnN h a) j <;> rfl
        rw [e] at this
        cases this
      · rfl
    omega
theorem sm_one {i : Nat} {x : Int} : ∀ n, sm (fun q => if q = i then x else 0) n = if i < n then x else 0
  | 0 => by simp [sm]
  | m + 1 => by
    simp only [sm]
    rw [sm_one m]
    by_cases e : m = i
    · subst e; simp
    · rw [if_neg e]
      by_cases e2 : i < m
      · rw [if_pos e2, if_pos (by omega)]; omega
      · rw [if_neg e2, if_neg (by omega)]; omega
def hM (h : Hp) : Mat := fun i j => if j = i then h.sp.lim i else - lnk h i j
theorem hM_lap {h : Hp} (v : VH h) (u : Nat → Int) {i : Nat} (hi : i < h.ground.length) : sm (fun j => u j * hM h i j) h.ground.length = h.sp.lap u i := by
  rw [lap_eq]
  have e : sm (fun j => u j * hM h i j) h.ground.length = sm (fun j => (if j = i then h.sp.lim i * u i else 0) - h.sp.l i j * u j) h.ground.length := sm_congr fun j hj => by
    unfold hM
    by_cases e : j = i
    · subst e
      have : h.sp.l j j = 0 := v.dg j hj
      rw [if_pos rfl, if_pos rfl, this, Int.zero_mul, Int.mul_comm]; omega
    · rw [if_neg e, if_neg e]
      show u j * - lnk h i j = 0 - lnk h i j * u j
      rw [Int.mul_neg, Int.mul_comm]; omega
  rw [e, sm_sub, sm_one, if_pos hi]; rfl
theorem hM_row {h : Hp} (v : VH h) {i : Nat} (hi : i < h.ground.length) : sm (hM h i) h.ground.length = gnd h i := by
  have h1 := hM_lap v (fun _ => 1) hi
  simp only [Int.one_mul] at h1
  have h2 : h.sp.lap (fun _ => 1) i = gnd h i := by
    unfold SP.lap
    simp only [Int.mul_one, Int.sub_self, Int.mul_zero]
    rw [sm_zero]
    show gnd h i + 0 = gnd h i
    omega
  rw [← h2, ← h1]
theorem hM_km {h : Hp} (v : VH h) : KM h.ground.length (hM h) := by
  refine ⟨fun i j hi hj hne => ?_, fun i hi => ?_, fun i hi => ?_⟩
  · have := (v.lb i j hi hj).1
    unfold hM
    rw [if_neg (Ne.symm hne)]; omega
  · rw [hM_row v hi]; exact (v.gb i hi).1
  · have key : ∀ k, h.sp.Reach k → MReach h.ground.length (hM h) k := by
      intro k hk
      induction hk with
      | @ground i h1 h2 => exact .ground h1 (by rw [hM_row v h1]; exact h2)
      | @link i k h1 h2 _ h4 ih =>
        have hne : i ≠ k := fun e => by
          subst e
          have : h.sp.l i i = 0 := v.dg i h1
          omega
        exact .link h1 h2 hne ih (by
          unfold hM
          rw [if_neg (Ne.symm hne)]
          have : 0 < lnk h i k := h4
          omega)
    exact key i (v.re i hi)
def cntD (h : Hp) : Int := det h.ground.length (hM h)
theorem cntD_pos {h : Hp} (v : VH h) : 0 < cntD h := (hM_km v).det_pos _ (Nat.le_refl _)
theorem hM_bd {h : Hp} (v : VH h) {i j : Nat} (hi : i < h.ground.length) (hj : j < h.ground.length) : -12 ≤ hM h i j ∧ hM h i j ≤ 12 := by
  have h1 := v.lim1 hi
  have h2 := v.lim12 hi
  have h3 := v.lb i j hi hj
  unfold hM
  split <;> omega
theorem dbd5 {B C : Int} (hB : 0 ≤ B) : ∀ {n : Nat}, n ≤ 5 → dbd B 0 ≤ C → dbd B 1 ≤ C → dbd B 2 ≤ C → dbd B 3 ≤ C → dbd B 4 ≤ C → dbd B 5 ≤ C → dbd B n ≤ C
  | 0, _, h, _, _, _, _, _ => h
  | 1, _, _, h, _, _, _, _ => h
  | 2, _, _, _, h, _, _, _ => h
  | 3, _, _, _, _, h, _, _ => h
  | 4, _, _, _, _, _, h, _ => h
  | 5, _, _, _, _, _, _, h => h
  | n + 6, h, _, _, _, _, _, _ => by omega
theorem dbd12 {n : Nat} (hn : n ≤ 5) : dbd 12 n ≤ 30000000 := by
  apply dbd5 (by omega) hn <;> decide
theorem dbd30 {n : Nat} (hn : n ≤ 5) : dbd 30 n ≤ 3000000000 := by
  apply dbd5 (by omega) hn <;> decide
theorem cntD_bd {h : Hp} (v : VH h) : cntD h ≤ 30000000 := by
  have h1 := (det_bd (B := 12) (by omega) (n := h.ground.length) (M := hM h) fun i j hi hj => hM_bd v hi hj).2
  have h2 := dbd12 v.n5
  unfold cntD; omega
def scrD (h : Hp) (a b : List Int) (c : Nat) : Int := det h.ground.length (colS (hM h) c fun k => ata a k - ata b k)
theorem alike_iff {h : Hp} (v : VH h) (a b : List Int) : h.sp.Alike (ata a) (ata b) ↔ ∀ c, c < h.ground.length → cntD h ∣ scrD h a b c := by
  constructor
  · rintro ⟨u, hu⟩ c hc
    have := cramer (n := h.ground.length) (M := hM h) (c := c) hc (s := u) (v := fun k => ata a k - ata b k) fun i hi => by
      rw [hM_lap v u hi]
      have := hu i hi
      omega
    unfold scrD cntD
    rw [this]
    exact Int.dvd_mul_left _ _
  · intro hd
    refine ⟨fun j => scrD h a b j / cntD h, fun i hi => ?_⟩
    have h1 := (hM_km v).cramer_back (fun k => ata a k - ata b k) i hi
    have h2 : cntD h * sm (fun j => scrD h a b j / cntD h * hM h i j) h.ground.length = cntD h * (ata a i - ata b i) := by
      rw [← sm_mul]
      refine Eq.trans (sm_congr fun j hj => ?_) h1
      rw [← Int.mul_assoc, Int.mul_ediv_cancel' (hd j hj)]; rfl
    have h3 := Int.eq_of_mul_eq_mul_left (by have := cntD_pos v; omega) h2
    rw [hM_lap v _ hi] at h3
    omega
theorem cnt_alike {h : Hp} (v : VH h) (w : Nat → Int) : h.sp.Alike (fun i => cntD h * w i) fun _ => 0 := by
  refine ⟨fun j => det h.ground.length (colS (hM h) j w), fun i hi => ?_⟩
  have h1 := (hM_km v).cramer_back w i hi
  rw [hM_lap v _ hi] at h1
  show (0 : Int) = det h.ground.length (hM h) * w i - _
  omega
def Tk (h : Hp) (a : List Int) (k : Int) : Prop := h.sp.Alike (fun i => k * ata a i) fun _ => 0
theorem Tk.add {h : Hp} {a : List Int} {j k : Int} (x : Tk h a j) (y : Tk h a k) : Tk h a (j + k) := by
  have := alike_add x y
  exact alike_congr (fun i _ => by (try dsimp only); rw [Int.add_mul]) (fun i _ => by simp) this
theorem Tk.mul {h : Hp} {a : List Int} {j : Int} (k : Int) (x : Tk h a j) : Tk h a (k * j) := by
  have := alike_mul k x
  exact alike_congr (fun i _ => by (try dsimp only); rw [Int.mul_assoc]) (fun i _ => by simp) this
theorem Tk.cnt {h : Hp} (v : VH h) (a : List Int) : Tk h a (cntD h) := cnt_alike v (ata a)
end Go.Ab.Heap
namespace Go.Ab.Heap
def rowA (R : List (List Int)) (i : Nat) : List Int := R.getD i []
def lmat (R : List (List Int)) : Mat := fun i j => ata (rowA R i) j
structure Sq (n : Nat) (R : List (List Int)) : Prop where
  len : R.length = n
  row : ∀ i, i < n → (rowA R i).length = n
  bd : ∀ i j, i < n → j < n → -30 ≤ lmat R i j ∧ lmat R i j ≤ 30
theorem rowA_get {R : List (List Int)} {i : Nat} (hi : i < R.length) : R[i]? = some (rowA R i) := by
  unfold rowA
  rw [List.getD_eq_getElem?_getD, List.getElem?_eq_getElem hi]; rfl
def cutL (r : List Int) (k : Nat) : List Int := r.take k ++ r.drop (k + 1)
theorem cutL_len {r : List Int} {k : Nat} (hk : k < r.length) : (cutL r k).length = r.length - 1 := by
  unfold cutL; simp; omega
theorem cutL_at {r : List Int} {k j : Nat} (hk : k < r.length) : ata (cutL r k) j = ata r (skp k j) := by
  unfold cutL ata skp
  rw [List.getD_eq_getElem?_getD, List.getD_eq_getElem?_getD, List.getElem?_append]
  simp only [List.length_take]
  by_cases h : j < k
  · rw [if_pos h, if_pos (by omega), List.getElem?_take, if_pos h]
  · rw [if_neg h, if_neg (by omega), List.getElem?_drop]
    congr 2; omega
def minQ (R : List (List Int)) (k q : Nat) : List (List Int) := (List.range q).map fun i => cutL (rowA R (i + 1)) k
theorem minQ_len {R : List (List Int)} {k q : Nat} : (minQ R k q).length = q := by simp [minQ]
theorem minQ_succ {R : List (List Int)} {k q : Nat} : minQ R k (q + 1) = minQ R k q ++ [cutL (rowA R (q + 1)) k] := by
  unfold minQ; rw [List.range_succ]; simp
theorem minQ_row {R : List (List Int)} {k q i : Nat} (hi : i < q) : rowA (minQ R k q) i = cutL (rowA R (i + 1)) k := by
  show ((List.range q).map fun i => cutL (rowA R (i + 1)) k).getD i [] = _
  simp [List.getD_eq_getElem?_getD, hi]
theorem Sq.min {n : Nat} {R : List (List Int)} (s : Sq (n + 1) R) {k : Nat} (hk : k < n + 1) : Sq n (minQ R k n) ∧ ∀ i j, i < n → j < n → lmat (minQ R k n) i j = mnr (lmat R) k i j := by
  have e : ∀ i j, i < n → lmat (minQ R k n) i j = mnr (lmat R) k i j := fun i j hi => by
    unfold lmat mnr
    rw [minQ_row hi, cutL_at (by rw [s.row (i + 1) (by omega)]; exact hk)]
  refine ⟨⟨minQ_len, fun i hi => ?_, fun i j hi hj => ?_⟩, fun i j hi _ => e i j hi⟩
  · rw [minQ_row hi, cutL_len (by rw [s.row (i + 1) (by omega)]; exact hk), s.row (i + 1) (by omega)]; omega
  · rw [e i j hi]; exact s.bd (i + 1) _ (by omega) (skp_lt hj)
theorem Sq.det {n : Nat} {R : List (List Int)} (s : Sq n R) (hn : n ≤ 5) : -3000000000 ≤ Heap.det n (lmat R) ∧ Heap.det n (lmat R) ≤ 3000000000 := by
  have h1 := det_bd (B := 30) (by omega) (n := n) (M := lmat R) s.bd
  have := dbd30 hn
  omega
theorem dbd30' {n : Nat} (hn : n ≤ 4) : dbd 30 n ≤ 19440000 := by
  have : ∀ m, m ≤ 4 → dbd 30 m ≤ 19440000 := fun m hm => by
    match m, hm with
    | 0, _ => decide
    | 1, _ => decide
    | 2, _ => decide
    | 3, _ => decide
    | 4, _ => decide
    | m + 5, h => omega
  exact this n hn
def expQ (n : Nat) (R : List (List Int)) (q : Nat) : Int := sm (fun k => sgn k * lmat R 0 k * Heap.det n (mnr (lmat R) k)) q
theorem expQ_succ {n : Nat} {R : List (List Int)} {q : Nat} : expQ n R (q + 1) = expQ n R q + sgn q * lmat R 0 q * Heap.det n (mnr (lmat R) q) := rfl
theorem expQ_full {n : Nat} {R : List (List Int)} : expQ n R (n + 1) = Heap.det (n + 1) (lmat R) := rfl
theorem sgn_two (k : Nat) : sgn k = 1 ∨ sgn k = -1 := by unfold sgn; split <;> simp
theorem Sq.term {n : Nat} {R : List (List Int)} (s : Sq (n + 1) R) (hn : n ≤ 4) {k : Nat} (hk : k < n + 1) : (-30 ≤ lmat R 0 k ∧ lmat R 0 k ≤ 30) ∧ (-19440000 ≤ Heap.det n (mnr (lmat R) k) ∧ Heap.det n (mnr (lmat R) k) ≤ 19440000) ∧ (-30 ≤ sgn k * lmat R 0 k ∧ sgn k * lmat R 0 k ≤ 30) ∧ -583200000 ≤ sgn k * lmat R 0 k * Heap.det n (mnr (lmat R) k) ∧ sgn k * lmat R 0 k * Heap.det n (mnr (lmat R) k) ≤ 583200000 := by
  have h1 := s.bd 0 k (by omega) hk
  have h2 := det_bd (B := 30) (by omega) (n := n) (M := mnr (lmat R) k) fun i j hi hj => s.bd (i + 1) _ (by omega) (skp_lt hj)
  have h3 := dbd30' hn
  have h4 : -30 ≤ sgn k * lmat R 0 k ∧ sgn k * lmat R 0 k ≤ 30 := by rcases sgn_two k with e | e <;> rw [e] <;> omega
  have h5 := mul_abs (a := sgn k * lmat R 0 k) (b := Heap.det n (mnr (lmat R) k)) (A := 30) (B := 19440000) h4.1 h4.2 (by omega) (by omega)
  refine ⟨h1, by omega, h4, by omega⟩
theorem Sq.part {n : Nat} {R : List (List Int)} (s : Sq (n + 1) R) (hn : n ≤ 4) {q : Nat} (hq : q ≤ n + 1) : -3000000000 ≤ expQ n R q ∧ expQ n R q ≤ 3000000000 := by
  have h1 := sm_le (f := fun k => sgn k * lmat R 0 k * Heap.det n (mnr (lmat R) k)) (g := fun _ => 583200000) (n := q) fun k hk => (s.term hn (by omega)).2.2.2.2
  have h2 := sm_le (f := fun _ => -583200000) (g := fun k => sgn k * lmat R 0 k * Heap.det n (mnr (lmat R) k)) (n := q) fun k hk => (s.term hn (by omega)).2.2.2.1
  rw [sm_const] at h1 h2
  unfold expQ
  omega
def mrow (h : Hp) (i : Nat) : List Int := (List.range h.ground.length).map (hM h i)
def matL (h : Hp) : List (List Int) := (List.range h.ground.length).map (mrow h)
theorem mrow_len {h : Hp} {i : Nat} : (mrow h i).length = h.ground.length := by simp [mrow]
theorem mrow_at {h : Hp} {i j : Nat} (hj : j < h.ground.length) : ata (mrow h i) j = hM h i j := ata_mk hj
theorem matL_len {h : Hp} : (matL h).length = h.ground.length := by simp [matL]
theorem matL_row {h : Hp} {i : Nat} (hi : i < h.ground.length) : rowA (matL h) i = mrow h i := by
  unfold rowA matL
  simp [List.getD_eq_getElem?_getD, hi]
theorem matL_at {h : Hp} {i j : Nat} (hi : i < h.ground.length) (hj : j < h.ground.length) : lmat (matL h) i j = hM h i j := by
  unfold lmat
  rw [matL_row hi, mrow_at hj]
theorem matL_sq {h : Hp} (v : VH h) : Sq h.ground.length (matL h) := ⟨matL_len, fun i hi => by rw [matL_row hi, mrow_len], fun i j hi hj => by rw [matL_at hi hj]; have := hM_bd v hi hj; omega⟩
theorem matL_det {h : Hp} : det h.ground.length (lmat (matL h)) = cntD h := det_congr fun _ _ hi hj => matL_at hi hj
def crow (h : Hp) (a b : List Int) (c i : Nat) : List Int := (mrow h i).set c (ata a i - ata b i)
def cmat (h : Hp) (a b : List Int) (c : Nat) : List (List Int) := (List.range h.ground.length).map (crow h a b c)
theorem crow_len {h : Hp} {a b : List Int} {c i : Nat} : (crow h a b c i).length = h.ground.length := by simp [crow, mrow_len]
theorem crow_at {h : Hp} {a b : List Int} {c i j : Nat} (hc : c < h.ground.length) (hj : j < h.ground.length) : ata (crow h a b c i) j = colS (hM h) c (fun k => ata a k - ata b k) i j := by
  unfold crow colS
  rw [ata_set (by rw [mrow_len]; exact hc), mrow_at hj]
theorem cmat_len {h : Hp} {a b : List Int} {c : Nat} : (cmat h a b c).length = h.ground.length := by simp [cmat]
theorem cmat_row {h : Hp} {a b : List Int} {c i : Nat} (hi : i < h.ground.length) : rowA (cmat h a b c) i = crow h a b c i := by
  unfold rowA cmat
  simp [List.getD_eq_getElem?_getD, hi]
theorem cmat_at {h : Hp} {a b : List Int} {c i j : Nat} (hc : c < h.ground.length) (hi : i < h.ground.length) (hj : j < h.ground.length) : lmat (cmat h a b c) i j = colS (hM h) c (fun k => ata a k - ata b k) i j := by
  unfold lmat
  rw [cmat_row hi, crow_at hc hj]
theorem cmat_sq {h : Hp} (v : VH h) {a b : List Int} {c : Nat} (hc : c < h.ground.length) (hab : ∀ i, i < h.ground.length → (0 ≤ ata a i ∧ ata a i ≤ 30) ∧ 0 ≤ ata b i ∧ ata b i ≤ 30) : Sq h.ground.length (cmat h a b c) := ⟨cmat_len, fun i hi => by rw [cmat_row hi, crow_len], fun i j hi hj => by
  rw [cmat_at hc hi hj]
  unfold colS
  have := hM_bd v hi hj
  have := hab i hi
  (try dsimp only)
  split <;> omega⟩
theorem cmat_det {h : Hp} {a b : List Int} {c : Nat} (hc : c < h.ground.length) : det h.ground.length (lmat (cmat h a b c)) = scrD h a b c := det_congr fun _ _ hi hj => cmat_at hc hi hj
def bRow (M : Mat) (n i k q : Nat) : List Int := (List.range n).map fun c => bm M (min (min c (if c < q then i + 1 else i)) k) k c
theorem bRow_len {M : Mat} {n i k q : Nat} : (bRow M n i k q).length = n := by simp [bRow]
theorem bRow_at {M : Mat} {n i k q c : Nat} (hc : c < n) : ata (bRow M n i k q) c = bm M (min (min c (if c < q then i + 1 else i)) k) k c := ata_mk hc
theorem bRow_zero {M : Mat} {n k : Nat} {r : List Int} (hl : r.length = n) (hr : ∀ c, c < n → ata r c = M k c) : r = bRow M n 0 k 0 := by
  refine list_ext hl fun c hc => ?_
  rw [hr c hc, if_neg (by omega), show min (min c 0) k = 0 by omega, bm_zero]
theorem bRow_start {M : Mat} {n i k : Nat} : bRow M n i k 0 = bRow M n i k (i + 1) := by
  unfold bRow
  refine List.map_congr_left fun c _ => ?_
  rw [if_neg (by omega)]
  congr 2
  split <;> omega
theorem bRow_next {M : Mat} {n i k : Nat} : bRow M n i k n = bRow M n (i + 1) k 0 := by
  unfold bRow
  refine List.map_congr_left fun c hc => ?_
  rw [if_pos (by simpa using hc), if_neg (by omega)]
def befD (M : Mat) (i : Nat) : Int := det i M
theorem bRow_quo {n : Nat} {M : Mat} (hM : KM n M) {i k q : Nat} (hi : i < n) (hik : i < k) (hq : i < q) (hqn : q < n) :
    (ata (bRow M n i k q) q * ata (bRow M n i i 0) i - ata (bRow M n i k q) i * ata (bRow M n i i 0) q).tdiv (befD M i) = bm M (i + 1) k q := by
  have e1 : ata (bRow M n i k q) q = bm M i k q := by rw [bRow_at hqn, if_neg (by omega)]; congr 1; omega
  have e2 : ata (bRow M n i i 0) i = bm M i i i := by rw [bRow_at hi, if_neg (by omega)]; congr 1; omega
  have e3 : ata (bRow M n i k q) i = bm M i k i := by rw [bRow_at hi]; congr 1; split <;> omega
  have e4 : ata (bRow M n i i 0) q = bm M i i q := by rw [bRow_at hqn, if_neg (by omega)]; congr 1; omega
  have hj := jacobi i (hM.piv.le (by omega)) k q (by omega) (by omega)
  have hp : befD M i ≠ 0 := by have := hM.det_pos i (by omega); unfold befD; omega
  rw [e1, e2, e3, e4, hj]
  unfold befD at *
  exact Int.mul_tdiv_cancel _ hp
theorem bRow_step {n : Nat} {M : Mat} (hM : KM n M) {i k q : Nat} (hi : i < n) (hik : i < k) (hq : i < q) (hqn : q < n) :
    (bRow M n i k q).set q ((ata (bRow M n i k q) q * ata (bRow M n i i 0) i - ata (bRow M n i k q) i * ata (bRow M n i i 0) q).tdiv (befD M i)) = bRow M n i k (q + 1) := by
  rw [bRow_quo hM hi hik hq hqn]
  unfold bRow
  apply List.ext_getElem
  · simp
  · intro c h1 h2
    have hc : c < n := by simpa using h2
    rw [List.getElem_set]
    split
    · rename_i e; subst e
      simp only [List.getElem_map, List.getElem_range]
      rw [if_pos (by omega)]
      congr 1; omega
    · rename_i e
      simp only [List.getElem_map, List.getElem_range]
      by_cases h3 : c < q
      · rw [if_pos h3, if_pos (show c < q + 1 by omega)]
      · rw [if_neg h3, if_neg (show ¬ c < q + 1 by omega)]
theorem bm_bd {n : Nat} {M : Mat} (hn : n ≤ 5) (hb : ∀ i j, i < n → j < n → -12 ≤ M i j ∧ M i j ≤ 12) {i k c : Nat} (hi : i < n) (hk : k < n) (hc : c < n) : -30000000 ≤ bm M i k c ∧ bm M i k c ≤ 30000000 := by
  have h1 := det_bd (B := 12) (by omega) (n := i + 1) (M := bord M i k c) fun r q hr hq => hb _ _ (by split <;> omega) (by split <;> omega)
  have := dbd12 (n := i + 1) (by omega)
  unfold bm; omega
theorem bRow_bd {n : Nat} {M : Mat} (hn : n ≤ 5) (hb : ∀ i j, i < n → j < n → -12 ≤ M i j ∧ M i j ≤ 12) {i k q c : Nat} (hk : k < n) (hc : c < n) : -30000000 ≤ ata (bRow M n i k q) c ∧ ata (bRow M n i k q) c ≤ 30000000 := by
  rw [bRow_at hc]
  exact bm_bd hn hb (by omega) hk hc
theorem bRow_prod {n : Nat} {M : Mat} (hn : n ≤ 5) (hb : ∀ i j, i < n → j < n → -12 ≤ M i j ∧ M i j ≤ 12) {i k q c i' k' q' c' : Nat} (hk : k < n) (hc : c < n) (hk' : k' < n) (hc' : c' < n) : -900000000000000 ≤ ata (bRow M n i k q) c * ata (bRow M n i' k' q') c' ∧ ata (bRow M n i k q) c * ata (bRow M n i' k' q') c' ≤ 900000000000000 := by
  have h1 := bRow_bd hn hb (i := i) (q := q) hk hc
  have h2 := bRow_bd hn hb (i := i') (q := q') hk' hc'
  have := mul_abs (A := 30000000) (B := 30000000) h1.1 h1.2 h2.1 h2.2
  omega
theorem bRow_diag {M : Mat} {n i : Nat} (hi : i < n) : ata (bRow M n i i 0) i = befD M (i + 1) := by
  rw [bRow_at hi, if_neg (by omega)]
  have : min (min i i) i = i := by omega
  rw [this]
  exact bm_last M i
end Go.Ab.Heap
