/- HeapL1, HeapL2. -/
namespace Go.Ab.Heap
def sm (f : Nat → Int) : Nat → Int
  | 0 => 0
  | n + 1 => sm f n + f n
theorem sm_congr {f g : Nat → Int} : ∀ {n : Nat}, (∀ i, i < n → f i = g i) → sm f n = sm g n
  | 0, _ => rfl
  | n + 1, h => by simp only [sm]; rw [sm_congr fun i hi => h i (by omega), h n (by omega)]
theorem sm_le {f g : Nat → Int} : ∀ {n : Nat}, (∀ i, i < n → f i ≤ g i) → sm f n ≤ sm g n
  | 0, _ => Int.le_refl _
  | n + 1, h => by
    have h1 := sm_le (n := n) fun i hi => h i (by omega)
    have h2 := h n (by omega)
    simp only [sm]; omega
theorem sm_le_at {f g : Nat → Int} {d : Int} {k : Nat} : ∀ {n : Nat}, (∀ i, i < n → f i ≤ g i) → k < n → f k + d ≤ g k → sm f n + d ≤ sm g n
  | 0, _, hk, _ => by omega
  | n + 1, h, hk, hd => by
    simp only [sm]
    by_cases e : k = n
    · subst e
      have h1 := sm_le (n := k) fun i hi => h i (by omega)
      omega
    · have h1 := sm_le_at (n := n) (fun i hi => h i (by omega)) (by omega) hd
      have h2 := h n (by omega)
      omega
theorem sm_zero : ∀ {n : Nat}, sm (fun _ => 0) n = 0
  | 0 => rfl
  | n + 1 => by simp only [sm]; rw [sm_zero]; rfl
theorem sm_nonneg {f : Nat → Int} {n : Nat} (h : ∀ i, i < n → 0 ≤ f i) : 0 ≤ sm f n := by
  have := sm_le h; rwa [sm_zero] at this
theorem sm_ge_at {f : Nat → Int} {n k : Nat} (h : ∀ i, i < n → 0 ≤ f i) (hk : k < n) : f k ≤ sm f n := by
  have := sm_le_at (f := fun _ => 0) (g := f) (d := f k) h hk (by omega)
  rw [sm_zero] at this; omega
theorem sm_add {f g : Nat → Int} : ∀ {n : Nat}, sm (fun i => f i + g i) n = sm f n + sm g n
  | 0 => rfl
  | n + 1 => by simp only [sm]; rw [sm_add]; omega
theorem sm_sub {f g : Nat → Int} : ∀ {n : Nat}, sm (fun i => f i - g i) n = sm f n - sm g n
  | 0 => rfl
  | n + 1 => by simp only [sm]; rw [sm_sub]; omega
theorem sm_neg {f : Nat → Int} : ∀ {n : Nat}, sm (fun i => - f i) n = - sm f n
  | 0 => rfl
  | n + 1 => by simp only [sm]; rw [sm_neg]; omega
theorem sm_mul {f : Nat → Int} {k : Int} : ∀ {n : Nat}, sm (fun i => k * f i) n = k * sm f n
  | 0 => by simp [sm]
  | n + 1 => by simp only [sm]; rw [sm_mul, Int.mul_add]
theorem sm_const {k : Int} : ∀ {n : Nat}, sm (fun _ => k) n = n * k
  | 0 => by simp [sm]
  | n + 1 => by simp only [sm]; rw [sm_const, Int.natCast_succ, Int.add_mul, Int.one_mul]
theorem sm_swap {f : Nat → Nat → Int} {m : Nat} : ∀ {n : Nat}, sm (fun i => sm (f i) m) n = sm (fun j => sm (fun i => f i j) n) m
  | 0 => by simp only [sm]; rw [sm_zero]
  | n + 1 => by simp only [sm]; rw [sm_swap, ← sm_add]
structure SP where
  n : Nat
  l : Nat → Nat → Int
  g : Nat → Int
inductive SP.Reach (s : SP) : Nat → Prop
  | ground {i : Nat} : i < s.n → 0 < s.g i → s.Reach i
  | link {i k : Nat} : i < s.n → k < s.n → s.Reach k → 0 < s.l i k → s.Reach i
structure SP.Ok (s : SP) : Prop where
  l0 : ∀ i k, i < s.n → k < s.n → 0 ≤ s.l i k
  sym : ∀ i k, i < s.n → k < s.n → s.l i k = s.l k i
  diag : ∀ i, i < s.n → s.l i i = 0
  g0 : ∀ i, i < s.n → 0 ≤ s.g i
  all : ∀ i, i < s.n → s.Reach i
def SP.lim (s : SP) (i : Nat) : Int := s.g i + sm (s.l i) s.n
def SP.lap (s : SP) (u : Nat → Int) (i : Nat) : Int := s.g i * u i + sm (fun j => s.l i j * (u i - u j)) s.n
variable {s : SP}
theorem lap_eq (u : Nat → Int) (i : Nat) : s.lap u i = s.lim i * u i - sm (fun j => s.l i j * u j) s.n := by
  have : sm (fun j => s.l i j * (u i - u j)) s.n = sm (s.l i) s.n * u i - sm (fun j => s.l i j * u j) s.n := by
    rw [Int.mul_comm (sm (s.l i) s.n), ← sm_mul, ← sm_sub]
    exact sm_congr fun j _ => by rw [Int.mul_sub, Int.mul_comm (s.l i j) (u i)]
  unfold SP.lap SP.lim
  rw [this, Int.add_mul]; omega
theorem lap_add (u v : Nat → Int) (i : Nat) : s.lap (fun j => u j + v j) i = s.lap u i + s.lap v i := by
  have : sm (fun j => s.l i j * (u i + v i - (u j + v j))) s.n = sm (fun j => s.l i j * (u i - u j)) s.n + sm (fun j => s.l i j * (v i - v j)) s.n := by
    rw [← sm_add]; exact sm_congr fun j _ => by rw [← Int.mul_add]; congr 1; omega
  unfold SP.lap
  rw [this, Int.mul_add]; omega
theorem lap_mul (k : Int) (u : Nat → Int) (i : Nat) : s.lap (fun j => k * u j) i = k * s.lap u i := by
  have : sm (fun j => s.l i j * (k * u i - k * u j)) s.n = k * sm (fun j => s.l i j * (u i - u j)) s.n := by
    rw [← sm_mul]; exact sm_congr fun j _ => by rw [← Int.mul_sub, ← Int.mul_assoc, ← Int.mul_assoc, Int.mul_comm k]
  unfold SP.lap
  rw [this, Int.mul_add, ← Int.mul_assoc, ← Int.mul_assoc, Int.mul_comm k, Int.mul_comm (s.g i)]
theorem lap_neg (u : Nat → Int) (i : Nat) : s.lap (fun j => - u j) i = - s.lap u i := by
  have := lap_mul (s := s) (-1) u i
  simp only [Int.neg_mul, Int.one_mul] at this
  exact this
theorem lap_sub (u v : Nat → Int) (i : Nat) : s.lap (fun j => u j - v j) i = s.lap u i - s.lap v i := by
  have := lap_add (s := s) u (fun j => - v j) i
  rw [lap_neg] at this
  simpa [Int.sub_eq_add_neg] using this
theorem lap_zero (i : Nat) : s.lap (fun _ => 0) i = 0 := by
  have := lap_mul (s := s) 0 (fun _ => 0) i
  simpa using this
theorem lap_congr {u v : Nat → Int} (h : ∀ j, j < s.n → u j = v j) {i : Nat} (hi : i < s.n) : s.lap u i = s.lap v i := by
  unfold SP.lap
  rw [h i hi, sm_congr fun j hj => by rw [h j hj]]
def cnt (p : Nat → Bool) : Nat → Nat
  | 0 => 0
  | n + 1 => cnt p n + if p n then 1 else 0
theorem cnt_le (p : Nat → Bool) : ∀ n, cnt p n ≤ n
  | 0 => Nat.le_refl _
  | n + 1 => by simp only [cnt]; have := cnt_le p n; split <;> omega
theorem cnt_mono {p q : Nat → Bool} : ∀ {n : Nat}, (∀ i, i < n → p i = true → q i = true) → cnt p n ≤ cnt q n
  | 0, _ => Nat.le_refl _
  | n + 1, h => by
    have h1 := cnt_mono (n := n) fun i hi => h i (by omega)
    have h2 := h n (by omega)
    simp only [cnt]
    cases hp : p n <;> cases hq : q n <;> simp_all <;> omega
theorem cnt_lt {p q : Nat → Bool} {k : Nat} : ∀ {n : Nat}, (∀ i, i < n → p i = true → q i = true) → k < n → p k = false → q k = true → cnt p n < cnt q n
  | 0, _, hk, _, _ => by omega
  | n + 1, h, hk, h1, h2 => by
    simp only [cnt]
    by_cases e : k = n
    · subst e
      have := cnt_mono (n := k) fun i hi => h i (by omega)
      simp [h1, h2]; omega
    · have := cnt_lt (n := n) (fun i hi => h i (by omega)) (by omega) h1 h2
      have h3 := h n (by omega)
      cases hp : p n <;> cases hq : q n <;> simp_all <;> omega
theorem way_out (ok : s.Ok) {S : Nat → Prop} {i : Nat} (hi : i < s.n) (h : S i) : (∃ k, k < s.n ∧ S k ∧ 0 < s.g k) ∨ ∃ k j, k < s.n ∧ j < s.n ∧ S k ∧ ¬ S j ∧ 0 < s.l k j := by
  by_cases hg : ∃ k, k < s.n ∧ S k ∧ 0 < s.g k
  · exact .inl hg
  · by_cases hl : ∃ k j, k < s.n ∧ j < s.n ∧ S k ∧ ¬ S j ∧ 0 < s.l k j
    · exact .inr hl
    · exfalso
      have : ∀ k, s.Reach k → ¬ S k := fun k hk => by
        induction hk with
        | @ground k h1 h2 => exact fun h3 => hg ⟨k, h1, h3, h2⟩
        | @link k j h1 h2 _ h4 ih => exact fun h3 => hl ⟨k, j, h1, h2, h3, ih, h4⟩
      exact this i (ok.all i hi) h
def chi (t : Nat → Int) (m : Int) (j : Nat) : Int := if m ≤ t j then 1 else 0
theorem lap_chi (ok : s.Ok) (t : Nat → Int) (m : Int) : 2 * sm (fun j => chi t m j * s.lap t j) s.n = 2 * sm (fun j => chi t m j * (s.g j * t j)) s.n + sm (fun j => sm (fun k => s.l j k * ((chi t m j - chi t m k) * (t j - t k))) s.n) s.n := by
  have e1 : sm (fun j => chi t m j * s.lap t j) s.n = sm (fun j => chi t m j * (s.g j * t j)) s.n + sm (fun j => sm (fun k => chi t m j * (s.l j k * (t j - t k))) s.n) s.n := by
    rw [← sm_add]
    refine sm_congr fun j _ => ?_
    rw [sm_mul, ← Int.mul_add]; rfl
  have e2 : sm (fun j => sm (fun k => chi t m j * (s.l j k * (t j - t k))) s.n) s.n = sm (fun j => sm (fun k => chi t m k * (s.l j k * (t k - t j))) s.n) s.n := by
    rw [sm_swap]
    exact sm_congr fun j hj => sm_congr fun k hk => by rw [ok.sym j k hj hk]
  have e3 : sm (fun j => sm (fun k => s.l j k * ((chi t m j - chi t m k) * (t j - t k))) s.n) s.n = sm (fun j => sm (fun k => chi t m j * (s.l j k * (t j - t k))) s.n) s.n + sm (fun j => sm (fun k => chi t m k * (s.l j k * (t k - t j))) s.n) s.n := by
    rw [← sm_add]
    refine sm_congr fun j _ => ?_
    rw [← sm_add]
    refine sm_congr fun k _ => ?_
    grind
  rw [e3, ← e2, e1]; omega
theorem chi_term (ok : s.Ok) (t : Nat → Int) (m : Int) {j k : Nat} (hj : j < s.n) (hk : k < s.n) : 0 ≤ s.l j k * ((chi t m j - chi t m k) * (t j - t k)) := by
  refine Int.mul_nonneg (ok.l0 j k hj hk) ?_
  unfold chi
  split <;> split <;> simp <;> omega
theorem often (ok : s.Ok) {a t : Nat → Int} {A : Int} (ht : ∀ i, i < s.n → 0 ≤ t i) (ha : ∀ i, i < s.n → 0 ≤ a i) (hA : sm a s.n ≤ A) (hc : ∀ i, i < s.n → 0 ≤ a i - s.lap t i) : ∀ i, i < s.n → t i ≤ s.n * A := by
  have hA0 : 0 ≤ A := Int.le_trans (sm_nonneg ha) hA
  have tot : ∀ m, sm (fun j => chi t m j * s.lap t j) s.n ≤ A := fun m => by
    refine Int.le_trans (sm_le fun j hj => ?_) hA
    have := hc j hj
    have := ha j hj
    unfold chi
    split <;> simp <;> omega
  have term0 : ∀ m j, j < s.n → 0 ≤ chi t m j * (s.g j * t j) := fun m j hj => by
    have := Int.mul_nonneg (ok.g0 j hj) (ht j hj)
    unfold chi
    split <;> simp <;> omega
  have low : ∀ (v : Nat) i, i < s.n → (t i).toNat ≤ v → t i ≤ A * (1 + (cnt (fun j => decide (t j < t i)) s.n : Nat)) := by
    intro v
    induction v with
    | zero =>
      intro i hi hv
      have : 0 ≤ A * (1 + (cnt (fun j => decide (t j < t i)) s.n : Nat)) := Int.mul_nonneg hA0 (by omega)
      omega
    | succ v ih =>
      intro i hi hv
      have h2 := lap_chi ok t (t i)
      have h3 := tot (t i)
      have h0 : 0 ≤ A * (cnt (fun j => decide (t j < t i)) s.n : Nat) := Int.mul_nonneg hA0 (by omega)
      rcases way_out ok (S := fun j => t i ≤ t j) hi (Int.le_refl _) with ⟨k, k1, k2, k3⟩ | ⟨k, j, k1, j1, k2, k3, k4⟩
      · have p1 := sm_ge_at (term0 (t i)) k1
        have p2 := sm_nonneg (f := fun j => sm (fun k => s.l j k * ((chi t (t i) j - chi t (t i) k) * (t j - t k))) s.n) fun j hj => sm_nonneg fun k hk => chi_term ok t (t i) hj hk
        have p3 : chi t (t i) k = 1 := by unfold chi; rw [if_pos k2]
        rw [p3, Int.one_mul] at p1
        have p4 : t k ≤ s.g k * t k := by
          have := Int.mul_nonneg (show 0 ≤ s.g k - 1 by omega) (ht k k1)
          rw [Int.sub_mul] at this; omega
        rw [Int.mul_add, Int.mul_one]
        omega
      · have p1 := sm_nonneg (term0 (t i))
        have pk : chi t (t i) k = 1 := by unfold chi; rw [if_pos k2]
        have pj : chi t (t i) j = 0 := by unfold chi; rw [if_neg k3]
        have q1 : t k - t j ≤ s.l k j * ((chi t (t i) k - chi t (t i) j) * (t k - t j)) := by
          rw [pk, pj]
          have := Int.mul_nonneg (show 0 ≤ s.l k j - 1 by omega) (show 0 ≤ t k - t j by omega)
          rw [Int.sub_mul] at this
          simp only [Int.sub_zero, Int.one_mul]; omega
        have q2 : t k - t j ≤ s.l j k * ((chi t (t i) j - chi t (t i) k) * (t j - t k)) := by
          rw [pk, pj, ok.sym j k j1 k1]
          have := Int.mul_nonneg (show 0 ≤ s.l k j - 1 by omega) (show 0 ≤ t k - t j by omega)
          rw [Int.sub_mul] at this
          have e : (0 - 1 : Int) * (t j - t k) = t k - t j := by omega
          rw [e]; omega
        have r1 := sm_ge_at (f := fun q => s.l k q * ((chi t (t i) k - chi t (t i) q) * (t k - t q))) (fun q hq => chi_term ok t (t i) k1 hq) j1
        have r2 := sm_ge_at (f := fun q => s.l j q * ((chi t (t i) j - chi t (t i) q) * (t j - t q))) (fun q hq => chi_term ok t (t i) j1 hq) k1
        have hkj : k ≠ j := fun e => k3 (e ▸ k2)
        have r3 : (t k - t j) + (t k - t j) ≤ sm (fun j => sm (fun k => s.l j k * ((chi t (t i) j - chi t (t i) k) * (t j - t k))) s.n) s.n := by
          have nn : ∀ q, q < s.n → 0 ≤ sm (fun k => s.l q k * ((chi t (t i) q - chi t (t i) k) * (t q - t k))) s.n := fun q hq => sm_nonneg fun k hk => chi_term ok t (t i) hq hk
          have z := sm_le_at (f := fun q => if q = k then t k - t j else 0) (g := fun q => sm (fun k => s.l q k * ((chi t (t i) q - chi t (t i) k) * (t q - t k))) s.n) (d := t k - t j) (k := j) (n := s.n) (fun q hq => by
            split
            · rename_i e; subst e; exact Int.le_trans q1 r1
            · exact nn q hq) j1 (by rw [if_neg (Ne.symm hkj)]; have := Int.le_trans q2 r2; omega)
          have z2 := sm_ge_at (f := fun q => if q = k then t k - t j else 0) (n := s.n) (k := k) (fun q hq => by split <;> omega) k1
          simp only [if_true] at z2
          omega
        have hjv := ih j j1 (by have := ht j j1; have := ht i hi; omega)
        have hcn : cnt (fun q => decide (t q < t j)) s.n < cnt (fun q => decide (t q < t i)) s.n := cnt_lt (k := j) (fun q hq hd => by simp only [decide_eq_true_eq] at hd ⊢; omega) j1 (by simp) (by simp only [decide_eq_true_eq]; omega)
        have hmul : A * (1 + (cnt (fun q => decide (t q < t j)) s.n : Nat)) ≤ A * (cnt (fun q => decide (t q < t i)) s.n : Nat) := Int.mul_le_mul_of_nonneg_left (by omega) hA0
        rw [Int.mul_add, Int.mul_one]
        omega
  intro i hi
  have h1 := low _ i hi (Nat.le_refl _)
  have h2 : cnt (fun j => decide (t j < t i)) s.n < cnt (fun _ => true) s.n := cnt_lt (k := i) (fun _ _ _ => rfl) hi (by simp) rfl
  have h3 := cnt_le (fun _ => true) s.n
  have h4 : A * (1 + (cnt (fun j => decide (t j < t i)) s.n : Nat)) ≤ A * (s.n : Int) := Int.mul_le_mul_of_nonneg_left (by omega) hA0
  rw [Int.mul_comm (s.n : Int)]; omega
def SP.lft (s : SP) (a t : Nat → Int) (i : Nat) : Int := a i - s.lap t i
def SP.Calms (s : SP) (a u : Nat → Int) : Prop := (∀ i, i < s.n → 0 ≤ u i) ∧ ∀ i, i < s.n → s.lft a u i < s.lim i
def SP.Legal (s : SP) (a t : Nat → Int) : Prop := (∀ i, i < s.n → 0 ≤ t i) ∧ ∀ u, s.Calms a u → ∀ i, i < s.n → t i ≤ u i
def SP.Stl (s : SP) (a t : Nat → Int) : Prop := s.Calms a t ∧ s.Legal a t
theorem stl_unique {a t t' : Nat → Int} (h : s.Stl a t) (h' : s.Stl a t') : ∀ i, i < s.n → t i = t' i := fun i hi => by
  have h1 := h.2.2 t' h'.1 i hi
  have h2 := h'.2.2 t h.1 i hi
  (try dsimp only); omega
theorem legal_zero {a : Nat → Int} : s.Legal a fun _ => 0 := ⟨fun _ _ => Int.le_refl _, fun _ hu i hi => hu.1 i hi⟩
theorem legal_congr {a a' t t' : Nat → Int} (ha : ∀ i, i < s.n → a i = a' i) (ht : ∀ i, i < s.n → t i = t' i) (h : s.Legal a t) : s.Legal a' t' :=
  ⟨fun i hi => by rw [← ht i hi]; exact h.1 i hi, fun u hu i hi => by
    rw [← ht i hi]
    refine h.2 u ⟨hu.1, fun j hj => ?_⟩ i hi
    have := hu.2 j hj
    unfold SP.lft at *
    rw [ha j hj]; exact this⟩
theorem legal_more {a t t' : Nat → Int} (h : s.Legal a t) (h' : s.Legal (s.lft a t) t') : s.Legal a fun i => t i + t' i :=
  ⟨fun i hi => by have := h.1 i hi; have := h'.1 i hi; (try dsimp only); omega, fun u hu i hi => by
    have h1 := h.2 u hu
    have := h'.2 (fun j => u j - t j) ⟨fun j hj => by have := h1 j hj; (try dsimp only); omega, fun j hj => by
      have := hu.2 j hj
      unfold SP.lft at *
      rw [lap_sub]; (try dsimp only); omega⟩ i hi
    (try dsimp only); omega⟩
theorem legal_one (ok : s.Ok) {a : Nat → Int} {i : Nat} {k : Int} (hi : i < s.n) (h0 : 0 ≤ k) (hk : k * s.lim i ≤ a i) (hl : 0 < s.lim i) : s.Legal a fun j => if j = i then k else 0 := by
  refine ⟨fun j _ => by dsimp only; split <;> omega, fun u hu j hj => ?_⟩
  dsimp only
  split
  · rename_i e; subst e
    have h1 := hu.2 j hj
    unfold SP.lft at h1
    rw [lap_eq] at h1
    have h2 := sm_nonneg (f := fun q => s.l j q * u q) (n := s.n) fun q hq => Int.mul_nonneg (ok.l0 j q hj hq) (hu.1 q hq)
    have h3 : k * s.lim j < (u j + 1) * s.lim j := by rw [Int.add_mul, Int.one_mul, Int.mul_comm (u j)]; omega
    have := Int.lt_of_mul_lt_mul_right h3 (Int.le_of_lt hl)
    omega
  · exact hu.1 j hj
theorem lim_pos (ok : s.Ok) {i : Nat} (hi : i < s.n) : 0 < s.lim i := by
  have h1 := ok.g0 i hi
  have h2 := sm_nonneg (f := s.l i) (n := s.n) fun j hj => ok.l0 i j hi hj
  unfold SP.lim
  cases ok.all i hi with
  | ground _ h => omega
  | link _ hk _ h => have := sm_ge_at (f := s.l i) (n := s.n) (fun j hj => ok.l0 i j hi hj) hk; omega
theorem lap_sum (ok : s.Ok) (t : Nat → Int) : sm (s.lap t) s.n = sm (fun i => s.g i * t i) s.n := by
  have e1 : sm (s.lap t) s.n = sm (fun i => s.g i * t i) s.n + sm (fun i => sm (fun j => s.l i j * (t i - t j)) s.n) s.n := by rw [← sm_add]; rfl
  have e2 : sm (fun i => sm (fun j => s.l i j * (t i - t j)) s.n) s.n = sm (fun i => sm (fun j => s.l i j * (t j - t i)) s.n) s.n := by
    rw [sm_swap]
    exact sm_congr fun j hj => sm_congr fun k hk => by rw [ok.sym j k hj hk]
  have e3 : sm (fun i => sm (fun j => s.l i j * (t j - t i)) s.n) s.n = - sm (fun i => sm (fun j => s.l i j * (t i - t j)) s.n) s.n := by
    rw [← sm_neg]
    refine sm_congr fun i _ => ?_
    rw [← sm_neg]
    exact sm_congr fun j _ => by rw [← Int.mul_neg]; congr 1; omega
  rw [e3] at e2
  rw [e1]; omega
theorem left_sum (ok : s.Ok) {a t : Nat → Int} (ht : ∀ i, i < s.n → 0 ≤ t i) : sm (s.lft a t) s.n ≤ sm a s.n := by
  have e : sm (s.lft a t) s.n = sm a s.n - sm (s.lap t) s.n := by rw [← sm_sub]; rfl
  rw [e, lap_sum ok]
  have := sm_nonneg (f := fun i => s.g i * t i) (n := s.n) fun i hi => Int.mul_nonneg (ok.g0 i hi) (ht i hi)
  omega
end Go.Ab.Heap
namespace Go.Ab.Heap
structure Hp where
  links : List (List Int)
  ground : List Int
def ata (a : List Int) (i : Nat) : Int := a.getD i 0
def lrow (h : Hp) (i : Nat) : List Int := h.links.getD i []
def lnk (h : Hp) (i k : Nat) : Int := (lrow h i).getD k 0
def gnd (h : Hp) (i : Nat) : Int := h.ground.getD i 0
def Hp.sp (h : Hp) : SP := ⟨h.ground.length, lnk h, gnd h⟩
def inR (x lo hi : Int) : Bool := decide (lo ≤ x) && decide (x ≤ hi)
def rowOk (h : Hp) (i : Nat) : Bool := (lrow h i).length == h.ground.length
def numOk (h : Hp) (i k : Nat) : Bool := inR (lnk h i k) 0 2 && lnk h i k == lnk h k i
def gndOk (h : Hp) (i : Nat) : Bool := inR (gnd h i) 0 2 && lnk h i i == 0
def okArg (h : Hp) : Bool := (decide (1 ≤ h.ground.length) && decide (h.ground.length ≤ 5) && h.links.length == h.ground.length) && (List.range h.ground.length).all (rowOk h) && (List.range h.ground.length).all fun i => gndOk h i && (List.range h.ground.length).all (numOk h i)
def atb (d : List Bool) (i : Nat) : Bool := d.getD i false
def inn (h : Hp) (d : List Bool) (i : Nat) : Nat → List Bool
  | 0 => d
  | k + 1 => (inn h d i k).set i (atb (inn h d i k) i || decide (0 < gnd h i) || atb (inn h d i k) k && decide (0 < lnk h i k))
def pas (h : Hp) (d : List Bool) : Nat → List Bool
  | 0 => d
  | i + 1 => inn h (pas h d i) i h.ground.length
def rnd (h : Hp) : Nat → List Bool
  | 0 => List.replicate h.ground.length false
  | r + 1 => pas h (rnd h r) h.ground.length
def validate (h : Hp) : Int := if okArg h then (if (rnd h h.ground.length).contains false then 9 else 0) else 1
theorem inn_len {h : Hp} {d : List Bool} {i : Nat} : ∀ k, (inn h d i k).length = d.length
  | 0 => rfl
  | k + 1 => by simp only [inn, List.length_set]; exact inn_len k
theorem pas_len {h : Hp} {d : List Bool} : ∀ i, (pas h d i).length = d.length
  | 0 => rfl
  | i + 1 => by simp only [pas]; rw [inn_len, pas_len i]
theorem rnd_len {h : Hp} : ∀ r, (rnd h r).length = h.ground.length
  | 0 => by simp [rnd]
  | r + 1 => by simp only [rnd]; rw [pas_len, rnd_len r]
theorem atb_set {d : List Bool} {i j : Nat} {b : Bool} (hi : i < d.length) : atb (d.set i b) j = if j = i then b else atb d j := by
  unfold atb
  rw [List.getD_eq_getElem?_getD, List.getElem?_set, List.getD_eq_getElem?_getD]
  by_cases e : i = j
  · subst e; simp [hi]
  · rw [if_neg e, if_neg (Ne.symm e)]
def rk (s : SP) : Nat → Nat → Bool
  | 0, _ => false
  | r + 1, i => decide (0 < s.g i) || (List.range s.n).any fun k => rk s r k && decide (0 < s.l i k)
theorem rk_succ {s : SP} {r i : Nat} : rk s (r + 1) i = true ↔ 0 < s.g i ∨ ∃ k, k < s.n ∧ rk s r k = true ∧ 0 < s.l i k := by
  simp [rk, List.any_eq_true]
theorem rk_up {s : SP} : ∀ {r i : Nat}, rk s r i = true → rk s (r + 1) i = true
  | 0, _, h => by simp [rk] at h
  | r + 1, i, h => by
    rw [rk_succ] at h ⊢
    rcases h with h | ⟨k, h1, h2, h3⟩
    · exact .inl h
    · exact .inr ⟨k, h1, rk_up h2, h3⟩
theorem rk_le {s : SP} {r i : Nat} (h : rk s r i = true) : ∀ {q : Nat}, r ≤ q → rk s q i = true := by
  intro q hq
  induction q with
  | zero => have : r = 0 := by omega
            subst this; exact h
  | succ q ih =>
    by_cases e : r = q + 1
    · subst e; exact h
    · exact rk_up (ih (by omega))
theorem rk_stable {s : SP} {q : Nat} (h : ∀ i, i < s.n → rk s (q + 1) i = true → rk s q i = true) : ∀ i, s.Reach i → rk s q i = true := by
  intro i hi
  induction hi with
  | @ground i h1 h2 => exact h i h1 (rk_succ.2 (.inl h2))
  | @link i k h1 h2 _ h4 ih => exact h i h1 (rk_succ.2 (.inr ⟨k, h2, ih, h4⟩))
theorem rk_count {s : SP} : ∀ r, (∃ q, q ≤ r ∧ ∀ i, i < s.n → rk s (q + 1) i = true → rk s q i = true) ∨ r ≤ cnt (rk s r) s.n
  | 0 => .inr (Nat.zero_le _)
  | r + 1 => by
    rcases rk_count (s := s) r with ⟨q, h1, h2⟩ | h
    · exact .inl ⟨q, by omega, h2⟩
    · by_cases hs : ∀ i, i < s.n → rk s (r + 1) i = true → rk s r i = true
      · exact .inl ⟨r, by omega, hs⟩
      · simp only [Classical.not_forall] at hs
        obtain ⟨i, hi, h1, h2⟩ := hs
        have := cnt_lt (p := rk s r) (q := rk s (r + 1)) (k := i) (n := s.n) (fun _ _ => rk_up) hi (by simpa using h2) h1
        exact .inr (by omega)
theorem cnt_full {p : Nat → Bool} : ∀ {n : Nat}, n ≤ cnt p n → ∀ i, i < n → p i = true
  | 0, _, _, hi => by omega
  | n + 1, h, i, hi => by
    simp only [cnt] at h
    have h1 := cnt_le p n
    split at h
    · rename_i hp
      by_cases e : i = n
      · subst e; exact hp
      · exact cnt_full (n := n) (by omega) i (by omega)
    · omega
theorem reach_lt {s : SP} {i : Nat} (h : s.Reach i) : i < s.n := by cases h <;> assumption
theorem reach_rk {s : SP} {i : Nat} (h : s.Reach i) : rk s s.n i = true := by
  rcases rk_count (s := s) s.n with ⟨q, h1, h2⟩ | h1
  · exact rk_le (rk_stable h2 i h) h1
  · exact cnt_full h1 i (reach_lt h)
def Sound (h : Hp) (d : List Bool) : Prop := ∀ i, i < h.ground.length → atb d i = true → h.sp.Reach i
theorem sound_set {h : Hp} {d : List Bool} {i : Nat} {b : Bool} (hd : Sound h d) (hl : d.length = h.ground.length) (hi : i < h.ground.length) (hb : b = true → h.sp.Reach i) : Sound h (d.set i b) := fun j hj hjt => by
  rw [atb_set (by omega)] at hjt
  split at hjt
  · rename_i e; subst e; exact hb hjt
  · exact hd j hj hjt
theorem inn_sound {h : Hp} {d : List Bool} {i : Nat} (hd : Sound h d) (hl : d.length = h.ground.length) (hi : i < h.ground.length) : ∀ k, k ≤ h.ground.length → Sound h (inn h d i k)
  | 0, _ => hd
  | k + 1, hk => by
    have ih := inn_sound hd hl hi k (by omega)
    refine sound_set ih (by rw [inn_len, hl]) hi fun hb => ?_
    simp only [Bool.or_eq_true, Bool.and_eq_true, decide_eq_true_eq] at hb
    rcases hb with (h1 | h1) | ⟨h1, h2⟩
    · exact ih i hi h1
    · exact .ground hi h1
    · exact .link hi (show k < h.sp.n from by show k < h.ground.length; omega) (ih k (by omega) h1) h2
theorem pas_sound {h : Hp} {d : List Bool} (hd : Sound h d) (hl : d.length = h.ground.length) : ∀ i, i ≤ h.ground.length → Sound h (pas h d i)
  | 0, _ => hd
  | i + 1, hi => inn_sound (pas_sound hd hl i (by omega)) (by rw [pas_len, hl]) (by omega) _ (Nat.le_refl _)
theorem none_sound {h : Hp} : Sound h (List.replicate h.ground.length false) := fun i _ ht => by
  unfold atb at ht
  rw [List.getD_eq_getElem?_getD, List.getElem?_replicate] at ht
  split at ht <;> simp at ht
theorem rnd_sound {h : Hp} : ∀ r, Sound h (rnd h r)
  | 0 => none_sound
  | r + 1 => pas_sound (rnd_sound r) (rnd_len r) _ (Nat.le_refl _)
def Keeps (n : Nat) (d d' : List Bool) : Prop := ∀ i, i < n → atb d i = true → atb d' i = true
theorem keeps_set {n : Nat} {d : List Bool} {i : Nat} {b : Bool} (hl : d.length = n) (hi : i < n) (hb : atb d i = true → b = true) : Keeps n d (d.set i b) := fun j _ h => by
  rw [atb_set (by omega)]
  split
  · rename_i e; subst e; exact hb h
  · exact h
theorem Keeps.trans {n : Nat} {a b c : List Bool} (h : Keeps n a b) (k : Keeps n b c) : Keeps n a c := fun i hi ha => k i hi (h i hi ha)
theorem Keeps.refl {n : Nat} {a : List Bool} : Keeps n a a := fun _ _ h => h
theorem inn_keeps {h : Hp} {d : List Bool} {i : Nat} (hl : d.length = h.ground.length) (hi : i < h.ground.length) : ∀ k, Keeps h.ground.length d (inn h d i k)
  | 0 => .refl
  | k + 1 => (inn_keeps hl hi k).trans (keeps_set (by rw [inn_len, hl]) hi fun h => by simp [h])
theorem pas_keeps {h : Hp} {d : List Bool} (hl : d.length = h.ground.length) : ∀ i, i ≤ h.ground.length → Keeps h.ground.length d (pas h d i)
  | 0, _ => .refl
  | i + 1, hi => (pas_keeps hl i (by omega)).trans (inn_keeps (by rw [pas_len, hl]) (by omega) _)
theorem inn_mid {h : Hp} {d : List Bool} {i : Nat} (hl : d.length = h.ground.length) (hi : i < h.ground.length) {k q : Nat} (hkq : k ≤ q) : Keeps h.ground.length (inn h d i k) (inn h d i q) := by
  induction q with
  | zero => have : k = 0 := by omega
            subst this; exact .refl
  | succ q ih =>
    by_cases e : k = q + 1
    · subst e; exact .refl
    · exact (ih (by omega)).trans (keeps_set (by rw [inn_len, hl]) hi fun h => by simp [h])
theorem pas_mid {h : Hp} {d : List Bool} (hl : d.length = h.ground.length) {k q : Nat} (hkq : k ≤ q) (hq : q ≤ h.ground.length) : Keeps h.ground.length (pas h d k) (pas h d q) := by
  induction q with
  | zero => have : k = 0 := by omega
            subst this; exact .refl
  | succ q ih =>
    by_cases e : k = q + 1
    · subst e; exact .refl
    · exact (ih (by omega) (by omega)).trans (inn_keeps (by rw [pas_len, hl]) (by omega) _)
theorem pas_step {h : Hp} {d : List Bool} {r : Nat} (hl : d.length = h.ground.length) (hd : ∀ i, i < h.ground.length → rk h.sp r i = true → atb d i = true) : ∀ i, i < h.ground.length → rk h.sp (r + 1) i = true → atb (pas h d h.ground.length) i = true := fun i hi hr => by
  refine pas_mid hl (show i + 1 ≤ h.ground.length by omega) (Nat.le_refl _) i hi ?_
  have hl2 : (pas h d i).length = h.ground.length := by rw [pas_len, hl]
  have hk : Keeps h.ground.length d (pas h d i) := pas_keeps hl i (by omega)
  show atb (inn h (pas h d i) i h.ground.length) i = true
  rcases rk_succ.1 hr with hg | ⟨k, h1, h2, h3⟩
  · refine inn_mid hl2 hi (show 1 ≤ h.ground.length by omega) i hi ?_
    show atb ((inn h (pas h d i) i 0).set i _) i = true
    have hg' : 0 < gnd h i := hg
    rw [atb_set (by rw [inn_len, hl2]; exact hi), if_pos rfl]
    simp [hg']
  · have hk1 : k < h.ground.length := h1
    refine inn_mid hl2 hi (show k + 1 ≤ h.ground.length by omega) i hi ?_
    show atb ((inn h (pas h d i) i k).set i _) i = true
    have h3' : 0 < lnk h i k := h3
    have := inn_keeps hl2 hi k k hk1 (hk k hk1 (hd k hk1 h2))
    rw [atb_set (by rw [inn_len, hl2]; exact hi), if_pos rfl]
    simp [h3', this]
theorem rnd_rk {h : Hp} : ∀ r i, i < h.ground.length → rk h.sp r i = true → atb (rnd h r) i = true
  | 0, _, _, hr => by simp [rk] at hr
  | r + 1, i, hi, hr => pas_step (rnd_len r) (fun j hj => rnd_rk r j hj) i hi hr
theorem no_false {d : List Bool} : d.contains false = false ↔ ∀ i, i < d.length → atb d i = true := by
  rw [Bool.eq_false_iff]
  simp only [ne_eq, List.contains_iff_mem]
  constructor
  · intro h i hi
    unfold atb
    rw [List.getD_eq_getElem?_getD, List.getElem?_eq_getElem hi]
    cases hb : d[i] with
    | true => simp
    | false => exact absurd (hb ▸ List.getElem_mem hi) h
  · intro h hm
    obtain ⟨i, hi, e⟩ := List.getElem_of_mem hm
    have := h i hi
    unfold atb at this
    rw [List.getD_eq_getElem?_getD, List.getElem?_eq_getElem hi, e] at this
    simp at this
theorem all_reach {h : Hp} : (rnd h h.ground.length).contains false = false ↔ ∀ i, i < h.ground.length → h.sp.Reach i := by
  rw [no_false, rnd_len]
  exact ⟨fun hh i hi => rnd_sound _ i hi (hh i hi), fun hh i hi => rnd_rk _ i hi (reach_rk (hh i hi))⟩
structure VH (h : Hp) : Prop where
  n1 : 1 ≤ h.ground.length
  n5 : h.ground.length ≤ 5
  len : h.links.length = h.ground.length
  row : ∀ i, i < h.ground.length → (lrow h i).length = h.ground.length
  gb : ∀ i, i < h.ground.length → 0 ≤ gnd h i ∧ gnd h i ≤ 2
  dg : ∀ i, i < h.ground.length → lnk h i i = 0
  lb : ∀ i k, i < h.ground.length → k < h.ground.length → 0 ≤ lnk h i k ∧ lnk h i k ≤ 2
  sy : ∀ i k, i < h.ground.length → k < h.ground.length → lnk h i k = lnk h k i
  re : ∀ i, i < h.ground.length → h.sp.Reach i
theorem okArg_iff {h : Hp} : okArg h = true ↔ (1 ≤ h.ground.length ∧ h.ground.length ≤ 5 ∧ h.links.length = h.ground.length) ∧ (∀ i, i < h.ground.length → (lrow h i).length = h.ground.length) ∧ ∀ i, i < h.ground.length → (0 ≤ gnd h i ∧ gnd h i ≤ 2) ∧ lnk h i i = 0 ∧ ∀ k, k < h.ground.length → (0 ≤ lnk h i k ∧ lnk h i k ≤ 2) ∧ lnk h i k = lnk h k i := by
  simp only [okArg, rowOk, gndOk, numOk, inR, Bool.and_eq_true, decide_eq_true_eq, beq_iff_eq, List.all_eq_true, List.mem_range, and_assoc]
theorem vh_of {h : Hp} (e : validate h = 0) : VH h := by
  unfold validate at e
  split at e
  · rename_i ha
    split at e
    · cases e
    · rename_i hb
      obtain ⟨⟨a1, a2, a3⟩, a4, a5⟩ := okArg_iff.1 ha
      exact ⟨a1, a2, a3, a4, fun i hi => (a5 i hi).1, fun i hi => (a5 i hi).2.1, fun i k hi hk => ((a5 i hi).2.2 k hk).1, fun i k hi hk => ((a5 i hi).2.2 k hk).2, all_reach.1 (by simpa using hb)⟩
  · cases e
theorem VH.ok {h : Hp} (v : VH h) : h.sp.Ok := ⟨fun i k hi hk => (v.lb i k hi hk).1, v.sy, v.dg, fun i hi => (v.gb i hi).1, v.re⟩
theorem VH.get {h : Hp} (v : VH h) {i : Nat} (hi : i < h.ground.length) : h.links[i]? = some (lrow h i) := by
  unfold lrow
  rw [List.getD_eq_getElem?_getD, List.getElem?_eq_getElem (by rw [v.len]; exact hi)]; rfl
theorem VH.get2 {h : Hp} (v : VH h) {i k : Nat} (hi : i < h.ground.length) (hk : k < h.ground.length) : (lrow h i)[k]? = some (lnk h i k) := by
  unfold lnk
  rw [List.getD_eq_getElem?_getD (l := lrow h i), List.getElem?_eq_getElem (by rw [v.row i hi]; exact hk)]; rfl
theorem gnd_get {h : Hp} {i : Nat} (hi : i < h.ground.length) : h.ground[i]? = some (gnd h i) := by
  unfold gnd
  rw [List.getD_eq_getElem?_getD, List.getElem?_eq_getElem hi]; rfl
theorem ata_get {a : List Int} {i : Nat} (hi : i < a.length) : a[i]? = some (ata a i) := by
  unfold ata
  rw [List.getD_eq_getElem?_getD, List.getElem?_eq_getElem hi]; rfl
theorem ata_mk {n : Nat} {f : Nat → Int} {i : Nat} (hi : i < n) : ata ((List.range n).map f) i = f i := by
  unfold ata
  simp [List.getD_eq_getElem?_getD, hi]
theorem list_ext {n : Nat} {a : List Int} {f : Nat → Int} (hl : a.length = n) (h : ∀ i, i < n → ata a i = f i) : a = (List.range n).map f := by
  apply List.ext_getElem
  · simp [hl]
  · intro i h1 h2
    have := h i (by omega)
    unfold ata at this
    rw [List.getD_eq_getElem?_getD, List.getElem?_eq_getElem h1] at this
    simpa using this
theorem ata_ext {n : Nat} {a b : List Int} (ha : a.length = n) (hb : b.length = n) (h : ∀ i, i < n → ata a i = ata b i) : a = b :=
  (list_ext ha h).trans (list_ext hb fun _ _ => rfl).symm
theorem ata_set {a : List Int} {i j : Nat} {x : Int} (hi : i < a.length) : ata (a.set i x) j = if j = i then x else ata a j := by
  unfold ata
  rw [List.getD_eq_getElem?_getD, List.getElem?_set, List.getD_eq_getElem?_getD]
  by_cases e : i = j
  · subst e; simp [hi]
  · rw [if_neg e, if_neg (Ne.symm e)]
theorem VH.lim1 {h : Hp} (v : VH h) {i : Nat} (hi : i < h.ground.length) : 1 ≤ h.sp.lim i := lim_pos v.ok hi
theorem VH.lim12 {h : Hp} (v : VH h) {i : Nat} (hi : i < h.ground.length) : h.sp.lim i ≤ 12 := by
  have h1 := (v.gb i hi).2
  have h2 : sm (h.sp.l i) h.sp.n ≤ sm (fun _ => 2) h.sp.n := sm_le fun k hk => (v.lb i k hi hk).2
  rw [sm_const] at h2
  have h3 := v.n5
  have : (h.sp.n : Int) ≤ 5 := by show (h.ground.length : Int) ≤ 5; omega
  unfold SP.lim
  have : h.sp.g i = gnd h i := rfl
  omega
end Go.Ab.Heap
