/- DryArg, HeapL1, HeapD. -/
import Derived.Test.YtjlfgobbieljoaaRows
import Derived.Test.YtjlfgobbieljoaaBogG10
import Derived.Test.YtjlfgobbieljoaaBogG10
import Derived.Test.YtjlfgobbieljoaaBogG10
set_option linter.all false
set_option linter.all false
namespace Go.Proofs.Ytjlfgobbieljoaa
open Go.ChangeShapes Go.WideShapes Go.ChangeAt Go.RowKit Go.Ab Go.Ab.Try
theorem own : ownKnob Try.prog.godebug = none := by kernel_rfl
theorem laid : laidOutB Try.prog = true := by kernel_rfl
theorem laidE (W : World) : Laid W := fun p hp => by simp [laidTab] at hp
theorem opens_ints {H : Type} (enc : TypeId × Value → H) (W : World) : Opens enc Try.prog W 25 ints := opens_list (sz := 1) Try.underlying25 (by kernel_rfl) (by decide) (fun _ => rfl) (opens_int Try.underlying3)
theorem opens_stp {H : Type} (enc : TypeId × Value → H) (W : World) : Opens enc Try.prog W 55 dStp :=
  (opens_two Try.underlying55 rfl (by kernel_rfl) (by kernel_rfl) (opens_ints enc W) (opens_ints enc W)).conv fun p => ⟨⟨p.1, p.2⟩, rfl⟩
theorem opens_yd {H : Type} (enc : TypeId × Value → H) (W : World) : Opens enc Try.prog W 24 dYd :=
  (opens_two Try.underlying24 rfl (by kernel_rfl) (by kernel_rfl) (opens_int (k := .i64) Try.underlying3) (opens_list (sz := 2) Try.underlying22 (by kernel_rfl) (by decide) (fun _ => rfl) (opens_stp enc W))).conv fun p => ⟨⟨p.1, p.2⟩, rfl⟩
theorem arg_yd {H : Type} {enc : TypeId × Value → H} {W : World} {base : Nat} {v : Value} {d : DataW H} {ps : List MemPlace} (hv : Value.okWide Try.prog W .any base 24 v) (hd : DataW.Trod enc Try.prog W 0 (fun _ => true) true 24 v d ps) : ∃ y, RepD W (fun _ => False) (dYd y) v := by
  obtain ⟨cs, rfl, _⟩ := okWide_struct Try.underlying24 hv
  exact arg_agg (fun _ => rfl) (opens_yd enc W) hd
end Go.Proofs.Ytjlfgobbieljoaa
namespace Go.Ab.Heap
def sm (f : Nat → Int) : Nat → Int
  | 0 => 0
  | n + 1 => sm f n + f n
theorem sm_congr {f g : Nat → Int} : ∀ {n : Nat}, (∀ i, i < n → f i = g i) → sm f n = sm g n
  | 0, _ => rfl
  | n + 1, h => by simp only [sm]; rw [sm_congr fun i hi => h i (by omega), h n (by omega)]
theorem sm_le {f g : Nat → Int} : ∀ {n : Nat}, (∀ i, i < n → f i ≤ g i) → sm f n ≤ sm g n
  | 0, _ => Int.le_refl _
  | n + 1, h => by
    have h1 := sm_le (n := n) fun i hi => h i (by omega)
    have h2 := h n (by omega)
    simp only [sm]; omega
theorem sm_le_at {f g : Nat → Int} {d : Int} {k : Nat} : ∀ {n : Nat}, (∀ i, i < n → f i ≤ g i) → k < n → f k + d ≤ g k → sm f n + d ≤ sm g n
  | 0, _, hk, _ => by omega
  | n + 1, h, hk, hd => by
    simp only [sm]
    by_cases e : k = n
    · subst e
      have h1 := sm_le (n := k) fun i hi => h i (by omega)
      omega
    · have h1 := sm_le_at (n := n) (fun i hi => h i (by omega)) (by omega) hd
      have h2 := h n (by omega)
      omega
theorem sm_zero : ∀ {n : Nat}, sm (fun _ => 0) n = 0
  | 0 => rfl
  | n + 1 => by simp only [sm]; rw [sm_zero]; rfl
theorem sm_add {f g : Nat → Int} : ∀ {n : Nat}, sm (fun i => f i + g i) n = sm f n + sm g n
  | 0 => rfl
  | n + 1 => by simp only [sm]; rw [sm_add]; omega
theorem sm_sub {f g : Nat → Int} : ∀ {n : Nat}, sm (fun i => f i - g i) n = sm f n - sm g n
  | 0 => rfl
  | n + 1 => by simp only [sm]; rw [sm_sub]; omega
theorem sm_mul {f : Nat → Int} {k : Int} : ∀ {n : Nat}, sm (fun i => k * f i) n = k * sm f n
  | 0 => by simp [sm]
  | n + 1 => by simp only [sm]; rw [sm_mul, Int.mul_add]
theorem sm_const {k : Int} : ∀ {n : Nat}, sm (fun _ => k) n = n * k
  | 0 => by simp [sm]
  | n + 1 => by simp only [sm]; rw [sm_const, Int.natCast_succ, Int.add_mul, Int.one_mul]
theorem sm_swap {f : Nat → Nat → Int} {m : Nat} : ∀ {n : Nat}, sm (fun i => sm (f i) m) n = sm (fun j => sm (fun i => f i j) n) m
  | 0 => by simp only [sm]; rw [sm_zero]
  | n + 1 => by simp only [sm]; rw [sm_swap, ← sm_add]
structure SP where
  n : Nat
  l : Nat → Nat → Int
  g : Nat → Int
inductive SP.Reach (s : SP) : Nat → Prop
  | ground {i : Nat} : i < s.n → 0 < s.g i → s.Reach i
  | link {i k : Nat} : i < s.n → k < s.n → s.Reach k → 0 < s.l i k → s.Reach i
structure SP.Ok (s : SP) : Prop where
  l0 : ∀ i k, i < s.n → k < s.n → 0 ≤ s.l i k
  sym : ∀ i k, i < s.n → k < s.n → s.l i k = s.l k i
  diag : ∀ i, i < s.n → s.l i i = 0
  g0 : ∀ i, i < s.n → 0 ≤ s.g i
  all : ∀ i, i < s.n → s.Reach i
variable {s : SP}
end Go.Ab.Heap
namespace Go.Ab.Heap
abbrev Mat := Nat → Nat → Int
def sgn (k : Nat) : Int := if k % 2 = 0 then 1 else -1
def skp (k j : Nat) : Nat := if j < k then j else j + 1
def mnr (M : Mat) (k : Nat) : Mat := fun i j => M (i + 1) (skp k j)
def det : Nat → Mat → Int
  | 0, _ => 1
  | n + 1, M => sm (fun k => sgn k * M 0 k * det n (mnr M k)) (n + 1)
theorem sgn_succ (k : Nat) : sgn (k + 1) = - sgn k := by
  unfold sgn
  split <;> split <;> omega
theorem skp_lt {k j n : Nat} (h : j < n) : skp k j < n + 1 := by unfold skp; split <;> omega
theorem skp_ne {k j : Nat} : skp k j ≠ k := by unfold skp; split <;> omega
theorem det_congr : ∀ {n : Nat} {M N : Mat}, (∀ i j, i < n → j < n → M i j = N i j) → det n M = det n N
  | 0, _, _, _ => rfl
  | n + 1, M, N, h => by
    simp only [det]
    refine sm_congr fun k hk => ?_
    rw [h 0 k (by omega) hk, det_congr (M := mnr M k) (N := mnr N k) fun i j hi hj => h _ _ (by omega) (skp_lt hj)]
def colS (M : Mat) (c : Nat) (v : Nat → Int) : Mat := fun i j => if j = c then v i else M i j
def cpl (c k : Nat) : Nat := if c < k then c else c - 1
theorem mnr_colS_same (M : Mat) (c : Nat) (v : Nat → Int) : mnr (colS M c v) c = mnr M c := by
  funext i j
  simp only [mnr, colS, if_neg skp_ne]
theorem mnr_colS (M : Mat) {c k : Nat} (v : Nat → Int) (h : k ≠ c) : mnr (colS M c v) k = colS (mnr M k) (cpl c k) fun i => v (i + 1) := by
  funext i j
  simp only [mnr, colS, skp, cpl]
  by_cases h1 : j < k <;> by_cases h2 : c < k <;> simp only [h1, h2, if_true, if_false]
  all_goals (split <;> split <;> first | rfl | omega)
theorem cpl_lt {c k n : Nat} (hc : c < n + 1) (hk : k < n + 1) (h : k ≠ c) : cpl c k < n := by unfold cpl; split <;> omega
theorem det_lin : ∀ {n : Nat} {M : Mat} {c : Nat} {x y : Int} {v w : Nat → Int}, c < n → det n (colS M c fun i => x * v i + y * w i) = x * det n (colS M c v) + y * det n (colS M c w)
  | 0, _, _, _, _, _, _, h => by omega
  | n + 1, M, c, x, y, v, w, hc => by
    simp only [det]
    rw [← sm_mul, ← sm_mul, ← sm_add]
    refine sm_congr fun k hk => ?_
    by_cases e : k = c
    · subst e
      rw [mnr_colS_same, mnr_colS_same, mnr_colS_same]
      simp only [colS, if_true]
      simp only [Int.mul_add, Int.add_mul, Int.mul_assoc, Int.mul_left_comm]
    · rw [mnr_colS _ _ e, mnr_colS _ _ e, mnr_colS _ _ e, det_lin (M := mnr M k) (cpl_lt hc hk e)]
      simp only [colS, if_neg e]
      simp only [Int.mul_add, Int.mul_assoc, Int.mul_left_comm]
theorem colS_self (M : Mat) (c : Nat) : colS M c (fun i => M i c) = M := by
  funext i j
  unfold colS
  split
  · rename_i e; subst e; rfl
  · rfl
theorem sm_two {f : Nat → Int} {c : Nat} : ∀ {n : Nat}, c + 1 < n → (∀ k, k < n → k ≠ c → k ≠ c + 1 → f k = 0) → f c + f (c + 1) = 0 → sm f n = 0
  | 0, h, _, _ => by omega
  | n + 1, h, hz, hs => by
    simp only [sm]
    by_cases e : c + 1 = n
    · subst e
      simp only [sm]
      have : sm f c = sm (fun _ => 0) c := sm_congr fun i hi => hz i (by omega) (by omega) (by omega)
      rw [this, sm_zero]; omega
    · rw [sm_two (by omega) (fun k hk h1 h2 => hz k (by omega) h1 h2) hs, hz n (by omega) (by omega) (by omega)]; rfl
theorem det_adj : ∀ {n : Nat} {M : Mat} {c : Nat}, c + 1 < n → (∀ i, i < n → M i c = M i (c + 1)) → det n M = 0
  | 0, _, _, h, _ => by omega
  | n + 1, M, c, h, he => by
    simp only [det]
    refine sm_two (c := c) h (fun k hk h1 h2 => ?_) ?_
    · have : det n (mnr M k) = 0 := by
        refine det_adj (c := cpl c k) ?_ fun i hi => ?_
        · unfold cpl; split <;> omega
        · have := he (i + 1) (by omega)
          have s1 : skp k (cpl c k) = c := by unfold skp cpl; (repeat' split) <;> omega
          have s2 : skp k (cpl c k + 1) = c + 1 := by unfold skp cpl; (repeat' split) <;> omega
          simp only [mnr, s1, s2]; exact this
      rw [this, Int.mul_zero]
    · have e : det n (mnr M c) = det n (mnr M (c + 1)) := det_congr fun i j hi hj => by
        simp only [mnr, skp]
        have := he (i + 1) (by omega)
        by_cases h1 : j < c
        · rw [if_pos h1, if_pos (by omega)]
        · by_cases h2 : j = c
          · subst h2; rw [if_neg h1, if_pos (by omega)]; exact this.symm
          · rw [if_neg h1, if_neg (by omega)]
      rw [e, sgn_succ, he 0 (by omega), Int.neg_mul, Int.neg_mul]; omega
def swp (M : Mat) (c : Nat) : Mat := fun i j => if j = c then M i (c + 1) else if j = c + 1 then M i c else M i j
theorem det_swp {n : Nat} {M : Mat} {c : Nat} (h : c + 1 < n) : det n (swp M c) = - det n M := by
  have A : ∀ u v : Nat → Int, det n (colS (colS M c u) (c + 1) v) + det n (colS (colS M c v) (c + 1) u) = 0 := fun u v => by
    have z : ∀ w : Nat → Int, det n (colS (colS M c w) (c + 1) w) = 0 := fun w => det_adj h fun i _ => by simp [colS]
    have comm : ∀ a b : Nat → Int, colS (colS M c a) (c + 1) b = colS (colS M (c + 1) b) c a := fun a b => by
      funext i j
      unfold colS
      split
      · rename_i e; subst e; rw [if_neg (by omega)]
      · rfl
    have l1 : ∀ a b d : Nat → Int, det n (colS (colS M c d) (c + 1) fun i => 1 * a i + 1 * b i) = 1 * det n (colS (colS M c d) (c + 1) a) + 1 * det n (colS (colS M c d) (c + 1) b) := fun a b d => det_lin h
    have l2 : ∀ a b d : Nat → Int, det n (colS (colS M c fun i => 1 * a i + 1 * b i) (c + 1) d) = 1 * det n (colS (colS M c a) (c + 1) d) + 1 * det n (colS (colS M c b) (c + 1) d) := fun a b d => by
      rw [comm, comm, comm]; exact det_lin (by omega)
    have := z fun i => 1 * u i + 1 * v i
    rw [l1, l2, l2, z, z] at this
    omega
  have := A (fun i => M i (c + 1)) (fun i => M i c)
  have e1 : colS (colS M c fun i => M i (c + 1)) (c + 1) (fun i => M i c) = swp M c := by
    funext i j
    unfold colS swp
    by_cases e : j = c + 1
    · subst e; rw [if_pos rfl, if_neg (by omega), if_pos rfl]
    · rw [if_neg e]; by_cases e2 : j = c
      · rw [if_pos e2, if_pos e2]
      · rw [if_neg e2, if_neg e2, if_neg e]
  have e2 : colS (colS M c fun i => M i c) (c + 1) (fun i => M i (c + 1)) = M := by
    funext i j
    unfold colS
    split
    · rename_i e; subst e; rfl
    · split
      · rename_i e; subst e; rfl
      · rfl
  rw [e1, e2] at this
  omega
theorem det_same {n : Nat} : ∀ (d : Nat) {M : Mat} {p : Nat}, p + d + 1 < n → (∀ i, i < n → M i p = M i (p + d + 1)) → det n M = 0
  | 0, _, _, h, he => det_adj h he
  | d + 1, M, p, h, he => by
    have := det_swp (n := n) (M := M) (c := p + d + 1) (by omega)
    have z : det n (swp M (p + d + 1)) = 0 := det_same d (p := p) (by omega) fun i hi => by
      unfold swp
      rw [if_neg (by omega), if_neg (by omega), if_pos (by omega)]
      exact he i hi
    omega
theorem det_two {n : Nat} {M : Mat} {p q : Nat} (hp : p < n) (hq : q < n) (h : p ≠ q) (he : ∀ i, i < n → M i p = M i q) : det n M = 0 := by
  rcases Nat.lt_or_ge p q with h1 | h1
  · exact det_same (q - p - 1) (p := p) (by omega) fun i hi => by rw [show p + (q - p - 1) + 1 = q by omega]; exact he i hi
  · exact det_same (p - q - 1) (p := q) (by omega) fun i hi => by rw [show q + (p - q - 1) + 1 = p by omega]; exact (he i hi).symm
theorem det_col0 {n : Nat} {M : Mat} {c : Nat} (hc : c < n) : det n (colS M c fun _ => 0) = 0 := by
  have := det_lin (n := n) (M := M) (c := c) (x := 0) (y := 0) (v := fun _ => 0) (w := fun _ => 0) hc
  simpa using this
theorem det_mix {n : Nat} {M : Mat} {c : Nat} (hc : c < n) (s : Nat → Int) : det n (colS M c fun i => sm (fun j => s j * M i j) n) = s c * det n M := by
  have : ∀ m, m ≤ n → det n (colS M c fun i => sm (fun j => s j * M i j) m) = if c < m then s c * det n M else 0 := by
    intro m
    induction m with
    | zero => intro _; simp only [sm]; rw [det_col0 hc]; simp
    | succ m ih =>
      intro hm
      have e : (fun i => sm (fun j => s j * M i j) (m + 1)) = fun i => 1 * sm (fun j => s j * M i j) m + s m * M i m := by
        funext i; simp only [sm, Int.one_mul]
      rw [e, det_lin hc, ih (by omega)]
      by_cases h1 : c = m
      · subst h1
        rw [if_neg (by omega), if_pos (by omega), colS_self]; omega
      · have z : det n (colS M c fun i => M i m) = 0 := det_two hc (by omega) h1 fun i _ => by simp [colS, Ne.symm h1]
        rw [z]
        by_cases h2 : c < m
        · rw [if_pos h2, if_pos (by omega)]; omega
        · rw [if_neg h2, if_neg (by omega)]; omega
  rw [this n (Nat.le_refl _), if_pos hc]
theorem cramer {n : Nat} {M : Mat} {c : Nat} (hc : c < n) {s v : Nat → Int} (h : ∀ i, i < n → sm (fun j => s j * M i j) n = v i) : det n (colS M c v) = s c * det n M := by
  rw [← det_mix hc s]
  refine det_congr fun i j hi _ => ?_
  unfold colS
  split
  · exact (h i hi).symm
  · rfl
def elim (M : Mat) : Mat := fun i j => M 0 0 * M (i + 1) (j + 1) - M 0 (j + 1) * M (i + 1) 0
def elK (M : Mat) (k : Nat) : Mat := fun i j => if 0 < j ∧ j ≤ k then M 0 0 * M i j - M 0 j * M i 0 else M i j
theorem det_elK {n : Nat} {M : Mat} : ∀ k, k ≤ n → det (n + 1) (elK M k) = M 0 0 ^ k * det (n + 1) M
  | 0, _ => by
    have : elK M 0 = M := by funext i j; simp only [elK]; rw [if_neg (by omega)]
    rw [this]; simp
  | k + 1, hk => by
    have e : elK M (k + 1) = colS (elK M k) (k + 1) fun i => M 0 0 * M i (k + 1) + (- M 0 (k + 1)) * M i 0 := by
      funext i j
      simp only [elK, colS]
      by_cases h : j = k + 1
      · subst h; rw [if_pos (by omega), if_pos rfl]; rw [Int.neg_mul]; rfl
      · rw [if_neg h]
        by_cases h2 : 0 < j ∧ j ≤ k
        · rw [if_pos h2, if_pos (by omega)]
        · rw [if_neg h2, if_neg (by omega)]
    rw [e, det_lin (by omega)]
    have e1 : colS (elK M k) (k + 1) (fun i => M i (k + 1)) = elK M k := by
      have : (fun i => M i (k + 1)) = fun i => elK M k i (k + 1) := by funext i; simp only [elK]; rw [if_neg (by omega)]
      rw [this, colS_self]
    have e2 : det (n + 1) (colS (elK M k) (k + 1) fun i => M i 0) = 0 := det_two (p := k + 1) (q := 0) (by omega) (by omega) (by omega) fun i _ => by
      simp only [colS, elK, if_true]
      rw [if_neg (by omega), if_neg (by omega)]
    rw [e1, e2, det_elK k (by omega), Int.pow_succ]; grind
theorem sm_first {f : Nat → Int} : ∀ {n : Nat}, (∀ k, 0 < k → k < n + 1 → f k = 0) → sm f (n + 1) = f 0
  | 0, _ => by simp [sm]
  | n + 1, h => by
    simp only [sm]
    have := sm_first (n := n) fun k h1 h2 => h k h1 (by omega)
    simp only [sm] at this
    rw [this, h (n + 1) (by omega) (by omega)]; omega
theorem chio (n : Nat) (M : Mat) : M 0 0 ^ n * det (n + 1) M = M 0 0 * det n (elim M) := by
  rw [← det_elK n (Nat.le_refl _)]
  simp only [det]
  rw [sm_first fun k h1 h2 => by
    simp only [elK]
    rw [if_pos (by omega), Int.mul_comm (M 0 k)]; simp]
  have e : det n (mnr (elK M n) 0) = det n (elim M) := det_congr fun i j hi hj => by
    have s1 : skp 0 j = j + 1 := by unfold skp; rw [if_neg (by omega)]
    simp only [mnr, elK, elim, s1]
    rw [if_pos (by omega)]
  rw [e]
  have : elK M n 0 0 = M 0 0 := by simp only [elK]; rw [if_neg (by omega)]
  rw [this]; simp [sgn]
def Piv : Nat → Mat → Prop
  | 0, _ => True
  | n + 1, M => M 0 0 ≠ 0 ∧ Piv n (elim M)
inductive MReach (n : Nat) (M : Mat) : Nat → Prop
  | ground {i : Nat} : i < n → 0 < sm (M i) n → MReach n M i
  | link {i k : Nat} : i < n → k < n → i ≠ k → MReach n M k → M i k < 0 → MReach n M i
structure KM (n : Nat) (M : Mat) : Prop where
  off : ∀ i j, i < n → j < n → i ≠ j → M i j ≤ 0
  row : ∀ i, i < n → 0 ≤ sm (M i) n
  re : ∀ i, i < n → MReach n M i
theorem sm_head {f : Nat → Int} : ∀ {n : Nat}, sm f (n + 1) = f 0 + sm (fun i => f (i + 1)) n
  | 0 => by simp [sm]
  | n + 1 => by
    have := sm_head (f := f) (n := n)
    simp only [sm] at this ⊢
    omega
theorem KM.pos {n : Nat} {M : Mat} (h : KM (n + 1) M) : 0 < M 0 0 := by
  have hs := sm_head (f := M 0) (n := n)
  have neg : sm (fun i => M 0 (i + 1)) n ≤ 0 := by
    have := sm_le (f := fun i => M 0 (i + 1)) (g := fun _ => 0) (n := n) fun i hi => h.off 0 (i + 1) (by omega) (by omega) (by omega)
    rwa [sm_zero] at this
  cases h.re 0 (by omega) with
  | ground _ hg => omega
  | @link _ k _ hk hne _ hl =>
    obtain ⟨k, rfl⟩ : ∃ k', k = k' + 1 := ⟨k - 1, by omega⟩
    have h0 := h.row 0 (by omega)
    have := sm_le_at (f := fun i => M 0 (i + 1)) (g := fun _ => 0) (d := - M 0 (k + 1)) (k := k) (n := n) (fun i hi => h.off 0 (i + 1) (by omega) (by omega) (by omega)) (by omega) (by (try dsimp only); omega)
    rw [sm_zero] at this
    omega
theorem elim_row {n : Nat} {M : Mat} (i : Nat) : sm (elim M i) n = M 0 0 * sm (M (i + 1)) (n + 1) - M (i + 1) 0 * sm (M 0) (n + 1) := by
  have e1 : sm (elim M i) n = M 0 0 * sm (fun j => M (i + 1) (j + 1)) n - M (i + 1) 0 * sm (fun j => M 0 (j + 1)) n := by
    rw [← sm_mul, ← sm_mul, ← sm_sub]
    exact sm_congr fun j _ => by simp only [elim]; rw [Int.mul_comm (M 0 (j + 1))]
  rw [e1, sm_head (f := M (i + 1)), sm_head (f := M 0)]; grind
theorem KM.elm {n : Nat} {M : Mat} (h : KM (n + 1) M) : KM n (elim M) := by
  have hp := h.pos
  have low : ∀ i j, i < n → j < n → i ≠ j → Heap.elim M i j ≤ M 0 0 * M (i + 1) (j + 1) ∧ Heap.elim M i j ≤ - (M 0 (j + 1) * M (i + 1) 0) := fun i j hi hj hne => by
    have h1 := h.off (i + 1) (j + 1) (by omega) (by omega) (by omega)
    have h2 := h.off 0 (j + 1) (by omega) (by omega) (by omega)
    have h3 := h.off (i + 1) 0 (by omega) (by omega) (by omega)
    have h4 : 0 ≤ M 0 (j + 1) * M (i + 1) 0 := Int.mul_nonneg_of_nonpos_of_nonpos h2 h3
    have h5 : 0 ≤ M 0 0 * (- M (i + 1) (j + 1)) := Int.mul_nonneg (by omega) (by omega)
    rw [Int.mul_neg] at h5
    simp only [Heap.elim]; omega
  have rows : ∀ i, i < n → M 0 0 * sm (M (i + 1)) (n + 1) ≤ sm (Heap.elim M i) n ∧ (- M (i + 1) 0) * sm (M 0) (n + 1) ≤ sm (Heap.elim M i) n := fun i hi => by
    rw [elim_row]
    have h1 := Int.mul_nonneg (Int.le_of_lt hp) (h.row (i + 1) (by omega))
    have h2 := Int.mul_nonneg (show 0 ≤ - M (i + 1) 0 by have := h.off (i + 1) 0 (by omega) (by omega) (by omega); omega) (h.row 0 (by omega))
    rw [Int.neg_mul] at h2 ⊢
    omega
  refine ⟨fun i j hi hj hne => ?_, fun i hi => ?_, fun i hi => ?_⟩
  · have h1 := (low i j hi hj hne).1
    have h2 : 0 ≤ M 0 0 * (- M (i + 1) (j + 1)) := Int.mul_nonneg (by omega) (by have := h.off (i + 1) (j + 1) (by omega) (by omega) (by omega); omega)
    rw [Int.mul_neg] at h2; omega
  · have := Int.mul_nonneg (Int.le_of_lt hp) (h.row (i + 1) (by omega))
    have := (rows i hi).1; omega
  · have key : ∀ i, MReach (n + 1) M i → (i = 0 → 0 < sm (M 0) (n + 1) ∨ ∃ j, j < n ∧ M 0 (j + 1) < 0 ∧ MReach n (Heap.elim M) j) ∧ ∀ i', i = i' + 1 → MReach n (Heap.elim M) i' := by
      intro i hi
      induction hi with
      | @ground i h1 h2 =>
        refine ⟨fun e => .inl (e ▸ h2), fun i' e => ?_⟩
        subst e
        have := Int.mul_pos hp h2
        exact .ground (by omega) (by have := (rows i' (by omega)).1; omega)
      | @link i k h1 h2 hne _ h4 ih =>
        refine ⟨fun e => ?_, fun i' e => ?_⟩
        · subst e
          obtain ⟨k, rfl⟩ : ∃ k', k = k' + 1 := ⟨k - 1, by omega⟩
          exact .inr ⟨k, by omega, h4, ih.2 k rfl⟩
        · subst e
          by_cases hk : k = 0
          · subst hk
            rcases ih.1 rfl with h5 | ⟨j, j1, j2, j3⟩
            · have := Int.mul_pos (show 0 < - M (i' + 1) 0 by omega) h5
              exact .ground (by omega) (by have := (rows i' (by omega)).2; omega)
            · by_cases e : i' = j
              · subst e; exact j3
              · have := Int.mul_pos (show 0 < - M 0 (j + 1) by omega) (show 0 < - M (i' + 1) 0 by omega)
                rw [Int.neg_mul_neg] at this
                exact .link (by omega) j1 e j3 (by have := (low i' j (by omega) j1 e).2; omega)
          · obtain ⟨k, rfl⟩ : ∃ k', k = k' + 1 := ⟨k - 1, by omega⟩
            have := Int.mul_pos hp (show 0 < - M (i' + 1) (k + 1) by omega)
            rw [Int.mul_neg] at this
            exact .link (by omega) (by omega) (by omega) (ih.2 k rfl) (by have := (low i' k (by omega) (by omega) (by omega)).1; omega)
    exact (key (i + 1) (h.re (i + 1) (by omega))).2 i rfl
theorem KM.piv : ∀ {n : Nat} {M : Mat}, KM n M → Piv n M
  | 0, _, _ => trivial
  | n + 1, _, h => ⟨by have := h.pos; omega, h.elm.piv⟩
theorem Piv.le : ∀ {n m : Nat} {M : Mat}, Piv n M → m ≤ n → Piv m M
  | _, 0, _, _, _ => trivial
  | 0, m + 1, _, _, h => by omega
  | n + 1, m + 1, _, hp, h => ⟨hp.1, hp.2.le (by omega)⟩
def dbd (B : Int) : Nat → Int
  | 0 => 1
  | n + 1 => (n + 1 : Nat) * (B * dbd B n)
theorem mul_abs {a b A B : Int} (h1 : -A ≤ a) (h2 : a ≤ A) (h3 : -B ≤ b) (h4 : b ≤ B) : -(A * B) ≤ a * b ∧ a * b ≤ A * B := by
  have p1 : 0 ≤ (A - a) * (B - b) := Int.mul_nonneg (by omega) (by omega)
  have p2 : 0 ≤ (A + a) * (B + b) := Int.mul_nonneg (by omega) (by omega)
  have p3 : 0 ≤ (A - a) * (B + b) := Int.mul_nonneg (by omega) (by omega)
  have p4 : 0 ≤ (A + a) * (B - b) := Int.mul_nonneg (by omega) (by omega)
  simp only [Int.sub_mul, Int.mul_sub, Int.add_mul, Int.mul_add] at p1 p2 p3 p4
  omega
theorem det_bd {B : Int} (hB : 0 ≤ B) : ∀ {n : Nat} {M : Mat}, (∀ i j, i < n → j < n → -B ≤ M i j ∧ M i j ≤ B) → -dbd B n ≤ det n M ∧ det n M ≤ dbd B n
  | 0, _, _ => by simp [det, dbd]
  | n + 1, M, h => by
    have term : ∀ k, k < n + 1 → -(B * dbd B n) ≤ sgn k * M 0 k * det n (mnr M k) ∧ sgn k * M 0 k * det n (mnr M k) ≤ B * dbd B n := fun k hk => by
      obtain ⟨a1, a2⟩ := h 0 k (by omega) hk
      obtain ⟨b1, b2⟩ := det_bd hB (n := n) (M := mnr M k) fun i j hi hj => h (i + 1) _ (by omega) (skp_lt hj)
      have hs : -B ≤ sgn k * M 0 k ∧ sgn k * M 0 k ≤ B := by unfold sgn; split <;> omega
      exact mul_abs hs.1 hs.2 b1 b2
    have h1 := sm_le (f := fun k => sgn k * M 0 k * det n (mnr M k)) (g := fun _ => B * dbd B n) (n := n + 1) fun k hk => (term k hk).2
    have h2 := sm_le (f := fun _ => -(B * dbd B n)) (g := fun k => sgn k * M 0 k * det n (mnr M k)) (n := n + 1) fun k hk => (term k hk).1
    rw [sm_const] at h1 h2
    rw [Int.mul_neg] at h2
    exact ⟨h2, h1⟩
end Go.Ab.Heap
