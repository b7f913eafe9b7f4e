/- Sets of squares as bits: plain facts. -/
import Derived.Test.YtjipgkhfbfpacaaDoorAbI
set_option linter.all false
namespace Go.Ab.Moss
open Go.Ab

/-! counting bits -/
def pc (k x : Nat) : Nat := (List.range k).countP fun i => x.testBit i
abbrev popc (x : Nat) : Nat := pc 64 x

theorem testBit_high {x n i : Nat} (h : x < 2 ^ n) (hi : n ≤ i) : x.testBit i = false := Nat.testBit_lt_two_pow (Nat.lt_of_lt_of_le h (Nat.pow_le_pow_right (by decide) hi))

theorem pc_add (a b x : Nat) : pc (a + b) x = pc a x + pc b (x / 2 ^ a) := by
  unfold pc
  rw [List.range_add, List.countP_append, List.countP_map]
  congr 1
  apply List.countP_congr
  intro i _
  simp only [Function.comp, Nat.testBit_div_two_pow, Nat.add_comm]
theorem pc_mod (a x : Nat) : pc a (x % 2 ^ a) = pc a x := by
  unfold pc
  apply List.countP_congr
  intro i hi
  have := List.mem_range.1 hi
  simp [Nat.testBit_mod_two_pow, this]

def val : List Nat → Nat
  | [] => 0
  | b :: bs => 256 * val bs + b

theorem split_and {h l m k : Nat} (hl : l < 256) (hk : k < 256) : (256 * h + l) &&& (256 * m + k) = 256 * (h &&& m) + (l &&& k) := by
  apply Nat.eq_of_testBit_eq
  intro i
  have e : (256 : Nat) = 2 ^ 8 := rfl
  have h3 : l &&& k < 2 ^ 8 := Nat.lt_of_le_of_lt Nat.and_le_left hl
  rw [Nat.testBit_and, e, Nat.testBit_two_pow_mul_add _ hl, Nat.testBit_two_pow_mul_add _ hk, Nat.testBit_two_pow_mul_add _ h3]
  split <;> simp

def t1 (b : Nat) : Nat := (b / 2 &&& 85) + (b &&& 85)
def t2 (b : Nat) : Nat := (b / 4 &&& 51) + (b &&& 51)
def t3 (b : Nat) : Nat := b / 16 + b % 16
def S1 (m x : Nat) : Nat := (x / 2 &&& m) + (x &&& m)
def S2 (m x : Nat) : Nat := (x / 4 &&& m) + (x &&& m)
def S3 (m x : Nat) : Nat := (x + x / 16) &&& m

set_option maxRecDepth 100000 in
theorem low1 : ∀ l < 256, ∀ q < 2, (128 * q + l / 2) &&& 85 = l / 2 &&& 85 := by decide +kernel
set_option maxRecDepth 100000 in
theorem low2 : ∀ l < 256, ∀ q < 4, (64 * q + l / 4) &&& 51 = l / 4 &&& 51 := by decide +kernel
set_option maxRecDepth 100000 in
theorem byteFacts : ∀ l < 256, t1 l < 256 ∧ t2 (t1 l) < 256 ∧ t2 (t1 l) % 16 ≤ 4 ∧ t2 (t1 l) / 16 ≤ 4 ∧ t3 (t2 (t1 l)) = pc 8 l ∧ pc 8 l ≤ 8 := by decide +kernel

theorem S1_val : ∀ bs : List Nat, (∀ b ∈ bs, b < 256) → S1 (val (List.replicate bs.length 85)) (val bs) = val (bs.map t1)
  | [], _ => rfl
  | l :: bs, hb => by
    have hl := hb l (by simp)
    have ih := S1_val bs fun b h => hb b (List.mem_cons_of_mem _ h)
    simp only [S1, List.length_cons, List.replicate_succ, val, List.map_cons] at ih ⊢
    generalize val bs = h at *
    generalize val (List.replicate bs.length 85) = m at *
    rw [split_and hl (by decide), show (256 * h + l) / 2 = 256 * (h / 2) + (128 * (h % 2) + l / 2) by omega, split_and (by omega) (by decide), low1 l hl _ (by omega), ← ih, t1]
    omega
theorem S2_val : ∀ bs : List Nat, (∀ b ∈ bs, b < 256) → S2 (val (List.replicate bs.length 51)) (val bs) = val (bs.map t2)
  | [], _ => rfl
  | l :: bs, hb => by
    have hl := hb l (by simp)
    have ih := S2_val bs fun b h => hb b (List.mem_cons_of_mem _ h)
    simp only [S2, List.length_cons, List.replicate_succ, val, List.map_cons] at ih ⊢
    generalize val bs = h at *
    generalize val (List.replicate bs.length 51) = m at *
    rw [split_and hl (by decide), show (256 * h + l) / 4 = 256 * (h / 4) + (64 * (h % 4) + l / 4) by omega, split_and (by omega) (by decide), low2 l hl _ (by omega), ← ih, t2]
    omega
theorem val_mod16 : ∀ bs : List Nat, (∀ b ∈ bs, b % 16 ≤ 4) → val bs % 16 ≤ 4
  | [], _ => by decide
  | l :: bs, hb => by
    have := hb l (by simp)
    simp only [val]; omega
theorem S3_val : ∀ bs : List Nat, (∀ b ∈ bs, b < 256 ∧ b % 16 ≤ 4 ∧ b / 16 ≤ 4) → S3 (val (List.replicate bs.length 15)) (val bs) = val (bs.map t3)
  | [], _ => rfl
  | l :: bs, hb => by
    obtain ⟨hl, h1, h2⟩ := hb l (by simp)
    have ih := S3_val bs fun b h => hb b (List.mem_cons_of_mem _ h)
    have hm := val_mod16 bs fun b h => (hb b (List.mem_cons_of_mem _ h)).2.1
    simp only [S3, List.length_cons, List.replicate_succ, val, List.map_cons] at ih ⊢
    generalize val bs = h at *
    generalize val (List.replicate bs.length 15) = m at *
    have e : 256 * h + l + (256 * h + l) / 16 = 256 * (h + h / 16) + (16 * (h % 16) + l / 16 + l) := by omega
    have e2 : (16 * (h % 16) + l / 16 + l) &&& 15 = t3 l := by
      rw [show (15 : Nat) = 2 ^ 4 - 1 from rfl, Nat.and_two_pow_sub_one_eq_mod, t3]
      omega
    rw [e, split_and (by omega) (by decide), e2, ih]

theorem sum_bytes {p0 p1 p2 p3 p4 p5 p6 p7 S d e : Nat} (h0 : p0 ≤ 8) (h1 : p1 ≤ 8) (h2 : p2 ≤ 8) (h3 : p3 ≤ 8) (h4 : p4 ≤ 8) (h5 : p5 ≤ 8) (h6 : p6 ≤ 8) (h7 : p7 ≤ 8)
    (hS : S = p0 + 256 * (p1 + 256 * (p2 + 256 * (p3 + 256 * (p4 + 256 * (p5 + 256 * (p6 + 256 * p7))))))) (hd : d = S + S / 256) (he : e = d + d / 65536) : (e + e / 4294967296) % 128 = p0 + p1 + p2 + p3 + p4 + p5 + p6 + p7 := by
  have a1 : S / 256 = p1 + 256 * (p2 + 256 * (p3 + 256 * (p4 + 256 * (p5 + 256 * (p6 + 256 * p7))))) := by omega
  have a2 : d = (p0 + p1) + 256 * (p1 + p2) + 65536 * ((p2 + p3) + 256 * (p3 + p4) + 65536 * ((p4 + p5) + 256 * (p5 + p6) + 65536 * ((p6 + p7) + 256 * p7))) := by omega
  clear a1 hd hS
  have a3 : d / 65536 = (p2 + p3) + 256 * (p3 + p4) + 65536 * ((p4 + p5) + 256 * (p5 + p6) + 65536 * ((p6 + p7) + 256 * p7)) := by omega
  have a4 : e = (p0 + p1 + p2 + p3) + 256 * (p1 + p2 + p3 + p4) + 65536 * (p2 + p3 + p4 + p5) + 16777216 * (p3 + p4 + p5 + p6) + 4294967296 * ((p4 + p5 + p6 + p7) + 256 * (p5 + p6 + p7) + 65536 * (p6 + p7) + 16777216 * p7) := by omega
  clear a2 a3 he
  have a5 : e / 4294967296 = (p4 + p5 + p6 + p7) + 256 * (p5 + p6 + p7) + 65536 * (p6 + p7) + 16777216 * p7 := by omega
  omega

/-- The eight bytes. -/
def bytes (x : Nat) : List Nat := [x % 256, x / 256 % 256, x / 65536 % 256, x / 16777216 % 256, x / 4294967296 % 256, x / 1099511627776 % 256, x / 281474976710656 % 256, x / 72057594037927936]
theorem val_bytes (x : Nat) : val (bytes x) = x := by
  simp only [bytes, val]; omega
theorem popc_bytes (x : Nat) (hx : x < 18446744073709551616) : popc x = (((bytes x).map (pc 8)).foldr (· + ·) 0) := by
  have e : ∀ y, pc 8 (y % 256) = pc 8 y := fun y => pc_mod 8 y
  simp only [bytes, List.map_cons, List.map_nil, List.foldr_cons, List.foldr_nil, e]
  have s : ∀ (k y : Nat), pc (8 + k) y = pc 8 y + pc k (y / 256) := fun k y => pc_add 8 k y
  have d : ∀ a b : Nat, x / a / b = x / (a * b) := fun a b => Nat.div_div_eq_div_mul _ _ _
  show pc (8 + (8 + (8 + (8 + (8 + (8 + (8 + (8 + 0)))))))) x = _
  simp only [s, d, Nat.reduceMul]
  rfl

def trick (x : Nat) : Nat :=
  let a := S1 6148914691236517205 x
  let b := S2 3689348814741910323 a
  let c := S3 1085102592571150095 b
  let d := c + c / 256
  let e := d + d / 65536
  let f := e + e / 4294967296
  f % 128

theorem val_le : ∀ L : List Nat, (∀ b ∈ L, b ≤ 68) → val L ≤ val (List.replicate L.length 68)
  | [], _ => Nat.le_refl _
  | b :: L, h => by
    have h1 := val_le L fun c hc => h c (List.mem_cons_of_mem _ hc)
    have h2 := h b (by simp)
    simp only [val, List.length_cons, List.replicate_succ]; omega

theorem trick_steps (x : Nat) (hx : x < 18446744073709551616) :
    S1 6148914691236517205 x < 18446744073709551616 ∧ S2 3689348814741910323 (S1 6148914691236517205 x) ≤ 4919131752989213764 ∧
    S3 1085102592571150095 (S2 3689348814741910323 (S1 6148914691236517205 x)) < 651061555542690057 ∧ trick x = popc x := by
  have hb : ∀ b ∈ bytes x, b < 256 := by
    simp only [bytes, List.mem_cons, List.not_mem_nil, or_false]
    rintro b (rfl | rfl | rfl | rfl | rfl | rfl | rfl | rfl) <;> omega
  have h1 := S1_val (bytes x) hb
  rw [val_bytes, show val (List.replicate (bytes x).length 85) = 6148914691236517205 from by show val (List.replicate 8 85) = _; decide] at h1
  have hb1 : ∀ b ∈ (bytes x).map t1, b < 256 := by
    intro b hb'
    obtain ⟨l, hl, rfl⟩ := List.mem_map.1 hb'
    exact (byteFacts l (hb l hl)).1
  have h2 := S2_val _ hb1
  rw [show val (List.replicate ((bytes x).map t1).length 51) = 3689348814741910323 from by show val (List.replicate 8 51) = _; decide, ← h1] at h2
  have hb2 : ∀ b ∈ ((bytes x).map t1).map t2, b < 256 ∧ b % 16 ≤ 4 ∧ b / 16 ≤ 4 := by
    intro b hb'
    obtain ⟨l', hl', rfl⟩ := List.mem_map.1 hb'
    obtain ⟨l, hl, rfl⟩ := List.mem_map.1 hl'
    obtain ⟨_, q1, q2, q3, _⟩ := byteFacts l (hb l hl)
    exact ⟨q1, q2, q3⟩
  have h3 := S3_val _ hb2
  rw [show val (List.replicate (((bytes x).map t1).map t2).length 15) = 1085102592571150095 from by show val (List.replicate 8 15) = _; decide, ← h2] at h3
  have h4 : (((bytes x).map t1).map t2).map t3 = (bytes x).map (pc 8) := by
    rw [List.map_map, List.map_map]
    apply List.map_congr_left
    intro l hl
    exact (byteFacts l (hb l hl)).2.2.2.2.1
  rw [h4] at h3
  have hv : ∀ L : List Nat, (∀ b ∈ L, b < 256) → val L < 256 ^ L.length := by
    intro L
    induction L with
    | nil => intro _; decide
    | cons b L ih =>
      intro h
      have h5 := ih fun c hc => h c (List.mem_cons_of_mem _ hc)
      have h6 := h b (by simp)
      simp only [val, List.length_cons, Nat.pow_succ]; omega
  have v1 := hv _ hb1
  have v2 := val_le _ fun b h => (by have := hb2 b h; omega : b ≤ 68)
  rw [show val (List.replicate (((bytes x).map t1).map t2).length 68) = 4919131752989213764 from by show val (List.replicate 8 68) = _; decide] at v2
  rw [← h1] at v1
  rw [← h2] at v2
  have hp := popc_bytes x hx
  have hle : ∀ b ∈ bytes x, pc 8 b ≤ 8 := fun l hl => (byteFacts l (hb l hl)).2.2.2.2.2
  unfold trick
  simp only [h3, hp]
  simp only [bytes, List.map_cons, List.map_nil, List.foldr_cons, List.foldr_nil, val, List.length_cons, List.length_nil, List.mem_cons, List.not_mem_nil, or_false, forall_eq_or_imp, forall_eq] at *
  generalize pc 8 (x % 256) = p0 at *
  generalize pc 8 (x / 256 % 256) = p1 at *
  generalize pc 8 (x / 65536 % 256) = p2 at *
  generalize pc 8 (x / 16777216 % 256) = p3 at *
  generalize pc 8 (x / 4294967296 % 256) = p4 at *
  generalize pc 8 (x / 1099511627776 % 256) = p5 at *
  generalize pc 8 (x / 281474976710656 % 256) = p6 at *
  generalize pc 8 (x / 72057594037927936) = p7 at *
  refine ⟨by simpa using v1, v2, by omega, ?_⟩
  rw [sum_bytes hle.1 hle.2.1 hle.2.2.1 hle.2.2.2.1 hle.2.2.2.2.1 hle.2.2.2.2.2.1 hle.2.2.2.2.2.2.1 hle.2.2.2.2.2.2.2 (by omega) rfl rfl]
  omega
end Go.Ab.Moss
