/- MossL0, MossL1, MossT, MossL2. -/
import Derived.Test.YtjipgkhfbfpacaaDoorAbI
import Derived.Test.YtjipgkhfbfpacaaDoorAbI
set_option linter.all false
namespace Go.Ab.Moss
open Go.Ab
def pc (k x : Nat) : Nat := (List.range k).countP fun i => x.testBit i
abbrev popc (x : Nat) : Nat := pc 64 x
theorem testBit_high {x n i : Nat} (h : x < 2 ^ n) (hi : n ≤ i) : x.testBit i = false := Nat.testBit_lt_two_pow (Nat.lt_of_lt_of_le h (Nat.pow_le_pow_right (by decide) hi))
theorem pc_add (a b x : Nat) : pc (a + b) x = pc a x + pc b (x / 2 ^ a) := by
  unfold pc
  rw [List.range_add, List.countP_append, List.countP_map]
  congr 1
  apply List.countP_congr
  intro i _
  simp only [Function.comp, Nat.testBit_div_two_pow, Nat.add_comm]
theorem pc_mod (a x : Nat) : pc a (x % 2 ^ a) = pc a x := by
  unfold pc
  apply List.countP_congr
  intro i hi
  have := List.mem_range.1 hi
  simp [Nat.testBit_mod_two_pow, this]
def val : List Nat → Nat
  | [] => 0
  | b :: bs => 256 * val bs + b
theorem split_and {h l m k : Nat} (hl : l < 256) (hk : k < 256) : (256 * h + l) &&& (256 * m + k) = 256 * (h &&& m) + (l &&& k) := by
  apply Nat.eq_of_testBit_eq
  intro i
  have e : (256 : Nat) = 2 ^ 8 := rfl
  have h3 : l &&& k < 2 ^ 8 := Nat.lt_of_le_of_lt Nat.and_le_left hl
  rw [Nat.testBit_and, e, Nat.testBit_two_pow_mul_add _ hl, Nat.testBit_two_pow_mul_add _ hk, Nat.testBit_two_pow_mul_add _ h3]
  split <;> simp
def t1 (b : Nat) : Nat := (b / 2 &&& 85) + (b &&& 85)
def t2 (b : Nat) : Nat := (b / 4 &&& 51) + (b &&& 51)
def t3 (b : Nat) : Nat := b / 16 + b % 16
def S1 (m x : Nat) : Nat := (x / 2 &&& m) + (x &&& m)
def S2 (m x : Nat) : Nat := (x / 4 &&& m) + (x &&& m)
def S3 (m x : Nat) : Nat := (x + x / 16) &&& m
set_option maxRecDepth 100000 in
theorem low1 : ∀ l < 256, ∀ q < 2, (128 * q + l / 2) &&& 85 = l / 2 &&& 85 := by decide +kernel
set_option maxRecDepth 100000 in
theorem low2 : ∀ l < 256, ∀ q < 4, (64 * q + l / 4) &&& 51 = l / 4 &&& 51 := by decide +kernel
set_option maxRecDepth 100000 in
theorem byteFacts : ∀ l < 256, t1 l < 256 ∧ t2 (t1 l) < 256 ∧ t2 (t1 l) % 16 ≤ 4 ∧ t2 (t1 l) / 16 ≤ 4 ∧ t3 (t2 (t1 l)) = pc 8 l ∧ pc 8 l ≤ 8 := by decide +kernel
theorem S1_val : ∀ bs : List Nat, (∀ b ∈ bs, b < 256) → S1 (val (List.replicate bs.length 85)) (val bs) = val (bs.map t1)
  | [], _ => rfl
  | l :: bs, hb => by
    have hl := hb l (by simp)
    have ih := S1_val bs fun b h => hb b (List.mem_cons_of_mem _ h)
    simp only [S1, List.length_cons, List.replicate_succ, val, List.map_cons] at ih ⊢
    generalize val bs = h at *
    generalize val (List.replicate bs.length 85) = m at *
    rw [split_and hl (by decide), show (256 * h + l) / 2 = 256 * (h / 2) + (128 * (h % 2) + l / 2) by omega, split_and (by omega) (by decide), low1 l hl _ (by omega), ← ih, t1]
    omega
theorem S2_val : ∀ bs : List Nat, (∀ b ∈ bs, b < 256) → S2 (val (List.replicate bs.length 51)) (val bs) = val (bs.map t2)
  | [], _ => rfl
  | l :: bs, hb => by
    have hl := hb l (by simp)
    have ih := S2_val bs fun b h => hb b (List.mem_cons_of_mem _ h)
    simp only [S2, List.length_cons, List.replicate_succ, val, List.map_cons] at ih ⊢
    generalize val bs = h at *
    generalize val (List.replicate bs.length 51) = m at *
    rw [split_and hl (by decide), show (256 * h + l) / 4 = 256 * (h / 4) + (64 * (h % 4) + l / 4) by omega, split_and (by omega) (by decide), low2 l hl _ (by omega), ← ih, t2]
    omega
theorem val_mod16 : ∀ bs : List Nat, (∀ b ∈ bs, b % 16 ≤ 4) → val bs % 16 ≤ 4
  | [], _ => by decide
  | l :: bs, hb => by
    have := hb l (by simp)
    simp only [val]; omega
theorem S3_val : ∀ bs : List Nat, (∀ b ∈ bs, b < 256 ∧ b % 16 ≤ 4 ∧ b / 16 ≤ 4) → S3 (val (List.replicate bs.length 15)) (val bs) = val (bs.map t3)
  | [], _ => rfl
  | l :: bs, hb => by
    obtain ⟨hl, h1, h2⟩ := hb l (by simp)
    have ih := S3_val bs fun b h => hb b (List.mem_cons_of_mem _ h)
    have hm := val_mod16 bs fun b h => (hb b (List.mem_cons_of_mem _ h)).2.1
    simp only [S3, List.length_cons, List.replicate_succ, val, List.map_cons] at ih ⊢
    generalize val bs = h at *
    generalize val (List.replicate bs.length 15) = m at *
    have e : 256 * h + l + (256 * h + l) / 16 = 256 * (h + h / 16) + (16 * (h % 16) + l / 16 + l) := by omega
    have e2 : (16 * (h % 16) + l / 16 + l) &&& 15 = t3 l := by
      rw [show (15 : Nat) = 2 ^ 4 - 1 from rfl, Nat.and_two_pow_sub_one_eq_mod, t3]
      omega
    rw [e, split_and (by omega) (by decide), e2, ih]
theorem sum_bytes {p0 p1 p2 p3 p4 p5 p6 p7 S d e : Nat} (h0 : p0 ≤ 8) (h1 : p1 ≤ 8) (h2 : p2 ≤ 8) (h3 : p3 ≤ 8) (h4 : p4 ≤ 8) (h5 : p5 ≤ 8) (h6 : p6 ≤ 8) (h7 : p7 ≤ 8)
    (hS : S = p0 + 256 * (p1 + 256 * (p2 + 256 * (p3 + 256 * (p4 + 256 * (p5 + 256 * (p6 + 256 * p7))))))) (hd : d = S + S / 256) (he : e = d + d / 65536) : (e + e / 4294967296) % 128 = p0 + p1 + p2 + p3 + p4 + p5 + p6 + p7 := by
  have a1 : S / 256 = p1 + 256 * (p2 + 256 * (p3 + 256 * (p4 + 256 * (p5 + 256 * (p6 + 256 * p7))))) := by omega
  have a2 : d = (p0 + p1) + 256 * (p1 + p2) + 65536 * ((p2 + p3) + 256 * (p3 + p4) + 65536 * ((p4 + p5) + 256 * (p5 + p6) + 65536 * ((p6 + p7) + 256 * p7))) := by omega
  clear a1 hd hS
  have a3 : d / 65536 = (p2 + p3) + 256 * (p3 + p4) + 65536 * ((p4 + p5) + 256 * (p5 + p6) + 65536 * ((p6 + p7) + 256 * p7)) := by omega
  have a4 : e = (p0 + p1 + p2 + p3) + 256 * (p1 + p2 + p3 + p4) + 65536 * (p2 + p3 + p4 + p5) + 16777216 * (p3 + p4 + p5 + p6) + 4294967296 * ((p4 + p5 + p6 + p7) + 256 * (p5 + p6 + p7) + 65536 * (p6 + p7) + 16777216 * p7) := by omega
  clear a2 a3 he
  have a5 : e / 4294967296 = (p4 + p5 + p6 + p7) + 256 * (p5 + p6 + p7) + 65536 * (p6 + p7) + 16777216 * p7 := by omega
  omega
def bytes (x : Nat) : List Nat := [x % 256, x / 256 % 256, x / 65536 % 256, x / 16777216 % 256, x / 4294967296 % 256, x / 1099511627776 % 256, x / 281474976710656 % 256, x / 72057594037927936]
theorem val_bytes (x : Nat) : val (bytes x) = x := by
  simp only [bytes, val]; omega
theorem popc_bytes (x : Nat) (hx : x < 18446744073709551616) : popc x = (((bytes x).map (pc 8)).foldr (· + ·) 0) := by
  have e : ∀ y, pc 8 (y % 256) = pc 8 y := fun y => pc_mod 8 y
  simp only [bytes, List.map_cons, List.map_nil, List.foldr_cons, List.foldr_nil, e]
  have s : ∀ (k y : Nat), pc (8 + k) y = pc 8 y + pc k (y / 256) := fun k y => pc_add 8 k y
  have d : ∀ a b : Nat, x / a / b = x / (a * b) := fun a b => Nat.div_div_eq_div_mul _ _ _
  show pc (8 + (8 + (8 + (8 + (8 + (8 + (8 + (8 + 0)))))))) x = _
  simp only [s, d, Nat.reduceMul]
  rfl
def trick (x : Nat) : Nat :=
  let a := S1 6148914691236517205 x
  let b := S2 3689348814741910323 a
  let c := S3 1085102592571150095 b
  let d := c + c / 256
  let e := d + d / 65536
  let f := e + e / 4294967296
  f % 128
theorem val_le : ∀ L : List Nat, (∀ b ∈ L, b ≤ 68) → val L ≤ val (List.replicate L.length 68)
  | [], _ => Nat.le_refl _
  | b :: L, h => by
    have h1 := val_le L fun c hc => h c (List.mem_cons_of_mem _ hc)
    have h2 := h b (by simp)
    simp only [val, List.length_cons, List.replicate_succ]; omega
theorem trick_steps (x : Nat) (hx : x < 18446744073709551616) :
    S1 6148914691236517205 x < 18446744073709551616 ∧ S2 3689348814741910323 (S1 6148914691236517205 x) ≤ 4919131752989213764 ∧
    S3 1085102592571150095 (S2 3689348814741910323 (S1 6148914691236517205 x)) < 651061555542690057 ∧ trick x = popc x := by
  have hb : ∀ b ∈ bytes x, b < 256 := by
    simp only [bytes, List.mem_cons, List.not_mem_nil, or_false]
    rintro b (rfl | rfl | rfl | rfl | rfl | rfl | rfl | rfl) <;> omega
  have h1 := S1_val (bytes x) hb
  rw [val_bytes, show val (List.replicate (bytes x).length 85) = 6148914691236517205 from by show val (List.replicate 8 85) = _; decide] at h1
  have hb1 : ∀ b ∈ (bytes x).map t1, b < 256 := by
    intro b hb'
    obtain ⟨l, hl, rfl⟩ := List.mem_map.1 hb'
    exact (byteFacts l (hb l hl)).1
  have h2 := S2_val _ hb1
  rw [show val (List.replicate ((bytes x).map t1).length 51) = 3689348814741910323 from by show val (List.replicate 8 51) = _; decide, ← h1] at h2
  have hb2 : ∀ b ∈ ((bytes x).map t1).map t2, b < 256 ∧ b % 16 ≤ 4 ∧ b / 16 ≤ 4 := by
    intro b hb'
    obtain ⟨l', hl', rfl⟩ := List.mem_map.1 hb'
    obtain ⟨l, hl, rfl⟩ := List.mem_map.1 hl'
    obtain ⟨_, q1, q2, q3, _⟩ := byteFacts l (hb l hl)
    exact ⟨q1, q2, q3⟩
  have h3 := S3_val _ hb2
  rw [show val (List.replicate (((bytes x).map t1).map t2).length 15) = 1085102592571150095 from by show val (List.replicate 8 15) = _; decide, ← h2] at h3
  have h4 : (((bytes x).map t1).map t2).map t3 = (bytes x).map (pc 8) := by
    rw [List.map_map, List.map_map]
    apply List.map_congr_left
    intro l hl
    exact (byteFacts l (hb l hl)).2.2.2.2.1
  rw [h4] at h3
  have hv : ∀ L : List Nat, (∀ b ∈ L, b < 256) → val L < 256 ^ L.length := by
    intro L
    induction L with
    | nil => intro _; decide
    | cons b L ih =>
      intro h
      have h5 := ih fun c hc => h c (List.mem_cons_of_mem _ hc)
      have h6 := h b (by simp)
      simp only [val, List.length_cons, Nat.pow_succ]; omega
  have v1 := hv _ hb1
  have v2 := val_le _ fun b h => (by have := hb2 b h; omega : b ≤ 68)
  rw [show val (List.replicate (((bytes x).map t1).map t2).length 68) = 4919131752989213764 from by show val (List.replicate 8 68) = _; decide] at v2
  rw [← h1] at v1
  rw [← h2] at v2
  have hp := popc_bytes x hx
  have hle : ∀ b ∈ bytes x, pc 8 b ≤ 8 := fun l hl => (byteFacts l (hb l hl)).2.2.2.2.2
  unfold trick
  simp only [h3, hp]
  simp only [bytes, List.map_cons, List.map_nil, List.foldr_cons, List.foldr_nil, val, List.length_cons, List.length_nil, List.mem_cons, List.not_mem_nil, or_false, forall_eq_or_imp, forall_eq] at *
  generalize pc 8 (x % 256) = p0 at *
  generalize pc 8 (x / 256 % 256) = p1 at *
  generalize pc 8 (x / 65536 % 256) = p2 at *
  generalize pc 8 (x / 16777216 % 256) = p3 at *
  generalize pc 8 (x / 4294967296 % 256) = p4 at *
  generalize pc 8 (x / 1099511627776 % 256) = p5 at *
  generalize pc 8 (x / 281474976710656 % 256) = p6 at *
  generalize pc 8 (x / 72057594037927936) = p7 at *
  refine ⟨by simpa using v1, v2, by omega, ?_⟩
  rw [sum_bytes hle.1 hle.2.1 hle.2.2.1 hle.2.2.2.1 hle.2.2.2.2.1 hle.2.2.2.2.2.1 hle.2.2.2.2.2.2.1 hle.2.2.2.2.2.2.2 (by omega) rfl rfl]
  omega
end Go.Ab.Moss
set_option linter.all false
namespace Go.Ab.Moss
open Go.Ab
def tz (x : Nat) : Nat := ((List.range 64).find? fun i => x.testBit i).getD 0
def bl (x : Nat) : List Nat := (List.range 64).filter fun i => x.testBit i
theorem bl_length {x : Nat} : (bl x).length = popc x := by simp [bl, pc, List.countP_eq_length_filter]
theorem bl_zero : bl 0 = [] := by decide
theorem tz_spec {x : Nat} (h0 : x ≠ 0) (hx : x < 2 ^ 64) : tz x < 64 ∧ x.testBit (tz x) = true ∧ ∀ j, j < tz x → x.testBit j = false := by
  obtain ⟨i, hi⟩ := Nat.exists_testBit_of_ne_zero h0
  have hi64 : i < 64 := by
    rcases Nat.lt_or_ge i 64 with h1 | h1
    · exact h1
    · rw [testBit_high hx h1] at hi; cases hi
  unfold tz
  cases hf : (List.range 64).find? fun i => x.testBit i with
  | none =>
    have := List.find?_eq_none.1 hf i (List.mem_range.2 hi64)
    simp [hi] at this
  | some t =>
    have h1 := List.find?_some hf
    have h2 := List.mem_range.1 (List.mem_of_find?_eq_some hf)
    refine ⟨h2, h1, fun j hj => ?_⟩
    simp only [Option.getD_some] at hj
    rw [List.find?_range_eq_some] at hf
    have := hf.2.2 j hj
    simpa using this
theorem tz_form {x : Nat} (h0 : x ≠ 0) (hx : x < 2 ^ 64) : ∃ q, x = 2 ^ (tz x + 1) * q + 2 ^ tz x := by
  obtain ⟨_, h1, h2⟩ := tz_spec h0 hx
  generalize tz x = t at *
  refine ⟨x / 2 ^ (t + 1), ?_⟩
  apply Nat.eq_of_testBit_eq
  intro i
  rw [Nat.testBit_two_pow_mul_add _ (Nat.pow_lt_pow_right (by decide) (Nat.lt_succ_self t))]
  split
  · rename_i hi
    rw [Nat.testBit_two_pow]
    by_cases e : t = i
    · subst e; simp [h1]
    · rw [h2 i (by omega)]; simp [e]
  · rename_i hi
    rw [Nat.testBit_div_two_pow, Nat.sub_add_cancel (by omega)]
theorem bit_x {t q i : Nat} : (2 ^ (t + 1) * q + 2 ^ t).testBit i = if i < t + 1 then decide (i = t) else q.testBit (i - (t + 1)) := by
  rw [Nat.testBit_two_pow_mul_add _ (Nat.pow_lt_pow_right (by decide) (Nat.lt_succ_self t))]
  split
  · rw [Nat.testBit_two_pow]; simp [eq_comm]
  · rfl
theorem bit_pred {t q i : Nat} : (2 ^ (t + 1) * q + 2 ^ t - 1).testBit i = if i < t + 1 then decide (i < t) else q.testBit (i - (t + 1)) := by
  have h1 : 0 < 2 ^ t := Nat.two_pow_pos t
  have e : 2 ^ (t + 1) * q + 2 ^ t - 1 = 2 ^ (t + 1) * q + (2 ^ t - 1) := by omega
  have h2 : 2 ^ t - 1 < 2 ^ (t + 1) := by rw [Nat.pow_succ]; omega
  rw [e, Nat.testBit_two_pow_mul_add _ h2]
  split
  · rw [Nat.testBit_two_pow_sub_one]
  · rfl
theorem and_pred {x : Nat} (h0 : x ≠ 0) (hx : x < 2 ^ 64) (i : Nat) : (x &&& (x - 1)).testBit i = (x.testBit i && decide (i ≠ tz x)) := by
  obtain ⟨q, hq⟩ := tz_form h0 hx
  generalize tz x = t at *
  subst hq
  rw [Nat.testBit_and, bit_x, bit_pred]
  by_cases h : i < t + 1
  · simp only [h, if_true]
    by_cases e : i = t
    · subst e; simp
    · simp [e]
  · have : i ≠ t := by omega
    simp [h, this]
theorem and_neg {x : Nat} (h0 : x ≠ 0) (hx : x < 2 ^ 64) : x &&& (18446744073709551616 - x) = 2 ^ tz x := by
  have ht := (tz_spec h0 hx).1
  obtain ⟨q, hq⟩ := tz_form h0 hx
  generalize tz x = t at *
  have hqb : q < 2 ^ (63 - t) := by
    have e : 2 ^ 64 = 2 ^ (t + 1) * 2 ^ (63 - t) := by rw [← Nat.pow_add]; congr 1; omega
    rcases Nat.lt_or_ge q (2 ^ (63 - t)) with h | h
    · exact h
    · have := Nat.mul_le_mul_left (2 ^ (t + 1)) h
      rw [← e] at this
      have := Nat.two_pow_pos t
      omega
  have e : 18446744073709551616 - x = 2 ^ (t + 1) * (2 ^ (63 - t) - (q + 1)) + 2 ^ t := by
    have e1 : 2 ^ (t + 1) * 2 ^ (63 - t) = 18446744073709551616 := by rw [← Nat.pow_add, show t + 1 + (63 - t) = 64 by omega]
    have e2 : 2 ^ (t + 1) = 2 * 2 ^ t := by rw [Nat.pow_succ]; omega
    rw [Nat.mul_sub, e1, Nat.mul_add, Nat.mul_one]
    have := Nat.mul_le_mul_left (2 ^ (t + 1)) (Nat.succ_le_of_lt hqb)
    rw [e1, Nat.mul_succ] at this
    omega
  apply Nat.eq_of_testBit_eq
  intro i
  rw [e, Nat.testBit_and, hq, bit_x, bit_x, Nat.testBit_two_pow]
  by_cases h : i < t + 1
  · simp [h, eq_comm]
  · have hn : ¬ t = i := by omega
    simp only [h, if_false, hn, decide_false]
    rw [Nat.testBit_two_pow_sub_succ hqb]
    cases q.testBit (i - (t + 1)) <;> simp
theorem bl_step {x : Nat} (h0 : x ≠ 0) (hx : x < 2 ^ 64) : bl x = tz x :: bl (x &&& (x - 1)) := by
  obtain ⟨ht, h1, h2⟩ := tz_spec h0 hx
  have h3 := and_pred h0 hx
  generalize tz x = t at *
  unfold bl
  have e : List.range 64 = List.range t ++ (t :: (List.range (63 - t)).map (fun i => t + 1 + i)) := by
    have e1 : (64 : Nat) = t + (1 + (63 - t)) := by omega
    rw [e1, List.range_add, List.range_add]
    simp [Nat.add_assoc]
  rw [e, List.filter_append, List.filter_append, List.filter_cons, List.filter_cons]
  have f1 : (List.range t).filter (fun i => x.testBit i) = [] := List.filter_eq_nil_iff.2 fun i hi => by simp [h2 i (List.mem_range.1 hi)]
  have f2 : (List.range t).filter (fun i => (x &&& (x - 1)).testBit i) = [] := List.filter_eq_nil_iff.2 fun i hi => by rw [h3]; simp [h2 i (List.mem_range.1 hi)]
  have f3 : (x &&& (x - 1)).testBit t = false := by rw [h3]; simp
  rw [f1, f2, h1, f3]
  simp only [if_true, List.nil_append, Bool.false_eq_true, if_false]
  congr 1
  apply List.filter_congr
  intro i hi
  obtain ⟨j, _, rfl⟩ := List.mem_map.1 hi
  have : ¬ t + 1 + j = t := by omega
  rw [h3]
  simp [this]
def deBruijn : List Nat := [0, 1, 56, 2, 57, 49, 28, 3, 61, 58, 42, 50, 38, 29, 17, 4, 62, 47, 59, 36, 45, 43, 51, 22, 53, 39, 33, 30, 24, 18, 12, 5, 63, 55, 48, 27, 60, 41, 37, 16, 46, 35, 44, 21, 52, 32, 23, 11, 54, 26, 40, 15, 34, 20, 31, 10, 25, 14, 19, 9, 13, 8, 7, 6]
def tzIx (x : Nat) : Nat := x * 285870213051353865 % 18446744073709551616 / 2 ^ 58
set_option maxRecDepth 100000 in
theorem deBruijn_ok : ∀ t < 64, tzIx (2 ^ t) < 64 ∧ deBruijn[tzIx (2 ^ t)]? = some t := by decide +kernel
end Go.Ab.Moss
set_option linter.all false
namespace Go.Ab.Moss
open Go Go.Ab
structure Mw where
  rows : Int
  cols : Int
  need : Int
abbrev dMw (m : Mw) : DV := .agg [i64 m.rows, i64 m.cols, i64 m.need]
structure Mn where
  r : Nat
  c : Nat
  nd : Nat
abbrev dMn (n : Mn) : DV := .agg [i64 (n.r : Int), i64 (n.c : Int), i64 (n.nd : Int)]
structure Mn.Ok (n : Mn) : Prop where
  r1 : 1 ≤ n.r
  r2 : n.r ≤ 6
  c1 : 1 ≤ n.c
  c2 : n.c ≤ 6
  n1 : 1 ≤ n.nd
  n2 : n.nd ≤ 3
abbrev Mn.w (n : Mn) : Mw := ⟨n.r, n.c, n.nd⟩
def Mn.N (n : Mn) : Nat := n.r * n.c
theorem Mn.Ok.N2 {n : Mn} (h : n.Ok) : n.r * n.c ≤ 36 := Nat.mul_le_mul h.r2 h.c2
def full (n : Mn) : Nat := 2 ^ (n.r * n.c) - 1
theorem full_lt {n : Mn} (h : n.Ok) : full n < 68719476736 := by
  have h1 : 2 ^ (n.r * n.c) ≤ 2 ^ 36 := Nat.pow_le_pow_right (by decide) h.N2
  have h2 : 0 < 2 ^ (n.r * n.c) := Nat.two_pow_pos _
  unfold full
  omega
def fromB (n lo hi : Int) : Bool := decide (lo ≤ n) && decide (n ≤ hi)
def validB (m : Mw) : Bool := fromB m.rows 1 6 && fromB m.cols 1 6 && fromB m.need 1 3
def valid (m : Mw) : Int := if validB m then 0 else 1
theorem valid_n {m : Mw} (h : validB m = true) : ∃ n : Mn, n.Ok ∧ m = n.w := by
  obtain ⟨r, c, d⟩ := m
  simp only [validB, fromB, Bool.and_eq_true, decide_eq_true_eq] at h
  refine ⟨⟨r.toNat, c.toNat, d.toNat⟩, ⟨?_, ?_, ?_, ?_, ?_, ?_⟩, ?_⟩ <;> simp only [Mw.mk.injEq] <;> omega
theorem n_valid {n : Mn} (h : n.Ok) : validB n.w = true := by
  obtain ⟨h1, h2, h3, h4, h5, h6⟩ := h
  simp only [validB, fromB, Bool.and_eq_true, decide_eq_true_eq]
  omega
def bset (p : Nat → Bool) : Nat → Nat
  | 0 => 0
  | k + 1 => if p k then bset p k ||| 2 ^ k else bset p k
theorem testBit_bset (p : Nat → Bool) : ∀ k i, (bset p k).testBit i = (decide (i < k) && p i)
  | 0, i => by simp [bset]
  | k + 1, i => by
    simp only [bset]
    have e : (decide (i < k + 1)) = (decide (i < k) || decide (i = k)) := by
      rw [Bool.eq_iff_iff]; simp; omega
    split
    · rename_i h
      rw [Nat.testBit_or, testBit_bset p k, Nat.testBit_two_pow, e]
      by_cases hi : k = i
      · subst hi; simp [h]
      · have : ¬ i = k := fun h => hi h.symm
        simp [hi, this]
    · rename_i h
      rw [testBit_bset p k, e]
      by_cases hi : i = k
      · subst hi; simp [h]
      · simp [hi]
theorem bset_lt (p : Nat → Bool) (k : Nat) : bset p k < 2 ^ k := by
  apply Nat.lt_pow_two_of_testBit
  intro i hi
  rw [testBit_bset]
  simp; omega
theorem bset_lt36 {p : Nat → Bool} {k : Nat} (h : k ≤ 36) : bset p k < 68719476736 := Nat.lt_of_lt_of_le (bset_lt p k) (Nat.pow_le_pow_right (n := 2) (by decide) h)
def ar1 (n : Mn) (k : Nat) : Nat := if 0 < k / n.c then 0 ||| 2 ^ (k - n.c) else 0
def ar2 (n : Mn) (k : Nat) : Nat := if 0 < k % n.c then ar1 n k ||| 2 ^ (k - 1) else ar1 n k
def ar3 (n : Mn) (k : Nat) : Nat := if k % n.c + 1 < n.c then ar2 n k ||| 2 ^ (k + 1) else ar2 n k
def arN (n : Mn) (k : Nat) : Nat := if k / n.c + 1 < n.r then ar3 n k ||| 2 ^ (k + n.c) else ar3 n k
theorem row_lt {n : Mn} {k : Nat} (hk : k < n.r * n.c) (hc : 0 < n.c) : k / n.c < n.r := Nat.div_lt_of_lt_mul (by rw [Nat.mul_comm]; exact hk)
theorem down_lt {n : Mn} {k : Nat} (hc : 0 < n.c) (h : k / n.c + 1 < n.r) : k + n.c < n.r * n.c := by
  have h1 := Nat.div_add_mod k n.c
  have h2 := Nat.mod_lt k hc
  have h3 := Nat.mul_le_mul_left n.c (show k / n.c + 2 ≤ n.r by omega)
  rw [Nat.mul_comm n.r, Nat.mul_add] at *
  omega
theorem right_lt {n : Mn} {k : Nat} (hk : k < n.r * n.c) (hc : 0 < n.c) (h : k % n.c + 1 < n.c) : k + 1 < n.r * n.c := by
  have h1 := Nat.div_add_mod k n.c
  have h3 := Nat.mul_le_mul_left n.c (show k / n.c + 1 ≤ n.r from row_lt hk hc)
  rw [Nat.mul_comm n.r, Nat.mul_add] at *
  omega
theorem up_le {n : Mn} {k : Nat} (h : 0 < k / n.c) : n.c ≤ k := (Nat.div_pos_iff.1 h).2
theorem left_le {n : Mn} {k : Nat} (h : 0 < k % n.c) : 1 ≤ k := by
  rcases Nat.eq_zero_or_pos k with h1 | h1
  · subst h1; simp at h
  · exact h1
theorem ar1_lt {n : Mn} (h : n.Ok) {k : Nat} (hk : k < n.r * n.c) : ar1 n k < 68719476736 := by
  have := h.N2
  unfold ar1; split
  · exact or36 (by decide) (two36 (by omega))
  · decide
theorem ar2_lt {n : Mn} (h : n.Ok) {k : Nat} (hk : k < n.r * n.c) : ar2 n k < 68719476736 := by
  have := h.N2
  unfold ar2; split
  · exact or36 (ar1_lt h hk) (two36 (by omega))
  · exact ar1_lt h hk
theorem ar3_lt {n : Mn} (h : n.Ok) {k : Nat} (hk : k < n.r * n.c) : ar3 n k < 68719476736 := by
  have := h.N2
  unfold ar3; split
  · rename_i h1
    have := right_lt hk h.c1 h1
    exact or36 (ar2_lt h hk) (two36 (by omega))
  · exact ar2_lt h hk
theorem arN_lt {n : Mn} (h : n.Ok) {k : Nat} (hk : k < n.r * n.c) : arN n k < 68719476736 := by
  have := h.N2
  unfold arN; split
  · rename_i h1
    have := down_lt (k := k) h.c1 h1
    exact or36 (ar3_lt h hk) (two36 (by omega))
  · exact ar3_lt h hk
def rdB (n : Mn) (w k : Nat) : Bool := !w.testBit k && decide (n.nd ≤ popc (arN n k &&& w))
def rdN (n : Mn) (w : Nat) : Nat := bset (rdB n w) (n.r * n.c)
theorem rdN_lt {n : Mn} (h : n.Ok) {w : Nat} : rdN n w < 68719476736 := bset_lt36 h.N2
end Go.Ab.Moss
namespace Go.Ab.Moss
open Go Go.Ab
def ns (l : List Nat) : List Int := l.map fun (j : Nat) => (j : Int)
theorem ns_len (l : List Nat) : (ns l).length = l.length := by simp [ns]
theorem ns_snoc (l : List Nat) (j : Nat) : ns (l ++ [j]) = ns l ++ [(j : Int)] := by simp [ns]
def rem (x : Nat) : Nat → Nat
  | 0 => x
  | k + 1 => rem x k &&& (rem x k - 1)
theorem rem_le (x : Nat) : ∀ k, rem x k ≤ x
  | 0 => Nat.le_refl _
  | k + 1 => Nat.le_trans Nat.and_le_left (rem_le x k)
theorem bl_rem {x : Nat} (hx : x < 2 ^ 64) : ∀ k, bl (rem x k) = (bl x).drop k
  | 0 => rfl
  | k + 1 => by
    have ih := bl_rem hx k
    have hlt : rem x k < 2 ^ 64 := Nat.lt_of_le_of_lt (rem_le x k) hx
    simp only [rem]
    by_cases h0 : rem x k = 0
    · rw [h0] at ih ⊢
      have : (bl x).length ≤ k := by
        have h1 := congrArg List.length ih
        rw [bl_zero, List.length_drop] at h1
        simp only [List.length_nil] at h1
        omega
      rw [List.drop_eq_nil_of_le (by omega)]
      exact bl_zero
    · rw [bl_step h0 hlt] at ih
      rw [← List.tail_drop, ← ih, List.tail_cons]
theorem rem_zero {x : Nat} (hx : x < 2 ^ 64) {k : Nat} : rem x k = 0 ↔ (bl x).length ≤ k := by
  have h := bl_rem hx k
  have hlt : rem x k < 2 ^ 64 := Nat.lt_of_le_of_lt (rem_le x k) hx
  constructor
  · intro h0
    rw [h0, bl_zero] at h
    have h1 := congrArg List.length h
    rw [List.length_drop] at h1
    simp only [List.length_nil] at h1
    omega
  · intro hk
    rcases Nat.eq_zero_or_pos (rem x k) with h0 | h0
    · exact h0
    · rw [List.drop_eq_nil_of_le hk, bl_step (by omega) hlt] at h
      cases h
theorem bl_get {x : Nat} (hx : x < 2 ^ 64) {k : Nat} (h0 : rem x k ≠ 0) : (bl x)[k]? = some (tz (rem x k)) := by
  have h := bl_rem hx k
  have hlt : rem x k < 2 ^ 64 := Nat.lt_of_le_of_lt (rem_le x k) hx
  rw [bl_step h0 hlt] at h
  have := congrArg List.head? h
  simpa [List.head?_drop] using this.symm
theorem bl_take {x : Nat} (hx : x < 2 ^ 64) {k : Nat} (h0 : rem x k ≠ 0) : ns ((bl x).take (k + 1)) = ns ((bl x).take k) ++ [(tz (rem x k) : Int)] := by
  rw [← ns_snoc, List.take_succ, bl_get hx h0]; rfl
theorem bl_len {x : Nat} : (bl x).length ≤ 64 := by rw [bl_length]; exact Nat.le_trans List.countP_le_length (by simp)
end Go.Ab.Moss
set_option linter.all false
namespace Go.Ab.Moss
open Go Go.Ab
end Go.Ab.Moss
