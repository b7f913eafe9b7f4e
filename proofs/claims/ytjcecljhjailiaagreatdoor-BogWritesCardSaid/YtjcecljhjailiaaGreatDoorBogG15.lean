/- BogL1, BogL2, BogLb, Ab45, Ab46. -/
import Derived.Test.YtjcecljhjailiaaGreatDoorBogG14
import Derived.Lib.IndexMore
import Derived.Lib.ItoaNum
import Derived.Lib.Split
import Derived.Lib.SplitLaws
import Derived.Lib.AtoiAll
import Derived.Test.YtjcecljhjailiaaGreatDoorBogG10
import Derived.Test.YtjcecljhjailiaaGreatDoorBogG10
import Derived.Test.YtjcecljhjailiaaGreatDoorBogG14
import Derived.Lib.AppendIntMem
import Derived.WalkSmall
import Derived.Test.YtjcecljhjailiaaGreatDoorBogG13
set_option linter.all false
namespace Go.Ab.Bog
open Go Go.Ab
def stepS (s : Nat) (b : UInt8) : Nat := (s * 257 + b.toNat + 1) % 1000003
def sumL (s : Nat) (T : Tx) : Nat := T.foldl stepS s
theorem sumL_app (s : Nat) (A B : Tx) : sumL s (A ++ B) = sumL (sumL s A) B := by simp [sumL]
theorem sumL_lt {s : Nat} (hs : s < 1000003) : ∀ T : Tx, sumL s T < 1000003 := by
  intro T
  unfold sumL
  induction T generalizing s with
  | nil => exact hs
  | cons b T ih => exact ih (Nat.mod_lt _ (by decide))
def sum0 (before : Int) : Nat := (before % 1000003).toNat
theorem sum0_lt (before : Int) : sum0 before < 1000003 := by unfold sum0; omega
def dd (s : Nat) : Tx := Lib.decDigits s
def lineL (s : Nat) (T : Tx) : Tx := dd (sumL s T) ++ [32] ++ T ++ [10]
def bookL : Nat → List Tx → Tx
  | _, [] => []
  | s, T :: l => lineL s T ++ bookL (sumL s T) l
def sumE (s : Nat) (l : List Tx) : Nat := l.foldl sumL s
theorem bookL_app : ∀ (s : Nat) (a b : List Tx), bookL s (a ++ b) = bookL s a ++ bookL (sumE s a) b
  | _, [], _ => rfl
  | s, T :: a, b => by
    show lineL s T ++ bookL (sumL s T) (a ++ b) = _
    rw [bookL_app (sumL s T) a b, ← List.append_assoc]; rfl
theorem sumE_lt {s : Nat} (hs : s < 1000003) : ∀ l : List Tx, sumE s l < 1000003 := by
  intro l
  unfold sumE
  induction l generalizing s with
  | nil => exact hs
  | cons T l ih => exact ih (sumL_lt hs T)
def isTx (T : Tx) : Bool := decide (1 ≤ T.length) && decide (T.length ≤ 40) && !T.contains 10
theorem dd_digit : ∀ (s : Nat) (b : UInt8), b ∈ dd s → 48 ≤ b.toNat ∧ b.toNat ≤ 57 := by
  intro s
  unfold dd
  induction s using Nat.strongRecOn with
  | _ s ih =>
    intro b hb
    rw [Lib.decDigits] at hb
    split at hb
    · simp only [List.mem_singleton] at hb
      subst hb
      simp; omega
    · rename_i h
      rcases List.mem_append.1 hb with hb | hb
      · exact ih (s / 10) (by omega) b hb
      · simp only [List.mem_singleton] at hb
        subst hb
        simp; omega
theorem dd_no {s : Nat} {c : UInt8} (hc : c.toNat < 48) : ∀ b ∈ dd s, b ≠ c := fun b hb e => by
  have := dd_digit s b hb
  subst e; omega
theorem dd_len {s : Nat} (h : s < 1000003) : (dd s).length ≤ 7 := by
  have key : ∀ (k s : Nat), s < 10 ^ (k + 1) → (Lib.decDigits s).length ≤ k + 1 := by
    intro k
    induction k with
    | zero => intro s h; rw [Lib.decDigits, dif_pos (by omega)]; simp
    | succ k ih =>
      intro s h
      rw [Lib.decDigits]
      split
      · simp
      · have := ih (s / 10) (by rw [Nat.pow_succ] at h; omega)
        simp; omega
  exact key 6 s (by omega)
def tw (c : UInt8) (T : Tx) : Tx := T.takeWhile (· != c)
theorem tw_le (c : UInt8) : ∀ T : Tx, (tw c T).length ≤ T.length
  | [] => by simp [tw]
  | b :: T => by
    have := tw_le c T
    unfold tw at *
    rw [List.takeWhile_cons]
    split <;> simp <;> omega
theorem tw_take (c : UInt8) : ∀ T : Tx, T.take (tw c T).length = tw c T
  | [] => by simp [tw]
  | b :: T => by
    have := tw_take c T
    unfold tw at *
    rw [List.takeWhile_cons]
    split <;> simp [this]
theorem tw_no (c : UInt8) : ∀ (T : Tx) (b : UInt8), b ∈ tw c T → b ≠ c
  | [], b, h => by simp [tw] at h
  | x :: T, b, h => by
    unfold tw at h
    rw [List.takeWhile_cons] at h
    split at h
    · rename_i hx
      rcases List.mem_cons.1 h with rfl | h
      · simpa using hx
      · exact tw_no c T b h
    · cases h
theorem tw_all {c : UInt8} : ∀ {T : Tx}, (∀ b ∈ T, b ≠ c) → tw c T = T
  | [], _ => rfl
  | x :: T, h => by
    unfold tw
    rw [List.takeWhile_cons, if_pos (by simpa using h x (by simp))]
    exact congrArg (x :: ·) (tw_all fun b hb => h b (List.mem_cons_of_mem _ hb))
theorem tw_hit {c : UInt8} : ∀ {A : Tx} (B : Tx), (∀ b ∈ A, b ≠ c) → tw c (A ++ c :: B) = A
  | [], B, _ => by simp [tw]
  | x :: A, B, h => by
    unfold tw
    rw [List.cons_append, List.takeWhile_cons, if_pos (by simpa using h x (by simp))]
    exact congrArg (x :: ·) (tw_hit B fun b hb => h b (List.mem_cons_of_mem _ hb))
theorem tw_split (c : UInt8) : ∀ {T : Tx}, (tw c T).length < T.length → T = tw c T ++ c :: T.drop ((tw c T).length + 1)
  | [], h => by simp [tw] at h
  | x :: T, h => by
    unfold tw at h ⊢
    rw [List.takeWhile_cons] at h ⊢
    split
    · rename_i hx
      rw [if_pos hx] at h
      have := tw_split c (T := T) (by simpa [tw] using h)
      simp only [List.length_cons, List.cons_append, List.drop_succ_cons]
      unfold tw at this
      rw [← this]
    · rename_i hx
      have : x = c := by simpa using hx
      subst this; simp
theorem index_tw (c : UInt8) : ∀ T : Tx, Lib.index T [c] = if (tw c T).length < T.length then ((tw c T).length : Int) else -1 := by
  intro T
  induction T with
  | nil => simp [Lib.index, tw]
  | cons x T ih =>
    rw [Lib.index]
    by_cases hx : x = c
    · subst hx; simp [tw]
    · have hx2 : (x != c) = true := by simpa using hx
      have e : tw c (x :: T) = x :: tw c T := by unfold tw; rw [List.takeWhile_cons, if_pos hx2]
      rw [if_neg (by simp [Ne.symm hx]), ih, e]
      by_cases h : (tw c T).length < T.length
      · rw [if_pos h, if_neg (by rw [beq_iff_eq]; omega), if_pos (by rw [List.length_cons, List.length_cons]; omega)]; simp
      · rw [if_neg h, if_pos (by rfl), if_neg (by rw [List.length_cons, List.length_cons]; omega)]
theorem cut_tw (c : UInt8) (T : Tx) : Lib.cut T [c] = if (tw c T).length < T.length then (tw c T, T.drop ((tw c T).length + 1), true) else (T, [], false) := by
  unfold Lib.cut
  rw [index_tw]
  by_cases h : (tw c T).length < T.length
  · rw [if_pos h, if_pos (by omega), Int.toNat_natCast, tw_take, if_pos h]; rfl
  · rw [if_neg h, if_neg (by omega), if_neg h]
def rdOne (s : Nat) (B : Tx) : Option (Tx × Nat × Tx) :=
  if (tw 10 B).length = B.length ∨ (tw 32 (tw 10 B)).length = (tw 10 B).length then none
  else if isTx ((tw 10 B).drop ((tw 32 (tw 10 B)).length + 1)) = false then none
  else if dd (sumL s ((tw 10 B).drop ((tw 32 (tw 10 B)).length + 1))) = tw 32 (tw 10 B) then some ((tw 10 B).drop ((tw 32 (tw 10 B)).length + 1), sumL s ((tw 10 B).drop ((tw 32 (tw 10 B)).length + 1)), B.drop ((tw 10 B).length + 1))
  else none
def readL : Nat → Nat → Tx → List Tx × Tx
  | 0, _, B => ([], B)
  | f + 1, s, B => match rdOne s B with
    | none => ([], B)
    | some (o, s', B') => (o :: (readL f s' B').1, (readL f s' B').2)
theorem isTx_no {T : Tx} (h : isTx T = true) : ∀ b ∈ T, b ≠ 10 := by
  intro b hb e
  subst e
  simp only [isTx, Bool.and_eq_true, Bool.not_eq_true'] at h
  have := List.contains_iff_mem.2 hb
  rw [h.2] at this; cases this
theorem line_text (s : Nat) {T : Tx} (h : isTx T = true) : ∀ b ∈ dd (sumL s T) ++ 32 :: T, b ≠ 10 := by
  intro b hb
  rcases List.mem_append.1 hb with hb | hb
  · exact dd_no (by decide) b hb
  · rcases List.mem_cons.1 hb with rfl | hb
    · decide
    · exact isTx_no h b hb
theorem line_eq (s : Nat) (T X : Tx) : lineL s T ++ X = (dd (sumL s T) ++ 32 :: T) ++ 10 :: X := by simp [lineL]
theorem rd_line {s : Nat} {T : Tx} (h : isTx T = true) (X : Tx) : rdOne s (lineL s T ++ X) = some (T, sumL s T, X) := by
  rw [line_eq]
  unfold rdOne
  rw [tw_hit X (line_text s h), tw_hit T (dd_no (c := 32) (by decide))]
  have e1 : (dd (sumL s T) ++ 32 :: T).drop ((dd (sumL s T)).length + 1) = T := by
    rw [← List.drop_drop, List.drop_left]; rfl
  have e2 : ((dd (sumL s T) ++ 32 :: T) ++ 10 :: X).drop ((dd (sumL s T) ++ 32 :: T).length + 1) = X := by
    rw [← List.drop_drop, List.drop_left]; rfl
  rw [e1, e2, if_neg (by simp), if_neg (by rw [h]; simp), if_pos rfl]
theorem rd_some {s : Nat} {B o B' : Tx} {s' : Nat} (h : rdOne s B = some (o, s', B')) : isTx o = true ∧ s' = sumL s o ∧ B = lineL s o ++ B' := by
  unfold rdOne at h
  split at h
  · cases h
  · rename_i h1
    split at h
    · cases h
    · rename_i h2
      split at h
      · rename_i h3
        simp only [Option.some.injEq, Prod.mk.injEq] at h
        obtain ⟨rfl, rfl, rfl⟩ := h
        have l1 := tw_le 10 B
        have l2 := tw_le 32 (tw 10 B)
        have e1 := tw_split 10 (T := B) (by omega)
        have e2 := tw_split 32 (T := tw 10 B) (by omega)
        refine ⟨by simpa using h2, rfl, ?_⟩
        rw [line_eq, h3, ← e2, ← e1]
      · cases h
theorem rd_none {s : Nat} {B : Tx} (h : ∀ b ∈ B, b ≠ 10) : rdOne s B = none := by
  unfold rdOne
  rw [if_pos (.inl (by rw [tw_all h]))]
theorem read_book : ∀ (l : List Tx) (f s : Nat) (X : Tx), (∀ T ∈ l, isTx T = true) → l.length ≤ f → readL f s (bookL s l ++ X) = (l ++ (readL (f - l.length) (sumE s l) X).1, (readL (f - l.length) (sumE s l) X).2)
  | [], f, s, X, _, _ => by simp [bookL, sumE]
  | T :: l, 0, s, X, _, hf => by simp at hf
  | T :: l, f + 1, s, X, h, hf => by
    have ih := read_book l f (sumL s T) X (fun q hq => h q (List.mem_cons_of_mem _ hq)) (by simpa using hf)
    rw [bookL, List.append_assoc, readL, rd_line (h T (by simp))]
    simp only [ih, List.length_cons, Nat.add_sub_add_right]
    rfl
theorem read_nil (f s : Nat) : readL f s [] = ([], []) := by
  cases f with
  | zero => rfl
  | succ f => rw [readL, rd_none (by simp)]
theorem read_whole {l : List Tx} {f : Nat} (s : Nat) (h : ∀ T ∈ l, isTx T = true) (hf : l.length ≤ f) : readL f s (bookL s l) = (l, []) := by
  have := read_book l f s [] h hf
  rw [List.append_nil, read_nil] at this
  simpa using this
theorem read_spec : ∀ (f s : Nat) (B : Tx), B = bookL s (readL f s B).1 ++ (readL f s B).2 ∧ (∀ T ∈ (readL f s B).1, isTx T = true) ∧ (readL f s B).1.length ≤ f
  | 0, s, B => ⟨rfl, by simp [readL], Nat.le_refl _⟩
  | f + 1, s, B => by
    rw [readL]
    split
    · exact ⟨rfl, by simp, Nat.zero_le _⟩
    · rename_i o s' B' e
      obtain ⟨h1, rfl, h2⟩ := rd_some e
      obtain ⟨k1, k2, k3⟩ := read_spec f (sumL s o) B'
      refine ⟨?_, fun T hT => ?_, by simpa using k3⟩
      · rw [bookL, List.append_assoc, ← k1]; exact h2
      · rcases List.mem_cons.1 hT with rfl | hT
        · exact h1
        · exact k2 T hT
theorem read_part : ∀ (l : List Tx) (f s k : Nat), (∀ T ∈ l, isTx T = true) → l.length ≤ f → ∃ j, (readL f s ((bookL s l).take k)).1 = l.take j ∧ j ≤ l.length ∧ ((readL f s ((bookL s l).take k)).2 = [] ∨ j < l.length)
  | [], f, s, k, _, _ => ⟨0, by simp [bookL, read_nil], Nat.le_refl _, .inl (by simp [bookL, read_nil])⟩
  | T :: l, 0, s, k, _, hf => by simp at hf
  | T :: l, f + 1, s, k, h, hf => by
    have hT := h T (by simp)
    rcases Nat.lt_or_ge k (lineL s T).length with hk | hk
    · have e : (bookL s (T :: l)).take k = (lineL s T).take k := by
        rw [bookL, List.take_append_of_le_length (by omega)]
      have e2 : (lineL s T).take k = (dd (sumL s T) ++ 32 :: T).take k := by
        have : lineL s T = (dd (sumL s T) ++ 32 :: T) ++ [10] := by simp [lineL]
        rw [this, List.take_append_of_le_length]
        rw [this, List.length_append, List.length_singleton] at hk
        omega
      have hn : rdOne s ((bookL s (T :: l)).take k) = none := rd_none fun b hb => by
        rw [e, e2] at hb
        exact line_text s hT b (List.mem_of_mem_take hb)
      refine ⟨0, ?_, Nat.zero_le _, .inr (by simp)⟩
      rw [readL, hn]; rfl
    · obtain ⟨j, j1, j2, j3⟩ := read_part l f (sumL s T) (k - (lineL s T).length) (fun q hq => h q (List.mem_cons_of_mem _ hq)) (by simpa using hf)
      have e : (bookL s (T :: l)).take k = lineL s T ++ (bookL (sumL s T) l).take (k - (lineL s T).length) := by
        rw [bookL, List.take_append, List.take_of_length_le hk]
      refine ⟨j + 1, ?_, by simpa using j2, ?_⟩
      · rw [e, readL, rd_line hT]
        simp only [List.take_succ_cons, j1]
      · rw [e, readL, rd_line hT]
        simpa using j3
def mergeL (a b : Tx) : Tx × Int × Int :=
  let x := readL 100 0 a
  let y := readL 100 0 b
  if x.2 ≠ [] ∨ y.2 ≠ [] then ([], 0, 12)
  else match (List.range (min x.1.length y.1.length)).find? (fun i => x.1.getD i [] != y.1.getD i []) with
    | some i => ([], (i : Int), 7)
    | none => if x.1.length < y.1.length then (b, (y.1.length : Int), 0) else (a, (x.1.length : Int), 0)
end Go.Ab.Bog
set_option linter.all false
namespace Go.Ab.Bog
open Go Go.Ab
def spN : Nat → Tx → List Tx
  | 0, T => [T]
  | k + 1, T => if (tw 32 T).length < T.length then tw 32 T :: spN k (T.drop ((tw 32 T).length + 1)) else [T]
def spW (T : Tx) : List Tx := spN T.length T
theorem count_tw (c : UInt8) (T : Tx) : T.count c = if (tw c T).length < T.length then 1 + (T.drop ((tw c T).length + 1)).count c else 0 := by
  by_cases h : (tw c T).length < T.length
  · rw [if_pos h]
    have e := tw_split c h
    have hz : (tw c T).count c = 0 := List.count_eq_zero.2 fun hm => tw_no c T c hm rfl
    conv => lhs; rw [e]
    rw [List.count_append, List.count_cons_self, hz]; omega
  · rw [if_neg h]
    have e := tw_take c T
    rw [List.take_of_length_le (by have := tw_le c T; omega)] at e
    rw [e]
    exact List.count_eq_zero.2 fun hm => tw_no c T c hm rfl
theorem spN_split : ∀ (k m : Nat) (T : Tx), T.length ≤ k → T.count 32 ≤ m → spN k T = Lib.splitK [32] 0 m T
  | 0, m, T, hk, hm => by
    have : T = [] := List.eq_nil_of_length_eq_zero (by omega)
    subst this
    cases m with
    | zero => rfl
    | succ m => simp [spN, Lib.splitK, Lib.index]
  | k + 1, m, T, hk, hm => by
    have hc := count_tw 32 T
    rw [spN]
    by_cases h : (tw 32 T).length < T.length
    · rw [if_pos h] at hc ⊢
      cases m with
      | zero => omega
      | succ m =>
        have hi := index_tw 32 T
        rw [if_pos h] at hi
        have e0 : T.take ((tw 32 T).length + 0) = tw 32 T := tw_take 32 T
        rw [Lib.splitK, hi, if_neg (by rw [beq_iff_eq]; omega), Int.toNat_natCast, e0]
        rw [spN_split k m (T.drop ((tw 32 T).length + 1)) (by simp; omega) (by omega)]
        rfl
    · rw [if_neg h] at ⊢
      cases m with
      | zero => rfl
      | succ m =>
        have hi := index_tw 32 T
        rw [if_neg h] at hi
        rw [Lib.splitK, hi, if_pos (by rfl)]
theorem spW_split (T : Tx) : Lib.split T [32] = spW T := by
  unfold Lib.split spW
  rw [Lib.count_one]
  exact (spN_split _ _ T (Nat.le_refl _) (Nat.le_refl _)).symm
theorem spN_ne : ∀ (k : Nat) (T : Tx), spN k T ≠ []
  | 0, T => by simp [spN]
  | k + 1, T => by rw [spN]; split <;> simp
theorem spN_len : ∀ (k : Nat) (T W : Tx), W ∈ spN k T → W.length ≤ T.length
  | 0, T, W, h => by simp only [spN, List.mem_singleton] at h; rw [h]; exact Nat.le_refl _
  | k + 1, T, W, h => by
    rw [spN] at h
    split at h
    · rcases List.mem_cons.1 h with rfl | h
      · exact tw_le 32 T
      · have := spN_len k _ W h
        simp at this; omega
    · simp only [List.mem_singleton] at h; rw [h]; exact Nat.le_refl _
theorem spN_count : ∀ (k : Nat) (T : Tx), (spN k T).length ≤ T.length + 1
  | 0, T => by simp [spN]
  | k + 1, T => by
    rw [spN]
    split
    · have := spN_count k (T.drop ((tw 32 T).length + 1))
      simp at this ⊢; omega
    · simp
def numW (w : Tx) : Option Nat := (List.range 1000).find? fun n => dd n == w
set_option maxRecDepth 100000 in
theorem dd_facts : ∀ n < 1000, Lib.atoiAll (dd n) = .ok (n : Int) ∧ (dd n).length ≤ 3 := by decide +kernel
theorem numW_some {w : Tx} {n : Nat} (h : numW w = some n) : n < 1000 ∧ dd n = w := by
  have h1 := List.find?_some h
  have h2 := List.mem_of_find?_eq_some h
  exact ⟨List.mem_range.1 h2, by simpa using h1⟩
theorem dd_inj {a b : Nat} (ha : a < 1000) (hb : b < 1000) (h : dd a = dd b) : a = b := by
  have h1 := (dd_facts a ha).1
  have h2 := (dd_facts b hb).1
  rw [h, h2] at h1
  have : (b : Int) = (a : Int) := by injection h1
  omega
theorem numW_dd {n : Nat} (hn : n < 1000) : numW (dd n) = some n := by
  cases h : numW (dd n) with
  | none =>
    have := List.find?_eq_none.1 h n (List.mem_range.2 hn)
    simp at this
  | some m =>
    obtain ⟨h1, h2⟩ := numW_some h
    rw [dd_inj h1 hn h2]
theorem numW_atoi {w : Tx} {v : Int} (h1 : Lib.atoiAll w = .ok v) : numW w = if Lib.itoa v = w ∧ 0 ≤ v ∧ v ≤ 999 then some v.toNat else none := by
  split
  · rename_i h
    obtain ⟨h2, h3, h4⟩ := h
    have e : w = dd v.toNat := by
      rw [← h2]
      unfold Lib.itoa dd
      rw [if_neg (by omega)]
    rw [e]
    exact numW_dd (by omega)
  · rename_i h
    cases hn : numW w with
    | none => rfl
    | some n =>
      obtain ⟨k1, k2⟩ := numW_some hn
      have k3 := (dd_facts n k1).1
      rw [k2, h1] at k3
      have : v = (n : Int) := by injection k3
      subst this
      refine absurd ⟨?_, Int.natCast_nonneg n, by omega⟩ h
      unfold Lib.itoa
      rw [if_neg (by omega), Int.toNat_natCast]
      exact k2
theorem numW_bad {w : Tx} (h : ∀ v, Lib.atoiAll w ≠ .ok v) : numW w = none := by
  cases hn : numW w with
  | none => rfl
  | some n =>
    obtain ⟨k1, k2⟩ := numW_some hn
    exact absurd (by rw [← k2]; exact (dd_facts n k1).1) (h n)
abbrev wDay : Tx := [100, 97, 121]
abbrev wCut : Tx := [99, 117, 116]
abbrev wLoad : Tx := [108, 111, 97, 100]
abbrev wWet : Tx := [119, 101, 116]
abbrev wShut : Tx := [115, 104, 117, 116]
def kindW (w : Tx) : Option (Nat × Nat) :=
  if w = wDay then some (0, 0) else if w = wCut then some (1, 1) else if w = wLoad then some (2, 2) else if w = wWet then some (3, 2) else if w = wShut then some (4, 0) else none
def numsW : List Tx → Option (List Nat)
  | [] => some []
  | w :: l => (numW w).bind fun n => (numsW l).map (n :: ·)
def parseL (T : Tx) : Option (Nat × List Nat) :=
  match spW T with
  | [] => none
  | w :: ws => match kindW w with
    | none => none
    | some (k, c) => if 40 < T.length ∨ ws.length ≠ c then none else (numsW ws).map fun ns => (k, ns)
theorem numsW_cons {w : Tx} {ws : List Tx} {ns : List Nat} (h : numsW (w :: ws) = some ns) : ∃ n ns', numW w = some n ∧ numsW ws = some ns' ∧ ns = n :: ns' := by
  have h' : (numW w).bind (fun n => (numsW ws).map (n :: ·)) = some ns := h
  obtain ⟨n, h1, h3⟩ := Option.bind_eq_some_iff.1 h'
  obtain ⟨ns', h2, h4⟩ := Option.map_eq_some_iff.1 h3
  exact ⟨n, ns', h1, h2, h4.symm⟩
theorem numsW_len {ws : List Tx} {ns : List Nat} (h : numsW ws = some ns) : ns.length = ws.length ∧ ∀ n ∈ ns, n < 1000 := by
  induction ws generalizing ns with
  | nil =>
    have : some [] = some ns := h
    cases this
    simp
  | cons w ws ih =>
    obtain ⟨n, ns', h1, h2, rfl⟩ := numsW_cons h
    obtain ⟨k1, k2⟩ := ih h2
    refine ⟨by simp [k1], fun m hm => ?_⟩
    rcases List.mem_cons.1 hm with rfl | hm
    · exact (numW_some h1).1
    · exact k2 m hm
theorem mem_spN : ∀ (k : Nat) (T : Tx) (b : UInt8), b ∈ T → b = 32 ∨ ∃ W ∈ spN k T, b ∈ W
  | 0, T, b, h => .inr ⟨T, by simp [spN], h⟩
  | k + 1, T, b, h => by
    rw [spN]
    by_cases hl : (tw 32 T).length < T.length
    · rw [if_pos hl]
      have e := tw_split 32 hl
      rw [e] at h
      rcases List.mem_append.1 h with h | h
      · exact .inr ⟨_, by simp, h⟩
      · rcases List.mem_cons.1 h with h | h
        · exact .inl h
        · rcases mem_spN k _ b h with h | ⟨W, h1, h2⟩
          · exact .inl h
          · exact .inr ⟨W, List.mem_cons_of_mem _ h1, h2⟩
    · rw [if_neg hl]
      exact .inr ⟨T, by simp, h⟩
theorem kind_no {w : Tx} {x : Nat × Nat} (h : kindW w = some x) : ∀ b ∈ w, b ≠ 10 := by
  unfold kindW at h
  split at h
  · rename_i e; subst e; decide
  · split at h
    · rename_i e; subst e; decide
    · split at h
      · rename_i e; subst e; decide
      · split at h
        · rename_i e; subst e; decide
        · split at h
          · rename_i e; subst e; decide
          · cases h
theorem nums_no {ws : List Tx} {ns : List Nat} (h : numsW ws = some ns) : ∀ W ∈ ws, ∀ b ∈ W, b ≠ 10 := by
  induction ws generalizing ns with
  | nil => intro W hW; cases hW
  | cons w ws ih =>
    obtain ⟨n, ns', h1, h2, rfl⟩ := numsW_cons h
    intro W hW b hb
    rcases List.mem_cons.1 hW with rfl | hW
    · rw [← (numW_some h1).2] at hb
      exact dd_no (by decide) b hb
    · exact ih h2 W hW b hb
theorem parse_isTx {T : Tx} {x : Nat × List Nat} (h : parseL T = some x) : isTx T = true := by
  unfold parseL at h
  split at h
  · cases h
  · rename_i w ws hs
    split at h
    · cases h
    · rename_i k c hk
      split at h
      · cases h
      · rename_i hc
        obtain ⟨ns, hns, _⟩ := Option.map_eq_some_iff.1 h
        have hno : ∀ b ∈ T, b ≠ 10 := fun b hb => by
          rcases mem_spN T.length T b hb with rfl | ⟨W, hW, hb2⟩
          · decide
          · have hW2 : W ∈ w :: ws := hs ▸ hW
            rcases List.mem_cons.1 hW2 with rfl | hW3
            · exact kind_no hk b hb2
            · exact nums_no hns W hW3 b hb2
        have hne : 1 ≤ T.length := by
          cases T with
          | nil =>
            have : spW [] = [[]] := rfl
            rw [this] at hs
            simp only [List.cons.injEq] at hs
            rw [← hs.1] at hk
            cases hk
          | cons b T => simp
        have hl : T.length ≤ 40 := by omega
        have hn : T.contains 10 = false := by
          cases h9 : T.contains 10 with
          | false => rfl
          | true => exact absurd rfl (hno 10 (List.contains_iff_mem.1 h9))
        unfold isTx
        rw [hn, decide_eq_true hne, decide_eq_true hl]; rfl
end Go.Ab.Bog
set_option linter.all false
namespace Go.Ab.Tryz
open Go Go.Ab Go.Proofs Go.RowKit Go.Ab.Bog
theorem en87 : EnterP Tryz.prog 87 := ⟨_, Tryz.func87, rfl, rfl⟩
theorem en83 : EnterP Tryz.prog 83 := ⟨_, Tryz.func83, rfl, rfl⟩
theorem en127 : EnterP Tryz.prog 127 := ⟨_, Tryz.func127, rfl, rfl⟩
theorem en148 : EnterP Tryz.prog 148 := ⟨_, Tryz.func148, rfl, rfl⟩
theorem en149 : EnterP Tryz.prog 149 := ⟨_, Tryz.func149, rfl, rfl⟩
theorem laid_at {w : World} (h : Laid w) {g : Nat} {C : Value → Prop} (hm : (g, [C]) ∈ laidTab) : ∃ v, w.cell? ⟨g, 0, none⟩ = some v ∧ C v :=
  (h (g, [C]) hm).2 0 C rfl
theorem len1 {w : World} (h : Laid w) : ∃ m, w.cell? ⟨1, 0, none⟩ = some (.int .i64 m) := by
  obtain ⟨v, hv, m, rfl⟩ := laid_at h (g := 1) (C := fun v => ∃ m, v = .int .i64 m) (by simp [laidTab])
  exact ⟨m, hv⟩
theorem err3 {w : World} (h : Laid w) : ∃ v, w.cell? ⟨3, 0, none⟩ = some v ∧ (v = .nilIface ∨ ∃ t p, v = .iface t p) :=
  laid_at h (g := 3) (C := fun v => v = .nilIface ∨ ∃ t p, v = .iface t p) (by simp [laidTab])
theorem err4 {w : World} (h : Laid w) : ∃ v, w.cell? ⟨4, 0, none⟩ = some v ∧ (v = .nilIface ∨ ∃ t p, v = .iface t p) :=
  laid_at h (g := 4) (C := fun v => v = .nilIface ∨ ∃ t p, v = .iface t p) (by simp [laidTab])
theorem tab2 {w : World} (h : Laid w) : Lib.TabIs Tryz.prog w "internal/strconv.uint64pow10" .u64 Lib.pow10Tab := by
  have hm : (2, pow10I.map fun n v => v = Value.int .u64 n) ∈ laidTab := by simp [laidTab]
  obtain ⟨⟨cur, t, hc, hs⟩, hv⟩ := h _ hm
  have hg : Tryz.prog.globalNamed "internal/strconv.uint64pow10" = some 2 := by kernel_rfl
  have hp : Lib.pow10Tab = pow10I := by decide +kernel
  unfold Lib.TabIs World.var?
  rw [hg]
  simp only [Option.bind_some]
  simp only at hc
  rw [hc, hp]
  simp only [Option.some.injEq]
  simp only [List.length_map] at hs
  refine Array.ext (by simpa using hs) fun j h1 h2 => ?_
  have hj : j < pow10I.length := by simpa using h2
  obtain ⟨v, e1, e2⟩ := hv j (fun v => v = Value.int .u64 pow10I[j]) (by simp [hj])
  subst e2
  have e3 := Lib.cell_of_heap hc j
  simp only at e1
  rw [e1] at e3
  rw [Array.getElem?_eq_getElem h1] at e3
  have := Option.some.inj e3
  rw [← this]; simp
theorem f87 (n : Int) (h0 : -9223372036854775808 ≤ n) (h1 : n ≤ 9223372036854775807) : ACallsF Tryz.prog 87 [i64 n] (.one (.dv (.str (bs (Lib.itoa n))))) := by
  refine ⟨en87, fun w vs hl ha => ?_⟩
  obtain rfl := args1 ha fun u hu => rep_int hu
  refine (Tryz.strconv_Itoa n h0 h1 w (tab2 hl)).mono fun e w' ⟨he, k, os, hw⟩ => ?_
  subst he; subst hw
  exact ⟨_, rfl, Go.Lib.below_grow _ w (Nat.le_refl _) k os, res_dv (.str _)⟩
theorem f83 (s p : Tx) (hs : s.length < 4294967281) : ACallsF Tryz.prog 83 [.str (bs s), .str (bs p)] (.many [.dv (.str (bs (Lib.cut s p).1)), .dv (.str (bs (Lib.cut s p).2.1)), .dv (.bool (Lib.cut s p).2.2)]) := by
  refine ⟨en83, fun w vs hl ha => ?_⟩
  obtain rfl := args2 ha (fun u hu => rep_str hu) (fun u hu => rep_str hu)
  obtain ⟨m, hm⟩ := len1 hl
  refine (Tryz.strings_Cut (bs s) (bs p) m w (by rw [bs_size]; exact hs) hm).mono fun e w' ⟨he, n, hw⟩ => ?_
  subst he; subst hw
  exact ⟨_, rfl, below_drewN (Below.refl _ _) n, res_dv3 (.str _) (.str _) (.bool _)⟩
theorem f127 (s p : Tx) (hs : s.length < 4294967281) : ACallsF Tryz.prog 127 [.str (bs s), .str (bs p)] (.one (.dv (.bool (Lib.contains s p)))) := by
  refine ⟨en127, fun w vs hl ha => ?_⟩
  obtain rfl := args2 ha (fun u hu => rep_str hu) (fun u hu => rep_str hu)
  obtain ⟨m, hm⟩ := len1 hl
  refine (Tryz.strings_Contains (bs s) (bs p) m w (by rw [bs_size]; exact hs) hm).mono fun e w' ⟨he, hw⟩ => ?_
  subst he; subst hw
  exact ⟨_, rfl, Below.refl _ _, res_dv (.bool _)⟩
def spl (s p : ByteArray) : List ByteArray := Lib.splitB p 0 (Lib.countB s p) s
theorem spl_data (s p : ByteArray) : (spl s p).map (·.data.toList) = Lib.split s.data.toList p.data.toList := Lib.splitB_data ..
theorem spl_bs (s p : Tx) : spl (bs s) (bs p) = (Lib.split s p).map bs := by
  have h := spl_data (bs s) (bs p)
  have : (spl (bs s) (bs p)).map (fun x => bs x.data.toList) = (Lib.split s p).map bs := by
    have h2 := congrArg (List.map bs) h
    rw [List.map_map] at h2
    exact h2
  rw [← this]
  conv => lhs; rw [← List.map_id (spl (bs s) (bs p))]
  exact List.map_congr_left fun x _ => (bs_data x).symm
abbrev dTx (T : Tx) : DV := .str (bs T)
theorem f148 (s p : Tx) (hs : s.length < 4294967281) (hp : 1 ≤ p.length) : ACallsF Tryz.prog 148 [dTx s, dTx p] (.one (.dv (.list ((Lib.split s p).map dTx)))) := by
  refine ⟨en148, fun w vs hl ha => ?_⟩
  obtain rfl := args2 ha (fun u hu => rep_str hu) (fun u hu => rep_str hu)
  obtain ⟨m, hm⟩ := len1 hl
  have hp' : 1 ≤ (bs p).size := by rw [bs_size]; exact hp
  refine (Tryz.strings_Split (bs s) (bs p) m w (by rw [bs_size]; exact hs) hm hp').mono fun e w' ⟨he, hw⟩ => ?_
  have hlen : (spl (bs s) (bs p)).length = Lib.countB (bs s) (bs p) + 1 := Lib.splitB_all (bs p) hp' 0 _ (bs s) rfl
  have e1 : (Lib.split s p).map dTx = (spl (bs s) (bs p)).map DV.str := by rw [spl_bs, List.map_map]; rfl
  subst he
  rw [e1]
  refine ⟨_, rfl, ?_, res_dv ?_⟩
  · rw [hw]; exact (Below.refl _ _).alloc (Nat.le_refl _) _
  · have h := rep_strs (w := w) (w' := w') (Y := fun b => b < w.heap.size ∨ usedBy [none] b) (l := spl (bs s) (bs p)) (cap := Lib.countB (bs s) (bs p) + 1) hw (fun b hb => hb.elim id fun h => (used_none1 h).elim) (by omega)
    rw [hlen] at h
    exact h
def atoiD (x : List UInt8) : Int × DV := match Lib.atoiAll x with
  | .ok v => (v, .nilIface)
  | .range => (Lib.atoiSat x, .iface 241 (.cptr []))
  | _ => (0, .iface 241 (.cptr []))
theorem rep_ptr0 {w : World} {X : Nat → Prop} {b : Nat} (hb : b < w.heap.size) (hx : ¬ X b) : RepD w X (.iface 241 (.cptr [])) (.iface 241 (.pointer (some ⟨b, 0, none⟩))) :=
  .iface _ _ _ (.cptr [] b 0 (fun _ => undef) hx hb (fun j c h => by simp at h) (fun j c h => by simp at h))
theorem f149 (s : Tx) (hs : s.length ≤ 4294967281) : ACallsF Tryz.prog 149 [dTx s] (.many [.dv (i64 (atoiD s).1), .dv (atoiD s).2]) := by
  refine ⟨en149, fun w vs hl ha => ?_⟩
  obtain rfl := args1 ha fun u hu => rep_str hu
  have hz : (bs s).size ≤ 4294967281 := by rw [bs_size]; exact hs
  unfold atoiD
  cases he : Lib.atoiAll s with
  | ok v =>
    refine (Tryz.strconv_Atoi_ok (bs s) (by omega) v he w).mono fun e w' ⟨he, hw⟩ => ?_
    subst he
    refine ⟨_, rfl, ?_, res_dv2 (.int _ _) .nilIface⟩
    rcases hw with rfl | ⟨t, rfl⟩
    · exact Below.refl _ _
    · exact Lib.bytesWorld_below _ _ _
  | range =>
    obtain ⟨ev, hv, hev⟩ := err4 hl
    refine (Tryz.strconv_Atoi_range (bs s) (by omega) he ev w hv hev).mono fun e w' ⟨N, he, h1, h2, hb⟩ => ?_
    subst he
    have hN : N < w'.heap.size := by
      by_cases h : N < w'.heap.size
      · exact h
      · rw [Array.getElem?_eq_none (by omega)] at h2; cases h2
    exact ⟨_, rfl, hb, res_dv2 (.int _ _) (rep_ptr0 hN fun h => h.elim (fun h => by omega) used_none2)⟩
  | _ =>
    obtain ⟨ev, hv, hev⟩ := err3 hl
    refine (Any.strconv_Atoi_syntax Tryz.laysC172 (bs s) (by omega) he ev w hv hev).mono fun e w' ⟨N, he, h1, h2, hb⟩ => ?_
    subst he
    have hN : N < w'.heap.size := by
      by_cases h : N < w'.heap.size
      · exact h
      · rw [Array.getElem?_eq_none (by omega)] at h2; cases h2
    exact ⟨_, rfl, hb, res_dv2 (.int _ _) (rep_ptr0 hN fun h => h.elim (fun h => by omega) used_none2)⟩
end Go.Ab.Tryz
set_option linter.all false
set_option linter.unusedSimpArgs false
namespace Go.Ab
open Go.RowKit
section
variable {F : Fence} {n : Nat} {P : Program} {Q : Exit → Act → World → Prop} {a : Act} {w : World}
def LoopIn (F : Fence) (n : Nat) (P : Program) (c : Code) (Q : Exit → Act → World → Prop) (a : Act) (w : World) : Prop :=
  ∀ (b : Frame) (k : List Item) (cs : List Frame), b.roundOf = F.round → F.fn b.fn → F.room (cs.length + 1 + n) →
    ∃ e a' w', Q e a' w' ∧ ArrivesIn (Machine.fenced P F) P (lone (b.atR a (.code c :: .inLoop c :: k)) cs w) b k cs e a' w'
theorem stepR_scope {b : Frame} {a : Act} {k : List Item} {cs : List Frame} {w : World} {c : Code} : step P (lone (b.atR a (.code (.scope c) :: k)) cs w) = .next (lone (b.atR a (.code c :: .inScope c :: k)) cs w) :=
  step_lone_go (by simp [stepG, stepG.exec, Frame.atR])
theorem stepR_inScope {b : Frame} {a : Act} {k : List Item} {cs : List Frame} {w : World} {c : Code} : step P (lone (b.atR a (.inScope c :: k)) cs w) = .next (lone (b.atR a k) cs w) :=
  step_lone_go (by simp [stepG, stepG.exec, Frame.atR])
theorem wpIn_scope_jumps {c rest : Code} (l : Nat) (J : Act → World → Prop) (μ : Act → World → Nat) (hf : findLabel c l = some rest)
    (first : c.wpIn F n P (Exit.jump l J Q) a w)
    (pass : ∀ a w, J a w → rest.wpIn F n P (Exit.jump l (fun a' w' => J a' w' ∧ μ a' w' < μ a w) Q) a w) : (Code.scope c).wpIn F n P Q a w := by
  intro b k cs hro hb hr
  have hg : gotoIn l (.inScope c :: k) = some (.code rest :: .inScope c :: k) := by simp [gotoIn, hf]
  have leave : ∀ {m : Machine} {e : Exit} {a₁ : Act} {w₁ : World}, (∀ l', e ≠ .goto l') → ArrivesIn (Machine.fenced P F) P m b (.inScope c :: k) cs e a₁ w₁ → ArrivesIn (Machine.fenced P F) P m b k cs e a₁ w₁ := by
    intro m e a₁ w₁ hne harr
    cases e with
    | normal => exact StepsIn.trans harr (.one (fenced_calm hb hr rfl) stepR_inScope)
    | exit id =>
      have hx : exitTo id (.inScope c :: k) = exitTo id k := by simp [exitTo]
      exact ⟨fun k' hk => harr.1 k' (by rw [hx]; exact hk), fun hr' hk => harr.2 hr' (by rw [hx]; exact hk)⟩
    | goto l' => exact absurd rfl (hne l')
    | ret => exact harr
    | panic ch => exact harr
    | outgrown => exact harr
  have key : ∀ n a w, μ a w = n → J a w → ∃ e a' w', Q e a' w' ∧ ArrivesIn (Machine.fenced P F) P (lone (b.atR a (.code rest :: .inScope c :: k)) cs w) b k cs e a' w' := by
    intro n
    induction n using Nat.strongRecOn with
    | _ n ih =>
      intro a w hn hJ
      obtain ⟨e, a₁, w₁, hq, harr⟩ := pass a w hJ b (.inScope c :: k) cs hro hb hr
      by_cases hgt : ∃ l', e = .goto l'
      · obtain ⟨l', rfl⟩ := hgt
        obtain ⟨rfl, hJ', hlt⟩ := hq
        obtain ⟨e₂, a₂, w₂, hq₂, harr₂⟩ := ih _ (by omega) a₁ w₁ rfl hJ'
        exact ⟨e₂, a₂, w₂, hq₂, .of_steps (harr.1 _ hg) harr₂⟩
      · have hne : ∀ l', e ≠ .goto l' := fun l' h => hgt ⟨l', h⟩
        refine ⟨e, a₁, w₁, ?_, leave hne harr⟩
        cases e with
        | goto l' => exact absurd rfl (hne l')
        | _ => exact hq
  obtain ⟨e, a₁, w₁, hq, harr⟩ := first b (.inScope c :: k) cs hro hb hr
  have h0 : (lone (b.atR a (.code (.scope c) :: k)) cs w).fenced P F := fenced_calm hb hr rfl
  by_cases hgt : ∃ l', e = .goto l'
  · obtain ⟨l', rfl⟩ := hgt
    obtain ⟨rfl, hJ'⟩ := hq
    obtain ⟨e₂, a₂, w₂, hq₂, harr₂⟩ := key _ a₁ w₁ rfl hJ'
    exact ⟨e₂, a₂, w₂, hq₂, .of_steps (.head h0 stepR_scope (harr.1 _ hg)) harr₂⟩
  · have hne : ∀ l', e ≠ .goto l' := fun l' h => hgt ⟨l', h⟩
    refine ⟨e, a₁, w₁, ?_, .of_steps (.one h0 stepR_scope) (leave hne harr)⟩
    cases e with
    | goto l' => exact absurd rfl (hne l')
    | _ => exact hq
end
section
variable {cx : Cx} {S S0 : St}
def jumpK (cx : Cx) {ι : Type} (l : Nat) (inv : ι → St) (φ : ι → Prop) (K : Exit → St → Prop) : Exit → St → Prop
  | .goto l', S => l' = l ∧ ∃ j, φ j ∧ Le cx S (inv j)
  | e, S => K e S
theorem awp_scope_jumps {ι : Type} {c rest : Code} {K : Exit → St → Prop} (l : Nat) (inv : ι → St) (φ : ι → Prop) (m : ι → Nat) (hf : findLabel c l = some rest) (first : AWp cx c (jumpK cx l inv φ K) S)
    (pass : ∀ i, φ i → AWp cx rest (jumpK cx l inv (fun j => φ j ∧ m j < m i) K) (inv i)) : AWp cx (.scope c) K S := by
  intro a w hs
  refine wpIn_scope_jumps l (fun a w => ∃ n, ∃ i, φ i ∧ m i = n ∧ Sim cx (inv i) a w) (fun a w => leastOf (fun n => ∃ i, φ i ∧ m i = n ∧ Sim cx (inv i) a w)) hf ?_ ?_
  · refine wpIn_mono (first a w hs) ?_
    rintro e a' w' (⟨S', h1, h2⟩ | ⟨rfl, hf⟩)
    · cases e with
      | goto l' =>
        obtain ⟨rfl, j, hj, hle⟩ := h2
        exact ⟨rfl, m j, j, hj, rfl, hle a' w' h1⟩
      | _ => exact .inl ⟨S', h1, h2⟩
    · exact .inr ⟨rfl, hf⟩
  · rintro a w hJ
    obtain ⟨i, hi, hm, h⟩ := (leastOf_spec hJ).1
    refine wpIn_mono (pass i hi a w h) ?_
    rintro e a' w' (⟨S', h1, h2⟩ | ⟨rfl, hf⟩)
    · cases e with
      | goto l' =>
        obtain ⟨rfl, j, ⟨hj, hlt⟩, hle⟩ := h2
        have hn : ∃ n, ∃ i, φ i ∧ m i = n ∧ Sim cx (inv i) a' w' := ⟨m j, j, hj, rfl, hle a' w' h1⟩
        refine ⟨rfl, hn, ?_⟩
        have := (leastOf_spec hn).2 (m j) ⟨j, hj, rfl, hle a' w' h1⟩
        rw [← hm]
        exact Nat.lt_of_le_of_lt this hlt
      | _ => exact .inl ⟨S', h1, h2⟩
    · exact .inr ⟨rfl, hf⟩
theorem awp_goto {l : Nat} {K : Exit → St → Prop} (h : K (.goto l) S) : AWp cx (.goto l) K S := fun _ _ hs => wpIn_goto (.inl ⟨S, hs, h⟩)
end
section
variable {cx : Cx} {S : St} {a : Act} {w : World} {o : Oper}
theorem SimU.noViews {μ : Nat → Option (Nat × Nat)} (h : SimU cx S a w μ) : SimU cx ⟨S.F, noViews S.M⟩ a w μ := h.weak (fun i => .inr rfl) fun t => by
  show Ab.noViews S.M t = S.M t ∨ Ab.noViews S.M t = ((S.M t).1, none)
  unfold Ab.noViews
  cases hq : (S.M t).2 with
  | none => exact .inl rfl
  | some b' =>
    simp only
    split
    · exact .inr rfl
    · exact .inl rfl
theorem upd_noViews_self {M : Nat → Nat × Option Blk} {t g : Nat} {b : Blk} (hM : M t = (g, some b)) (hst : OwS b.st) : upd (noViews M) t (g, some b) = noViews M := by
  funext q
  by_cases hq : q = t
  · subst hq
    rw [upd_same]
    unfold noViews
    rw [hM]
    have : ¬ b.st = 2 := by unfold OwS at hst; omega
    simp [this]
  · rw [upd_ne _ _ _ _ hq]
theorem copy_does (h0 : Sim cx S a w) {x y : Operand} {t ty e ey : TypeId} (ho : o.op = .call { callee := .builtin .copy, args := #[x, y], argTypes := #[t, ty] }) {d : Nat} (hd : o.dst = some d) (hdn : d < cx.n) {tg g n : Nat} {blk : Blk} {news : List SV}
    (hx : S.look x = (.sl tg g 0 n, some blk)) (he : elemP cx.P t = some e) (hey : elemP cx.P ty = some ey) (hs1 : szP cx.P e = some 1) (hb1 : blk.esz = 1) (hst : OwS blk.st) (hlen : blk.cells.length = n) (hsrc : srcSV 1 (S.look y) = some (n, news)) :
    Does cx ⟨upd S.F d (.dv (.int .i64 n)), upd (noViews S.M) tg (g, some { blk with cells := news })⟩ o a w := by
  obtain ⟨μ, h⟩ := h0
  have ex : S.ev x = .sl tg g 0 n := congrArg Prod.fst hx
  have eb : blkOf S.M (S.ev x) = some blk := congrArg Prod.snd hx
  have hv := h.ev x
  rw [ex] at hv eb
  have hM := blkOf_sl eb
  simp only [SVRep] at hv
  have hv2 := hv.2 _ hM
  have hb := h.blk tg g _ hM
  have hu := elemP_spec he
  obtain ⟨nv, hSrc, hnews⟩ := src_rep (w := w) h (s := S.ev y) hsrc (h.ev y) (elemP_spec hey)
  have hnl := hSrc.newsLen
  rw [Nat.mul_one] at hnl
  have hnl2 := hnews.length
  obtain ⟨i, hi, hi1⟩ := Option.map_eq_some_iff.1 (show (cx.P.info? e).map (·.size) = some 1 from hs1)
  have run1 : ∀ w', (Builtin.copy_ #[t, ty] o.type #[a.eval x, a.eval y]).run cx.P w = .ok (.int .i64 n) w' → (execOp a.eval o).run cx.P w = .ok (.value (.int .i64 n)) w' := fun w' hr => by
    refine builtin_exec ho ?_
    simp only [builtin, Sem.run_bind, List.map_toArray, List.map_cons, List.map_nil, hr, Result.andThen_ok]
    rfl
  unfold BlkRep at hb
  cases hm : μ tg with
  | none =>
    rw [hm] at hv2 hb
    simp only at hv2 hb
    obtain ⟨hv3, rfl, _⟩ := hv2
    have hnil : news = [] := List.eq_nil_of_length_eq_zero (by omega)
    have hnv : nv = [] := List.eq_nil_of_length_eq_zero hnl
    subst hnil; subst hnv
    have hblk : ({ blk with cells := [] } : Blk) = blk := by rw [← hb.1]
    intro Q
    unfold Oper.wp
    have hc := hSrc.cells
    have hl := hSrc.len w
    rw [run1 w (by rw [hv3]; simp [Builtin.copy_, run_underlying hu, sizeOf, typeInfo, hi, hi1, hl, hc, goInt])]
    show Sim cx _ (a.put o.dst _) w
    rw [hd, hblk, upd_noViews_self hM hst]
    exact ⟨μ, h.noViews.set hdn (by simp only [SVRep]; exact .int _ _)⟩
  | some p =>
    obtain ⟨b, cap⟩ := p
    rw [hm] at hv2 hb
    simp only at hv2 hb
    obtain ⟨hv3, hcap⟩ := hv2
    obtain ⟨cur, q1, q2, q3, q4, q5⟩ := hb
    simp only [Nat.zero_mul, Nat.sub_zero] at hv3
    have hst' := run_storeCells_at cx.P b 0 blk.elem nv 0 cur w q1 (by simp; omega) hSrc.one
    simp only [Nat.add_zero] at hst'
    have hW := h.write hM hst hm q1 0 news nv (by omega) (fun j c u hc hu => hnews.get j c u hc hu) (by omega)
    have hcells : putCells blk.cells 0 news = news := by
      unfold putCells
      rw [List.take_zero, List.nil_append, List.drop_of_length_le (by omega), List.append_nil]
    rw [hcells] at hW
    intro Q
    unfold Oper.wp
    have hc := hSrc.cells
    have hl := hSrc.len w
    rw [run1 (w.setRow b (putCells cur.toList 0 nv).toArray) (by
      rw [hv3]
      unfold putCells
      simp [Builtin.copy_, run_underlying hu, sizeOf, typeInfo, hi, hi1, hl, hc, goInt, hst'])]
    show Sim cx _ (a.put o.dst _) _
    rw [hd]
    exact ⟨μ, hW.set hdn (by simp only [SVRep]; exact .int _ _)⟩
end
end Go.Ab
set_option linter.all false
set_option linter.unusedVariables false
namespace Go.Ab
open Go.RowKit
section
variable {cx : Cx} {S : St} {a : Act} {w : World} {o : Oper}
end
section
variable {cx : Cx} {P : Program} {N : Nat} {ops : Array Oper} {rest : List Oper} {l : List (Nat × SV)} {m m' : List (Nat × Nat × Option Blk)} {K : St → Prop} {KD : List It → St → Prop} {its : List It}
  {d : Nat} {ty ty' : TypeId} {p : String} {af : Array Edge} {gd : Option (Nat × Bool)} {x y lo hi mx : Operand} {t e ey : TypeId} {tg g n st : Nat} {k : IntKind} {L L0 : List Int}
theorem qcp {ob : Option Blk} (he : elemP P t = some e) (hey : elemP P ty' = some ey) (hs1 : szP P e = some 1) (kk : Chain cx ops rest ⟨lk ((d, .dv (.int .i64 n)) :: l), mkM ((tg, g, some ⟨L.map fun q => .dv (.int k q), 1, e, st, true⟩) :: m')⟩ K)
    (hx : St.look ⟨lk l, mkM m⟩ x = (.sl tg g 0 n, some ⟨L0.map fun q => .dv (.int k q), 1, e, st, true⟩) := by (simp only [St.look, St.ev, lk, mkM, blkOf, svOf, svOfCell, reduceIte, Nat.reduceAdd, Nat.reduceEqDiff, Nat.reduceMul] <;> rfl)) (hy : St.look ⟨lk l, mkM m⟩ y = (.dv (.list (L.map (DV.int k))), ob) := by (simp only [St.look, St.ev, lk, mkM, blkOf, svOf, svOfCell, reduceIte, Nat.reduceAdd, Nat.reduceEqDiff, Nat.reduceMul] <;> rfl)) (hst : OwS st := by (first | exact .inl rfl | exact .inr (Nat.le_of_ble_eq_true rfl))) (hl0 : L0.length = n := by (first | rfl | (simp; done) | (simp; omega))) (hl : L.length = n := by (first | rfl | (simp; done) | (simp; omega))) (hm : nvL m = m' := by (simp only [nvL, killV] <;> rfl)) (hP : cx.P = P := by assumption) (hn : cx.n = N := by assumption) (hd : d < N := by decide) (hgd : GOk ops ⟨lk l, mkM m⟩ gd := by (first | exact trivial | exact ⟨_, rfl, by (simp only [lk, reduceIte, Nat.reduceEqDiff])⟩)) :
    Chain cx ops (⟨some d, .call { callee := .builtin .copy, args := #[x, y], argTypes := #[t, ty'] }, ty, p, af, gd⟩ :: rest) ⟨lk l, mkM m⟩ K := by
  subst hP; subst hn; subst hm
  refine ⟨_, gstep_of hgd (.sem fun _ a w h => copy_does h rfl rfl hd hx he hey hs1 rfl hst (by simpa using hl0) (by rw [hy, ← hl]; exact src_ints)), ?_⟩
  simp only [noViews_mkM, upd_mkM, upd_lk]
  exact kk
end
end Go.Ab
