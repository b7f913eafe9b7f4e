/- The moss laws in plain data: texts of meadows. -/
import Derived.Test.YtjipgkhfbfpacaaDoorMossD
import Derived.Test.YtjipgkhfbfpacaaDoorAbJ
import Derived.Lib.Split
import Derived.Lib.IndexMore
import Derived.Lib.AtoiAll
set_option linter.all false
namespace Go.Ab.Moss
open Go Go.Ab
def dg (k : Nat) : Tx := [UInt8.ofNat (48 + k)]
def hdL (n : Mn) : Tx := [109, 101, 97, 100, 111, 119, 32] ++ dg n.r ++ [32] ++ dg n.c ++ [32] ++ dg n.nd
def sqb (c v s : Nat) : Tx := (if v.testBit s then 35 else 46) :: (if s % c = c - 1 then [10] else [])
def body (c v : Nat) : Nat → Tx
  | 0 => []
  | k + 1 => body c v k ++ sqb c v k
def fmtL (n : Mn) (v : Nat) : Tx := hdL n ++ [10] ++ body n.c v (n.r * n.c)
theorem hdL_len (n : Mn) : (hdL n).length = 12 := by simp [hdL, dg]
def rdS (b : UInt8) (x : Nat × Nat) : Nat × Nat := (if b = 35 then x.1 ||| 2 ^ x.2 else x.1, if b = 10 then x.2 else x.2 + 1)
def rdx (N : Nat) : Tx → Nat × Nat → Nat × Nat
  | [], x => x
  | b :: l, x => if x.2 < N then rdx N l (rdS b x) else x
theorem rd_app {N : Nat} : ∀ (l l' : Tx) (x : Nat × Nat), (∀ k, k < l.length → ((l.take k).foldl (fun y b => rdS b y) x).2 < N) → rdx N (l ++ l') x = rdx N l' (l.foldl (fun y b => rdS b y) x)
  | [], _, _, _ => rfl
  | b :: l, l', x, h => by
    have h0 := h 0 (by simp)
    simp only [List.take_zero, List.foldl_nil] at h0
    simp only [List.cons_append, rdx, List.foldl_cons]
    rw [if_pos h0]
    refine rd_app l l' _ fun k hk => ?_
    have := h (k + 1) (by simp; omega)
    simpa using this
def lowB (v k : Nat) : Nat := v % 2 ^ k
theorem lowB_succ (v k : Nat) : lowB v (k + 1) = if v.testBit k then lowB v k ||| 2 ^ k else lowB v k := by
  apply Nat.eq_of_testBit_eq
  intro i
  unfold lowB
  rw [Nat.testBit_mod_two_pow]
  split
  · rename_i h
    rw [Nat.testBit_or, Nat.testBit_mod_two_pow, Nat.testBit_two_pow]
    by_cases e : k = i
    · subst e; simp [h]
    · by_cases h2 : i < k
      · simp [h2, show i < k + 1 by omega, e]
      · simp [h2, show ¬ i < k + 1 by omega, e]
  · rename_i h
    rw [Nat.testBit_mod_two_pow]
    by_cases e : i = k
    · subst e; simp [h]
    · by_cases h2 : i < k
      · simp [h2, show i < k + 1 by omega]
      · simp [h2, show ¬ i < k + 1 by omega]
theorem fold_body (c v : Nat) : ∀ k, (body c v k).foldl (fun y b => rdS b y) (0, 0) = (lowB v k, k)
  | 0 => by simp [body, lowB, Nat.mod_one]
  | k + 1 => by
    rw [body, List.foldl_append, fold_body c v k]
    unfold sqb
    rw [lowB_succ]
    by_cases h : v.testBit k
    · by_cases h2 : k % c = c - 1
      · simp [h, h2, rdS]
      · simp [h, h2, rdS]
    · by_cases h2 : k % c = c - 1
      · simp [h, h2, rdS]
      · simp [h, h2, rdS]
theorem fold_mono : ∀ (l : Tx) (x : Nat × Nat), x.2 ≤ (l.foldl (fun y b => rdS b y) x).2
  | [], _ => Nat.le_refl _
  | b :: l, x => by
    have := fold_mono l (rdS b x)
    simp only [List.foldl_cons]
    refine Nat.le_trans ?_ this
    unfold rdS; dsimp only; split <;> omega
theorem rd_body {c v N : Nat} (hv : v < 2 ^ N) : (rdx N (body c v N) (0, 0)).1 = v := by
  cases N with
  | zero => simp [body, rdx]; omega
  | succ N =>
    rw [body, rd_app]
    · rw [fold_body]
      unfold sqb
      have e : lowB v (N + 1) = v := Nat.mod_eq_of_lt hv
      rw [lowB_succ] at e
      simp only [rdx]
      rw [if_pos (Nat.lt_succ_self N)]
      by_cases h2 : N % c = c - 1
      · rw [if_pos h2]
        simp only [rdx]
        unfold rdS
        by_cases h : v.testBit N
        · rw [if_pos h] at e; simp [h, e]
        · rw [if_neg h] at e; simp [h, e]
      · rw [if_neg h2]
        simp only [rdx]
        unfold rdS
        by_cases h : v.testBit N
        · rw [if_pos h] at e; simp [h, e]
        · rw [if_neg h] at e; simp [h, e]
    · intro k hk
      have h1 : ((body c v N).take k ++ (body c v N).drop k).foldl (fun y b => rdS b y) (0, 0) = (lowB v N, N) := by rw [List.take_append_drop, fold_body]
      rw [List.foldl_append] at h1
      have h2 := fold_mono ((body c v N).drop k) ((body c v N).take k |>.foldl (fun y b => rdS b y) (0, 0))
      rw [h1] at h2
      exact Nat.lt_succ_of_le h2
theorem rd_lt {N : Nat} : ∀ (l : Tx) (x : Nat × Nat), x.1 < 2 ^ N → (rdx N l x).1 < 2 ^ N
  | [], x, h => h
  | b :: l, x, h => by
    simp only [rdx]
    split
    · rename_i h2
      refine rd_lt l _ ?_
      unfold rdS
      dsimp only
      split
      · exact Nat.or_lt_two_pow h (Nat.pow_lt_pow_right (by decide) h2)
      · exact h
    · exact h
def readR (n : Mn) (t : Tx) : Nat := (rdx (n.r * n.c) (t.drop 13) (0, 0)).1
def triples : List Mn := (List.range 6).flatMap fun r => (List.range 6).flatMap fun c => (List.range 3).map fun d => ⟨r + 1, c + 1, d + 1⟩
def tryP (t : Tx) (n : Mn) : Option (Mn × Nat) := if fmtL n (readR n t) = t then some (n, readR n t) else none
def refP (t : Tx) : Option (Mn × Nat) := triples.findSome? (tryP t)
def wq (c : Nat) (l : Tx) : Nat → Nat
  | 0 => 0
  | k + 1 => if l.getD (k + k / c) 0 = 35 then wq c l k ||| 2 ^ k else wq c l k
def putP (t rest : Tx) (m : Mw) : Option (Mn × Nat) :=
  if validB m = true ∧ (rest.length : Int) = m.rows * (m.cols + 1) then
    (if fmtL ⟨m.rows.toNat, m.cols.toNat, m.need.toNat⟩ (wq m.cols.toNat rest (m.rows.toNat * m.cols.toNat)) = t then some (⟨m.rows.toNat, m.cols.toNat, m.need.toNat⟩, wq m.cols.toNat rest (m.rows.toNat * m.cols.toNat)) else none)
  else none
def numL : List Tx → Option (List Int)
  | [] => some []
  | x :: l => match Lib.atoiAll x with
    | .ok v => (numL l).map (v :: ·)
    | _ => none
def progP (t : Tx) : Option (Mn × Nat) :=
  if (Lib.split (Lib.cut t [10]).1 [32]).length ≠ 4 then none else
  match numL ((Lib.split (Lib.cut t [10]).1 [32]).drop 1) with
  | some [a, b, d] => putP t (Lib.cut t [10]).2.1 ⟨a, b, d⟩
  | _ => none
theorem body_len (c v : Nat) (hc : 1 ≤ c) : ∀ k, (body c v k).length = k + k / c
  | 0 => by simp [body]
  | k + 1 => by
    rw [body, List.length_append, body_len c v hc k, Nat.succ_div]
    unfold sqb
    have hm := Nat.mod_lt k hc
    have e : c ∣ k + 1 ↔ k % c = c - 1 := by
      constructor
      · rintro ⟨q, hq⟩
        have h1 : (k + 1) % c = 0 := by rw [hq]; exact Nat.mul_mod_right c q
        rw [Nat.add_mod] at h1
        by_cases h2 : c = 1
        · subst h2; omega
        · have h3 : 1 % c = 1 := Nat.mod_eq_of_lt (by omega)
          rw [h3] at h1
          by_cases h4 : k % c + 1 < c
          · rw [Nat.mod_eq_of_lt h4] at h1; omega
          · omega
      · intro h
        have h1 := Nat.div_add_mod k c
        refine ⟨k / c + 1, ?_⟩
        rw [Nat.mul_add]; omega
    by_cases h : k % c = c - 1
    · rw [if_pos h, if_pos (e.2 h)]; simp; omega
    · rw [if_neg h, if_neg (fun h2 => h (e.1 h2))]; simp; omega
theorem body_get {c v : Nat} (hc : 1 ≤ c) : ∀ {N k : Nat}, k < N → (body c v N).getD (k + k / c) 0 = if v.testBit k then 35 else 46
  | N + 1, k, hk => by
    rw [body, List.getD_eq_getElem?_getD, List.getElem?_append]
    rw [body_len c v hc]
    by_cases e : k = N
    · subst e
      rw [if_neg (Nat.lt_irrefl _), Nat.sub_self]
      simp [sqb]
    · have h1 : k / c ≤ N / c := Nat.div_le_div_right (by omega)
      rw [if_pos (by omega), ← List.getD_eq_getElem?_getD]
      exact body_get hc (by omega)
theorem wq_body {c v N : Nat} (hc : 1 ≤ c) : ∀ k, k ≤ N → wq c (body c v N) k = lowB v k
  | 0, _ => by simp [wq, lowB, Nat.mod_one]
  | k + 1, h => by
    rw [wq, wq_body hc k (by omega), body_get hc (by omega), lowB_succ]
    by_cases hb : v.testBit k
    · simp [hb]
    · simp [hb]
theorem wq_lt (c : Nat) (l : Tx) : ∀ k, wq c l k < 2 ^ k
  | 0 => by simp [wq]
  | k + 1 => by
    have ih := wq_lt c l k
    have h2 : 2 ^ k < 2 ^ (k + 1) := Nat.pow_lt_pow_right (by decide) (Nat.lt_succ_self k)
    rw [wq]
    split
    · exact Nat.or_lt_two_pow (by omega) h2
    · omega
theorem cut_first : ∀ (a b : Tx), (∀ x ∈ a, x ≠ 10) → Lib.index (a ++ 10 :: b) [10] = (a.length : Int)
  | [], b, _ => by simp [Lib.index]
  | x :: a, b, h => by
    have hx := h x (List.mem_cons_self ..)
    have ih := cut_first a b fun z hz => h z (List.mem_cons_of_mem _ hz)
    rw [List.cons_append, Lib.index, if_neg (by simp [Ne.symm hx]), ih, if_neg (by simp)]
    simp
theorem cut_line (a b : Tx) (h : ∀ x ∈ a, x ≠ 10) : Lib.cut (a ++ 10 :: b) [10] = (a, b, true) := by
  unfold Lib.cut
  rw [cut_first a b h, if_pos (by omega), Int.toNat_natCast]
  simp
set_option maxRecDepth 100000 in
theorem hd_facts : ∀ r < 7, ∀ c < 7, ∀ d < 4, (∀ x ∈ hdL ⟨r, c, d⟩, x ≠ 10) ∧ (Lib.split (hdL ⟨r, c, d⟩) [32]).length = 4 ∧ numL ((Lib.split (hdL ⟨r, c, d⟩) [32]).drop 1) = some [(r : Int), (c : Int), (d : Int)] := by decide +kernel
set_option maxRecDepth 100000 in
theorem dg_inj : ∀ a < 7, ∀ b < 7, dg a = dg b → a = b := by decide +kernel
theorem hd_inj {n n' : Mn} (h : n.Ok) (h' : n'.Ok) (e : hdL n = hdL n') : n = n' := by
  unfold hdL dg at e
  simp only [List.append_assoc, List.cons_append, List.nil_append, List.cons.injEq, and_true, true_and] at e
  obtain ⟨e1, e2, e3⟩ := e
  have h1 := dg_inj n.r (by have := h.r2; omega) n'.r (by have := h'.r2; omega) (by unfold dg; rw [e1])
  have h2 := dg_inj n.c (by have := h.c2; omega) n'.c (by have := h'.c2; omega) (by unfold dg; rw [e2])
  have h3 := dg_inj n.nd (by have := h.n2; omega) n'.nd (by have := h'.n2; omega) (by unfold dg; rw [e3])
  cases n; cases n'; simp_all
theorem fmt_hd (n : Mn) (v : Nat) : (fmtL n v).take 12 = hdL n := by
  unfold fmtL
  rw [List.append_assoc, List.take_append_of_le_length (by rw [hdL_len]; exact Nat.le_refl _), List.take_of_length_le (by rw [hdL_len]; exact Nat.le_refl _)]
theorem fmt_drop (n : Mn) (v : Nat) : (fmtL n v).drop 13 = body n.c v (n.r * n.c) := by
  unfold fmtL
  have : (hdL n ++ [10]).length = 13 := by rw [List.length_append, hdL_len]; rfl
  rw [← this, List.drop_left]
theorem read_fmt {n : Mn} {v : Nat} (hv : v < 2 ^ (n.r * n.c)) : readR n (fmtL n v) = v := by
  unfold readR
  rw [fmt_drop]; exact rd_body hv
theorem read_lt (n : Mn) (t : Tx) : readR n t < 2 ^ (n.r * n.c) := rd_lt _ _ (Nat.two_pow_pos _)
theorem triples_ok {n : Mn} : n ∈ triples ↔ n.Ok := by
  unfold triples
  simp only [List.mem_flatMap, List.mem_map, List.mem_range]
  constructor
  · rintro ⟨r, hr, c, hc, d, hd, rfl⟩
    exact ⟨by dsimp only; omega, by dsimp only; omega, by dsimp only; omega, by dsimp only; omega, by dsimp only; omega, by dsimp only; omega⟩
  · rintro ⟨h1, h2, h3, h4, h5, h6⟩
    refine ⟨n.r - 1, by omega, n.c - 1, by omega, n.nd - 1, by omega, ?_⟩
    cases n; simp only [Mn.mk.injEq] at *; omega
theorem find_only {α β : Type} {f : α → Option β} {a : α} {b : β} (hb : f a = some b) : ∀ {l : List α}, a ∈ l → (∀ x ∈ l, x = a ∨ f x = none) → l.findSome? f = some b
  | x :: l, hm, h => by
    rw [List.findSome?_cons]
    rcases h x (List.mem_cons_self ..) with rfl | e
    · rw [hb]
    · rw [e]
      refine find_only hb ?_ fun z hz => h z (List.mem_cons_of_mem _ hz)
      rcases List.mem_cons.1 hm with rfl | h2
      · rw [e] at hb; cases hb
      · exact h2
theorem ref_fmt {n : Mn} (ok : n.Ok) {v : Nat} (hv : v < 2 ^ (n.r * n.c)) : refP (fmtL n v) = some (n, v) := by
  unfold refP
  refine find_only (a := n) (by unfold tryP; rw [read_fmt hv, if_pos rfl]) (triples_ok.2 ok) fun x hx => ?_
  by_cases e : fmtL x (readR x (fmtL n v)) = fmtL n v
  · left
    have h1 := congrArg (List.take 12) e
    rw [fmt_hd, fmt_hd] at h1
    exact hd_inj (triples_ok.1 hx) ok h1
  · right; unfold tryP; rw [if_neg e]
theorem prog_fmt {n : Mn} (ok : n.Ok) {v : Nat} (hv : v < 2 ^ (n.r * n.c)) : progP (fmtL n v) = some (n, v) := by
  obtain ⟨f1, f2, f3⟩ := hd_facts n.r (by have := ok.r2; omega) n.c (by have := ok.c2; omega) n.nd (by have := ok.n2; omega)
  have hc : Lib.cut (fmtL n v) [10] = (hdL n, body n.c v (n.r * n.c), true) := by
    unfold fmtL
    rw [List.append_assoc]
    exact cut_line _ _ f1
  unfold progP
  rw [hc]
  dsimp only
  rw [if_neg (by rw [f2]; simp), f3]
  dsimp only
  unfold putP
  dsimp only
  have hl : (body n.c v (n.r * n.c)).length = n.r * (n.c + 1) := by
    rw [body_len _ _ ok.c1, Nat.mul_div_cancel _ ok.c1, Nat.mul_add]; omega
  rw [if_pos ⟨n_valid ok, by rw [hl]; push_cast; rfl⟩]
  simp only [Int.toNat_natCast]
  rw [wq_body ok.c1 _ (Nat.le_refl _), show lowB v (n.r * n.c) = v from Nat.mod_eq_of_lt hv, if_pos rfl]
theorem prog_some {t : Tx} {n : Mn} {v : Nat} (h : progP t = some (n, v)) : n.Ok ∧ v < 2 ^ (n.r * n.c) ∧ t = fmtL n v := by
  unfold progP at h
  split at h
  · cases h
  · split at h
    · unfold putP at h
      split at h
      · rename_i hv
        split at h
        · rename_i e
          obtain ⟨n', ok, e2⟩ := valid_n hv.1
          simp only [Option.some.injEq, Prod.mk.injEq] at h
          obtain ⟨h1, h2⟩ := h
          have e3 : n = n' := by
            rw [← h1]
            have := congrArg Mw.rows e2; have := congrArg Mw.cols e2; have := congrArg Mw.need e2
            cases n'; simp_all
          rw [h1, h2] at e
          refine ⟨e3 ▸ ok, ?_, e.symm⟩
          rw [← h2, ← h1]; exact wq_lt _ _ _
        · cases h
      · cases h
    · cases h
theorem ref_some {t : Tx} {x : Mn × Nat} (h : refP t = some x) : x.1.Ok ∧ x.2 < 2 ^ (x.1.r * x.1.c) ∧ t = fmtL x.1 x.2 := by
  obtain ⟨n, hn, hx⟩ := List.exists_of_findSome?_eq_some h
  unfold tryP at hx
  split at hx
  · rename_i e
    simp only [Option.some.injEq] at hx
    subst hx
    exact ⟨triples_ok.1 hn, read_lt n t, e.symm⟩
  · cases hx
theorem parse_same (t : Tx) : progP t = refP t := by
  cases hr : refP t with
  | some x =>
    obtain ⟨ok, hv, e⟩ := ref_some hr
    rw [e, prog_fmt ok hv]
  | none =>
    cases hp : progP t with
    | none => rfl
    | some x =>
      obtain ⟨n, v⟩ := x
      obtain ⟨ok, hv, e⟩ := prog_some hp
      rw [e, ref_fmt ok hv] at hr
      cases hr
end Go.Ab.Moss
