/- The dry laws in plain data: orders of steps, lists that lead back. -/
import Derived.Test.YtjlfgobbieljoaaDryD
import Derived.Test.YtjlfgobbieljoaaDryC
import Derived.Test.YtjlfgobbieljoaaDryL1
set_option linter.all false
namespace Go.Ab.Try
open Go Go.Ab Go.Proofs
structure Sk where
  p : List Int
  m : List Int
  c : List Int
abbrev dSk (x : Sk) : DV := .agg [ints x.p, ints x.m, ints x.c]
def tryF (rec : List Int → Wk → Sk × Bool) (y : Yd) (p : List Int) (w : Wk) (i : Nat) : Option Sk :=
  if (nextW y w i).2 = false then none else if (rec (p ++ [(i : Int)]) (nextW y w i).1).2 then some (rec (p ++ [(i : Int)]) (nextW y w i).1).1 else none
def doneW (w : Wk) : Bool := !w.c.any fun x => decide (0 < x)
def firG (rec : List Int → Wk → Sk × Bool) (y : Yd) (p : List Int) (w : Wk) : Sk × Bool :=
  if doneW w then (⟨p, w.m, w.c⟩, true) else match (List.range y.steps.length).findSome? (tryF rec y p w) with
    | some r => (r, true)
    | none => (⟨[], [], []⟩, false)
def firF (y : Yd) : Nat → List Int → Wk → Sk × Bool
  | 0 => firG (fun _ _ => (⟨[], [], []⟩, false)) y
  | n + 1 => firG (firF y n) y
theorem fs_none {α : Type} {f : Nat → Option α} {n : Nat} (h : ∀ j, j < n → f j = none) : (List.range n).findSome? f = none := by
  rw [List.findSome?_eq_none_iff]
  exact fun j hj => h j (List.mem_range.1 hj)
theorem fs_some {α : Type} {f : Nat → Option α} {r : α} : ∀ {n k : Nat}, k < n → (∀ j, j < k → f j = none) → f k = some r → (List.range n).findSome? f = some r
  | n + 1, k, hk, hn, hs => by
    rw [List.range_succ, List.findSome?_append]
    by_cases e : k = n
    · subst e
      rw [fs_none hn]; simp [hs]
    · rw [fs_some (n := n) (by omega) hn hs]; rfl
theorem firG_done {rec : List Int → Wk → Sk × Bool} {y : Yd} {p : List Int} {w : Wk} (h : doneW w = true) : firG rec y p w = (⟨p, w.m, w.c⟩, true) := by unfold firG; rw [if_pos h]
theorem firG_none {rec : List Int → Wk → Sk × Bool} {y : Yd} {p : List Int} {w : Wk} (h : doneW w = false) (hn : ∀ j, j < y.steps.length → tryF rec y p w j = none) : firG rec y p w = (⟨[], [], []⟩, false) := by
  unfold firG
  rw [if_neg (by simp [h]), fs_none hn]
theorem firG_some {rec : List Int → Wk → Sk × Bool} {y : Yd} {p : List Int} {w : Wk} {k : Nat} {r : Sk} (h : doneW w = false) (hk : k < y.steps.length) (hn : ∀ j, j < k → tryF rec y p w j = none) (hs : tryF rec y p w k = some r) : firG rec y p w = (r, true) := by
  unfold firG
  rw [if_neg (by simp [h]), fs_some hk hn hs]
theorem fs_rel {α β : Type} {f : Nat → Option α} {g : Nat → Option β} {R : α → β → Prop} : ∀ l : List Nat, (∀ i ∈ l, (f i = none ∧ g i = none) ∨ ∃ a b, f i = some a ∧ g i = some b ∧ R a b) → (l.findSome? f = none ∧ l.findSome? g = none) ∨ ∃ a b, l.findSome? f = some a ∧ l.findSome? g = some b ∧ R a b
  | [], _ => .inl ⟨rfl, rfl⟩
  | i :: l, h => by
    rw [List.findSome?_cons, List.findSome?_cons]
    rcases h i (List.mem_cons_self ..) with ⟨e1, e2⟩ | ⟨a, b, e1, e2, r⟩
    · rw [e1, e2]; exact fs_rel l fun j hj => h j (List.mem_cons_of_mem _ hj)
    · rw [e1, e2]; exact .inr ⟨a, b, rfl, rfl, r⟩
def RelO (x : Sk × Bool) (p : List Int) (o : List Int × Bool) : Prop := x.2 = o.2 ∧ x.1.p = if o.2 then p ++ o.1 else []
theorem sum_zero : ∀ {c : List Int}, (∀ x ∈ c, 0 ≤ x) → ((!c.any fun x => decide (0 < x)) = true ↔ c.sum = 0)
  | [], _ => by simp
  | x :: c, h => by
    have h0 := h x (List.mem_cons_self ..)
    have h1 := fun z hz => h z (List.mem_cons_of_mem _ hz)
    have ih := sum_zero h1
    have hs := sum_nonneg h1
    rw [List.any_cons, List.sum_cons]
    by_cases e : 0 < x
    · simp [e]; omega
    · have : x = 0 := by omega
      subst this
      simpa using ih
theorem set_nonneg {c : List Int} {i : Nat} (hc : ∀ x ∈ c, 0 ≤ x) (hi : i < c.length) (h : ¬ sg c i = 0) : ∀ x ∈ c.set i (sg c i - 1), 0 ≤ x := fun x hx => by
  rcases List.mem_or_eq_of_mem_set hx with h1 | h1
  · exact hc x h1
  · have := hc _ (List.mem_of_getElem? (sg_get hi)); omega
theorem tryF_zero {rec : List Int → Wk → Sk × Bool} {y : Yd} {p : List Int} {w : Wk} {i : Nat} (h : sg w.c i = 0) : tryF rec y p w i = none := by
  have e : nextW y w i = (⟨[], []⟩, false) := by unfold nextW; rw [if_pos h]
  unfold tryF; rw [e]; rfl
theorem nextW_ok {y : Yd} {w : Wk} {i : Nat} (h : ¬ sg w.c i = 0) : nextW y w i = (⟨(doR y w.m i).1, w.c.set i (sg w.c i - 1)⟩, decide ((doR y w.m i).2 = 0)) := by
  unfold nextW; rw [if_neg h]; rfl
theorem tryF_bad {rec : List Int → Wk → Sk × Bool} {y : Yd} {p : List Int} {w : Wk} {i : Nat} (h : ¬ sg w.c i = 0) (e : ¬ (doR y w.m i).2 = 0) : tryF rec y p w i = none := by
  unfold tryF; rw [nextW_ok h, if_pos]
  simpa using e
theorem tryF_ok {rec : List Int → Wk → Sk × Bool} {y : Yd} {p : List Int} {w : Wk} {i : Nat} (h : ¬ sg w.c i = 0) (e : (doR y w.m i).2 = 0) : tryF rec y p w i = if (rec (p ++ [(i : Int)]) ⟨(doR y w.m i).1, w.c.set i (sg w.c i - 1)⟩).2 then some (rec (p ++ [(i : Int)]) ⟨(doR y w.m i).1, w.c.set i (sg w.c i - 1)⟩).1 else none := by
  unfold tryF
  have h2 : (nextW y w i).2 = true := by rw [nextW_ok h]; simpa using e
  rw [if_neg (by rw [h2]; simp), nextW_ok h]
theorem tryAt_zero {rec : List Int → List Int → List Int × Bool} {y : Yd} {m c : List Int} {i : Nat} (h : sg c i = 0) : tryAt rec y m c i = none := by unfold tryAt; rw [if_pos h]
theorem tryAt_bad {rec : List Int → List Int → List Int × Bool} {y : Yd} {m c : List Int} {i : Nat} (h : ¬ sg c i = 0) (e : ¬ (doR y m i).2 = 0) : tryAt rec y m c i = none := by unfold tryAt; rw [if_neg h, if_pos e]
theorem tryAt_ok {rec : List Int → List Int → List Int × Bool} {y : Yd} {m c : List Int} {i : Nat} (h : ¬ sg c i = 0) (e : (doR y m i).2 = 0) : tryAt rec y m c i = if (rec (doR y m i).1 (c.set i (sg c i - 1))).2 then some ((i : Int) :: (rec (doR y m i).1 (c.set i (sg c i - 1))).1) else none := by
  unfold tryAt; rw [if_neg h, if_neg (fun h => h e)]
theorem firG_rel {recF : List Int → Wk → Sk × Bool} {recO : List Int → List Int → List Int × Bool} {y : Yd} {p : List Int} {w : Wk} (hc : ∀ x ∈ w.c, 0 ≤ x) (hl : w.c.length = y.steps.length)
    (hr : ∀ (p' : List Int) (w' : Wk), (∀ x ∈ w'.c, 0 ≤ x) → w'.c.length = y.steps.length → RelO (recF p' w') p' (recO w'.m w'.c)) : RelO (firG recF y p w) p (ordG recO y w.m w.c) := by
  unfold firG ordG doneW
  by_cases h0 : w.c.sum = 0
  · rw [if_pos ((sum_zero hc).2 h0), if_pos h0]
    exact ⟨rfl, by simp⟩
  · rw [if_neg (fun h => h0 ((sum_zero hc).1 h)), if_neg h0, hl]
    have hf := fs_rel (f := tryF recF y p w) (g := tryAt recO y w.m w.c) (R := fun a b => a.p = p ++ b) (List.range y.steps.length) fun i hi => by
      have hi' : i < y.steps.length := List.mem_range.1 hi
      by_cases e0 : sg w.c i = 0
      · exact .inl ⟨tryF_zero e0, tryAt_zero e0⟩
      · by_cases e1 : (doR y w.m i).2 = 0
        · rw [tryF_ok e0 e1, tryAt_ok e0 e1]
          obtain ⟨r1, r2⟩ := hr (p ++ [(i : Int)]) ⟨(doR y w.m i).1, w.c.set i (sg w.c i - 1)⟩ (set_nonneg hc (by omega) e0) (by simp [hl])
          dsimp only at r1 r2
          rw [r1]
          by_cases e3 : (recO (doR y w.m i).1 (w.c.set i (sg w.c i - 1))).2 = true
          · right
            rw [if_pos e3, if_pos e3]
            refine ⟨_, _, rfl, rfl, ?_⟩
            rw [r2, if_pos e3, List.append_assoc]; rfl
          · left
            rw [if_neg e3, if_neg e3]; exact ⟨rfl, rfl⟩
        · exact .inl ⟨tryF_bad e0 e1, tryAt_bad e0 e1⟩
    rcases hf with ⟨e1, e2⟩ | ⟨a, b, e1, e2, r⟩
    · rw [e1, e2]; exact ⟨rfl, rfl⟩
    · rw [e1, e2]; exact ⟨rfl, by simpa using r⟩
theorem firF_rel {y : Yd} : ∀ (n : Nat) (p : List Int) (w : Wk), (∀ x ∈ w.c, 0 ≤ x) → w.c.length = y.steps.length → RelO (firF y n p w) p (ordF y n w.m w.c)
  | 0, p, w, hc, hl => firG_rel hc hl fun _ _ _ _ => ⟨rfl, rfl⟩
  | n + 1, p, w, hc, hl => firG_rel hc hl fun p' w' hc' hl' => firF_rel n p' w' hc' hl'
theorem ordG_nil {rec : List Int → List Int → List Int × Bool} {y : Yd} {m c : List Int} (h : (ordG rec y m c).2 = false) : (ordG rec y m c).1 = [] := by
  unfold ordG at h ⊢
  split
  · rfl
  · rename_i e
    rw [if_neg e] at h
    split
    · rename_i l hl; rw [hl] at h; cases h
    · rfl
theorem ordF_nil {y : Yd} {m c : List Int} : ∀ n, (ordF y n m c).2 = false → (ordF y n m c).1 = []
  | 0, h => ordG_nil h
  | _ + 1, h => ordG_nil h
theorem firF_ord {y : Yd} {m c : List Int} (n : Nat) (hc : ∀ x ∈ c, 0 ≤ x) (hl : c.length = y.steps.length) : (firF y n [] ⟨m, c⟩).1.p = (ordF y n m c).1 ∧ (firF y n [] ⟨m, c⟩).2 = (ordF y n m c).2 := by
  obtain ⟨r1, r2⟩ := firF_rel n [] ⟨m, c⟩ hc hl
  refine ⟨?_, r1⟩
  rw [r2]
  cases e : (ordF y n m c).2 with
  | true => rw [if_pos rfl]; rfl
  | false => rw [if_neg (by simp)]; exact (ordF_nil n e).symm
theorem run_idx {y : Yd} : ∀ (l m : List Int) (i j : Nat), (runFrom y m l i).1 = (runFrom y m l j).1 ∧ (runFrom y m l i).2.2 = (runFrom y m l j).2.2
  | [], m, i, j => ⟨rfl, rfl⟩
  | s :: l, m, i, j => by
    simp only [runFrom]
    split
    · exact ⟨rfl, rfl⟩
    · exact run_idx l _ (i + 1) (j + 1)
theorem run_len {y : Yd} : ∀ (l m : List Int) (i : Nat), (runFrom y m l i).2.2 = 0 → (runFrom y m l i).2.1 = (i : Int) + l.length
  | [], m, i, _ => by simp [runFrom]
  | s :: l, m, i, h => by
    simp only [runFrom] at h ⊢
    split at h
    · rename_i h1; exact absurd h h1
    · rename_i h1
      rw [if_neg h1, run_len l _ _ h]
      simp; omega
def SoundO (y : Yd) (m c : List Int) (o : List Int × Bool) : Prop := o.2 = true → (∀ x ∈ o.1, 0 ≤ x ∧ x < y.steps.length) ∧ (runFrom y m o.1 0).2.2 = 0 ∧ ∀ i, i < y.steps.length → cntAt o.1 i = sg c i
theorem sg_sum_zero {c : List Int} (hc : ∀ x ∈ c, 0 ≤ x) (h : c.sum = 0) (i : Nat) : sg c i = 0 := by
  by_cases hi : i < c.length
  · have h1 := (sum_zero hc).2 h
    simp only [Bool.not_eq_true', List.any_eq_false, decide_eq_true_eq] at h1
    have h2 := List.mem_of_getElem? (sg_get hi)
    have := h1 _ h2
    have := hc _ h2
    omega
  · simp [sg, hi]
theorem sg_set {c : List Int} {i j : Nat} {x : Int} (hi : i < c.length) : sg (c.set i x) j = if j = i then x else sg c j := by
  unfold sg
  by_cases e : j = i
  · subst e; simp [hi]
  · rw [if_neg e]; simp [List.getD_eq_getElem?_getD, List.getElem?_set, Ne.symm e]
theorem ordG_sound {rec : List Int → List Int → List Int × Bool} {y : Yd} {m c : List Int} (hc : ∀ x ∈ c, 0 ≤ x) (hl : c.length = y.steps.length)
    (hr : ∀ a b, (∀ x ∈ b, 0 ≤ x) → b.length = y.steps.length → SoundO y a b (rec a b)) : SoundO y m c (ordG rec y m c) := by
  intro h
  unfold ordG at h ⊢
  by_cases h0 : c.sum = 0
  · rw [if_pos h0]
    refine ⟨by simp, rfl, fun i _ => ?_⟩
    rw [sg_sum_zero hc h0]; rfl
  · rw [if_neg h0] at h ⊢
    cases hf : (List.range c.length).findSome? (tryAt rec y m c) with
    | none => rw [hf] at h; cases h
    | some l =>
      obtain ⟨i, hi, ht⟩ := List.exists_of_findSome?_eq_some hf
      have hi' : i < c.length := List.mem_range.1 hi
      unfold tryAt at ht
      split at ht
      · cases ht
      · rename_i e0
        split at ht
        · cases ht
        · rename_i e1
          split at ht
          · rename_i e2
            simp only [Option.some.injEq] at ht
            subst ht
            obtain ⟨s1, s2, s3⟩ := hr _ _ (set_nonneg hc hi' e0) (by simp [hl]) e2
            dsimp only
            refine ⟨fun x hx => ?_, ?_, fun j hj => ?_⟩
            · rcases List.mem_cons.1 hx with rfl | hx
              · omega
              · exact s1 x hx
            · simp only [runFrom]
              have e3 : (afterR (stepAt y (i : Int)) m).2 = 0 := Classical.not_not.1 e1
              rw [if_neg (by simp [e3]), (run_idx _ _ 1 0).2]
              exact s2
            · rw [cntAt_cons, s3 j hj, sg_set hi']
              by_cases e : j = i
              · subst e; rw [if_pos rfl, if_pos rfl]; omega
              · rw [if_neg e, if_neg (by omega)]; omega
          · cases ht
theorem ordF_sound {y : Yd} : ∀ (n : Nat) (m c : List Int), (∀ x ∈ c, 0 ≤ x) → c.length = y.steps.length → SoundO y m c (ordF y n m c)
  | 0, m, c, hc, hl => ordG_sound hc hl fun _ _ _ _ h => by cases h
  | n + 1, m, c, hc, hl => ordG_sound hc hl fun a b hb hbl => ordF_sound n a b hb hbl
theorem cntAt_zero {c : List Int} {n : Nat} (hl : c.length = n) (h : ∀ i, i < n → sg c i = 0) : c.sum = 0 := by
  have : ∀ x ∈ c, x = 0 := fun x hx => by
    obtain ⟨i, hi, rfl⟩ := List.getElem_of_mem hx
    have h1 := h i (by omega)
    have h2 := sg_get hi
    rw [List.getElem?_eq_getElem hi] at h2
    rw [Option.some.inj h2]; exact h1
  clear h hl
  induction c with
  | nil => rfl
  | cons x c ih => rw [List.sum_cons, this x (List.mem_cons_self ..), ih fun z hz => this z (List.mem_cons_of_mem _ hz)]; rfl
theorem ordF_all {y : Yd} : ∀ (n : Nat) (l m c : List Int), l.length ≤ n → c.length = y.steps.length → (∀ i, i < y.steps.length → cntAt l i = sg c i) → (∀ x ∈ l, 0 ≤ x ∧ x < y.steps.length) → (runFrom y m l 0).2.2 = 0 → (ordF y n m c).2 = true
  | n, [], m, c, _, hl, hcn, _, _ => by
    have h0 : c.sum = 0 := cntAt_zero hl fun i hi => by rw [← hcn i hi]; rfl
    cases n <;> simp [ordF, ordG_zero h0]
  | n + 1, s :: l, m, c, hn, hl, hcn, hin, hr => by
    obtain ⟨s0, s1⟩ := hin s (List.mem_cons_self ..)
    simp only [List.length_cons] at hn
    obtain ⟨k, rfl⟩ : ∃ k : Nat, s = (k : Int) := ⟨s.toNat, by omega⟩
    have hk : k < y.steps.length := by omega
    have hk' : k < c.length := by omega
    have h1 := hcn k hk
    rw [cntAt_cons, if_pos rfl] at h1
    have h2 := (cntAt_bd l k).1
    have e0 : ¬ sg c k = 0 := by omega
    simp only [runFrom] at hr
    split at hr
    · rename_i e1; exact absurd hr e1
    · rename_i e1
      have e2 : (doR y m (k : Int)).2 = 0 := Classical.not_not.1 e1
      have hrec := ordF_all n l (doR y m (k : Int)).1 (c.set k (sg c k - 1)) (by omega) (by simp [hl]) (fun i hi => by
        have := hcn i hi
        rw [cntAt_cons] at this
        rw [sg_set hk']
        by_cases e : i = k
        · subst e; rw [if_pos rfl]; omega
        · rw [if_neg e]; rw [if_neg (by omega)] at this; omega) (fun x hx => hin x (List.mem_cons_of_mem _ hx)) (by rw [(run_idx _ _ 0 1).2]; exact hr)
      have ht : tryAt (ordF y n) y m c k = some ((k : Int) :: (ordF y n (doR y m k).1 (c.set k (sg c k - 1))).1) := by
        unfold tryAt
        rw [if_neg e0, if_neg (by simp [e2]), if_pos hrec]
      have hs0 : ¬ c.sum = 0 := fun h => by
        have hnn : ∀ x ∈ c, 0 ≤ x := fun x hx => by
          obtain ⟨i, hi, rfl⟩ := List.getElem_of_mem hx
          have q1 := hcn i (by omega)
          have q2 := sg_get hi
          rw [List.getElem?_eq_getElem hi] at q2
          have q3 := (cntAt_bd ((k : Int) :: l) i).1
          rw [Option.some.inj q2]; omega
        exact e0 (sg_sum_zero hnn h k)
      show (ordG (ordF y n) y m c).2 = true
      unfold ordG
      rw [if_neg hs0]
      cases hf : (List.range c.length).findSome? (tryAt (ordF y n) y m c) with
      | none =>
        rw [List.findSome?_eq_none_iff] at hf
        have := hf k (List.mem_range.2 hk')
        rw [ht] at this; cases this
      | some r => rfl
theorem effC_congr {y : Yd} {f g : Nat → Int} {q : Nat} : ∀ k, (∀ i, i < k → f i = g i) → effC y f k q = effC y g k q
  | 0, _ => rfl
  | k + 1, h => by simp only [effC]; rw [effC_congr k fun i hi => h i (by omega), h k (by omega)]
theorem cntRow_sum {n : Nat} : ∀ l : List Int, (∀ x ∈ l, 0 ≤ x ∧ x < n) → (cntRow n l).sum = l.length
  | [], _ => by
    rw [cntRow_zero]
    induction n with
    | zero => rfl
    | succ n ih => rw [List.replicate_succ, List.sum_cons, ih (by simp)]; rfl
  | s :: l, h => by
    obtain ⟨s0, s1⟩ := h s (List.mem_cons_self ..)
    have ih := cntRow_sum l fun x hx => h x (List.mem_cons_of_mem _ hx)
    obtain ⟨k, rfl⟩ : ∃ k : Nat, s = (k : Int) := ⟨s.toNat, by omega⟩
    have hk : k < n := by omega
    have e : cntRow n ((k : Int) :: l) = (cntRow n l).set k (sg (cntRow n l) k + 1) := by
      unfold cntRow
      refine (range_set (fun q _ hq => ?_) fun _ => ?_).symm
      · rw [cntAt_cons, if_neg (by omega)]; omega
      · rw [cntAt_cons, if_pos rfl]
        simp [sg, hk]; omega
    rw [e, sum_set (by rw [cntRow_len]; exact hk), ih, List.length_cons]; omega
theorem getD_ext {a b : List Int} {n : Nat} (ha : a.length = n) (hb : b.length = n) (h : ∀ p, p < n → a.getD p 0 = b.getD p 0) : a = b := by
  apply List.ext_getElem (by omega)
  intro i h1 h2
  have := h i (by omega)
  simpa [h1, h2] using this
theorem listedE_of {y : Yd} {l : List Int} (h40 : l.length ≤ 40) (h : ∀ x ∈ l, 0 ≤ x ∧ x < y.steps.length) : listedE y l = 0 := by
  unfold listedE
  rw [if_neg (by omega), if_pos]
  rw [List.all_eq_true]
  intro x hx
  have := h x hx
  simp [within]; omega
theorem runR_of {y : Yd} {m l : List Int} (hv : VYd y) (hm : VM y m) (h40 : l.length ≤ 40) (h : ∀ x ∈ l, 0 ≤ x ∧ x < y.steps.length) : runR y m l = runFrom y m l 0 := by
  unfold runR
  rw [if_neg (by rw [filledE_of hv hm]; simp), if_neg (by rw [listedE_of h40 h]; simp)]
theorem order_top {y : Yd} {m l : List Int} (h : (runR y m l).2.2 = 0) (h8 : l.length ≤ 8) :
    (ordR y m (cntR y l).1).2.2 = 0 ∧ (ordR y m (cntR y l).1).2.1 = true ∧ (runR y m (ordR y m (cntR y l).1).1).2.2 = 0 ∧ (runR y m (ordR y m (cntR y l).1).1).1 = (runR y m l).1 := by
  obtain ⟨hv, hm, h40, hl, h1, h2, e⟩ := runR_ok h
  have hv' : validate y = 0 := hv
  have ec : cntR y l = (cntRow y.steps.length l, 0) := by simp [cntR, hv', h2]
  have h0 : (runFrom y m l 0).2.2 = 0 := by rw [← e]; exact h
  have hs := cntRow_sum l hl
  have hcl : (cntRow y.steps.length l).length = y.steps.length := cntRow_len
  have hcg : ∀ i, i < y.steps.length → sg (cntRow y.steps.length l) i = cntAt l i := fun i hi => by
    have := cntRow_get (l := l) hi
    have h3 := sg_get (l := cntRow y.steps.length l) (i := i) (by omega)
    rw [h3] at this; exact Option.some.inj this
  have hcn : ∀ x ∈ cntRow y.steps.length l, 0 ≤ x := fun x hx => by
    have := allIn_mem (cntRow_allIn (n := y.steps.length) h40) x hx; omega
  rw [ec]
  dsimp only
  rw [ordR_d h1 (cntRow_allIn h40) (by rw [hs]; omega)]
  dsimp only
  have ht := ordF_all 8 l m (cntRow y.steps.length l) h8 hcl (fun i hi => (hcg i hi).symm) hl h0
  obtain ⟨s1, s2, s3⟩ := ordF_sound 8 m (cntRow y.steps.length l) hcn hcl ht
  have hlen := ordF_len (y := y) 8 m (cntRow y.steps.length l) hcn
  generalize (ordF y 8 m (cntRow y.steps.length l)).1 = o at s1 s2 s3 hlen ⊢
  rw [hs] at hlen
  rw [runR_of hv hm (by omega) s1, e]
  refine ⟨rfl, ht, s2, ?_⟩
  obtain ⟨r1, r2⟩ := run_pt hv l m 0 hm hl h0
  obtain ⟨q1, q2⟩ := run_pt hv o m 0 hm s1 s2
  have el := allIn_len hm
  have e1 := allIn_len r1
  have e2 := allIn_len q1
  refine getD_ext (n := m.length) (by omega) (by omega) fun p hp => ?_
  rw [r2 p hp, q2 p hp, sumD_eff p l hl, sumD_eff p o s1]
  rw [effC_congr y.steps.length fun i hi => by rw [s3 i hi, hcg i hi]]
theorem stepAt_turn {y : Yd} {s : Int} (h0 : 0 ≤ s) (h1 : s < y.steps.length) : stepAt (turnY y) s = turnS (stepAt y s) := by
  unfold stepAt turnY
  have : s.toNat < y.steps.length := by omega
  simp [this]
theorem turn_len {y : Yd} : (turnY y).steps.length = y.steps.length := by simp [turnY]
theorem turn_valid {y : Yd} (hv : VYd y) : VYd (turnY y) := by
  have h : validate y = 0 := hv
  show validate (turnY y) = 0
  unfold validate at h ⊢
  have e : (turnY y).places = y.places := rfl
  rw [e, turn_len]
  split at h
  · cases h
  · rename_i h1
    rw [if_neg h1]
    split at h
    · cases h
    · rename_i h2
      rw [if_neg h2]
      split at h
      · rename_i h3
        rw [if_pos]
        rw [List.all_eq_true] at h3 ⊢
        intro s hs
        obtain ⟨t, ht, rfl⟩ := List.mem_map.1 hs
        have := h3 t ht
        simp only [okStp, turnS, Bool.and_eq_true] at this ⊢
        exact ⟨this.2, this.1⟩
      · cases h
theorem after_back {y : Yd} {m : List Int} {s : Int} (hv : VYd y) (hm : VM y m) (h0 : 0 ≤ s) (h1 : s < y.steps.length) (ha : (afterR (stepAt y s) m).2 = 0) : afterR (stepAt (turnY y) s) (afterR (stepAt y s) m).1 = (m, 0) := by
  obtain ⟨a1, a2, a3⟩ := after_vm hv hm h0 h1 ha
  obtain ⟨hf, _⟩ := fits_of hv hm h0 h1
  rw [stepAt_turn h0 h1, a2]
  have ft := hf.take
  have fg := hf.give
  have hc : covers (moved (stepAt y s) m) (turnS (stepAt y s)).take = true := covers_yes fun j j1 j2 => by
    have hj : j < m.length := by simpa using j1
    have t1 : j < (stepAt y s).take.length := by omega
    have g1 : j < (stepAt y s).give.length := by omega
    have := covers_at a3 hj t1
    rw [moved_at hj t1 g1]
    show (stepAt y s).give[j] ≤ _
    omega
  have hb : moved (turnS (stepAt y s)) (moved (stepAt y s) m) = m := by
    refine getD_ext (n := m.length) (by simp) rfl fun p hp => ?_
    rw [moved_getD (by simpa using hp), moved_getD hp]
    unfold dAt turnS
    dsimp only
    omega
  unfold afterR
  rw [if_neg (by simp [hc]), hb, if_pos]
  rw [List.all_eq_true]
  intro x hx
  have := allIn_mem hm x hx
  simp; omega
theorem run_app {y : Yd} : ∀ (l1 l2 m : List Int) (i : Nat), (runFrom y m l1 i).2.2 = 0 → runFrom y m (l1 ++ l2) i = runFrom y (runFrom y m l1 i).1 l2 (i + l1.length)
  | [], l2, m, i, _ => by simp [runFrom]
  | s :: l1, l2, m, i, h => by
    simp only [runFrom, List.cons_append] at h ⊢
    split at h
    · rename_i e; exact absurd h e
    · rename_i e
      rw [if_neg e, if_neg e, run_app l1 l2 _ (i + 1) h]
      rw [List.length_cons, show i + 1 + l1.length = i + (l1.length + 1) by omega]
theorem run_back {y : Yd} (hv : VYd y) : ∀ (l m : List Int), VM y m → (∀ x ∈ l, 0 ≤ x ∧ x < y.steps.length) → (runFrom y m l 0).2.2 = 0 → (runFrom (turnY y) (runFrom y m l 0).1 l.reverse 0).1 = m ∧ (runFrom (turnY y) (runFrom y m l 0).1 l.reverse 0).2.2 = 0
  | [], m, _, _, _ => ⟨rfl, rfl⟩
  | s :: l, m, hm, hl, h => by
    obtain ⟨s0, s1⟩ := hl s (List.mem_cons_self ..)
    simp only [runFrom] at h ⊢
    split at h
    · rename_i e; exact absurd h e
    · rename_i e
      have ha : (afterR (stepAt y s) m).2 = 0 := Classical.not_not.1 e
      obtain ⟨a1, _, _⟩ := after_vm hv hm s0 s1 ha
      rw [if_neg e, List.reverse_cons, (run_idx l _ 1 0).1]
      rw [(run_idx l _ 1 0).2] at h
      obtain ⟨b1, b2⟩ := run_back hv l _ a1 (fun x hx => hl x (List.mem_cons_of_mem _ hx)) h
      rw [run_app _ _ _ _ b2, b1]
      simp only [runFrom]
      rw [after_back hv hm s0 s1 ha]
      exact ⟨rfl, rfl⟩
theorem back_top {y : Yd} {m l : List Int} (h : (runR y m l).2.2 = 0) : (runR (turnY y) (runR y m l).1 l.reverse).2.2 = 0 ∧ (runR (turnY y) (runR y m l).1 l.reverse).1 = m := by
  obtain ⟨hv, hm, h40, hl, h1, h2, e⟩ := runR_ok h
  have h0 : (runFrom y m l 0).2.2 = 0 := by rw [← e]; exact h
  obtain ⟨r1, _⟩ := run_pt hv l m 0 hm hl h0
  have r2 : VM (turnY y) (runFrom y m l 0).1 := r1
  obtain ⟨b1, b2⟩ := run_back hv l m hm hl h0
  rw [e, runR_of (turn_valid hv) r2 (by simpa using h40) (fun x hx => by rw [turn_len]; exact hl x (List.mem_reverse.1 hx))]
  exact ⟨b2, b1⟩
end Go.Ab.Try
