/- DryW1, Way9, DryW2, DryW3. -/
import Derived.Test.YtjlfgobbieljoaaDoorBogG20
import Derived.Test.YtjlfgobbieljoaaDoorBogG16
set_option linter.all false
set_option linter.all false
namespace Go.Ab.Ways
abbrev En := List Int × List Int
section
variable (n : Nat) (nx : List Int → Nat → Option (List Int))
def ch (e : En) (s : Nat) : Option En := (nx e.2 s).map fun f => (e.1 ++ [(s : Int)], f)
def chs (e : En) : List En := (List.range n).filterMap (ch nx e)
def has (o : List En) (f : List Int) : Bool := o.any fun q => q.2 == f
def add (o : List En) (e : En) : List En := if has o e.2 then o else o ++ [e]
def dd (o l : List En) : List En := l.foldl add o
def pts : Nat → List Int → List En
  | 0, m => [([], m)]
  | k + 1, m => (pts k m).flatMap (chs n nx)
def lv (m : List Int) : Nat → List En × Nat
  | 0 => ([([], m)], 0)
  | k + 1 => (dd (lv m k).1 (((lv m k).1.drop (lv m k).2).flatMap (chs n nx)), (lv m k).1.length)
def st (m : List Int) : Nat → List En
  | 0 => [([], m)]
  | i + 1 => match (st m i)[i]? with
    | some e => dd (st m i) (chs n nx e)
    | none => st m i
def allP (m : List Int) : Nat → List En
  | 0 => pts n nx 0 m
  | k + 1 => allP m k ++ pts n nx (k + 1) m
end
theorem has_iff {o : List En} {f : List Int} : has o f = true ↔ ∃ q ∈ o, q.2 = f := by
  unfold has
  simp [List.any_eq_true]
theorem dd_cons (o : List En) (e : En) (l : List En) : dd o (e :: l) = dd (add o e) l := rfl
theorem dd_app (o a b : List En) : dd o (a ++ b) = dd (dd o a) b := by unfold dd; rw [List.foldl_append]
theorem add_pre (o : List En) (e : En) : ∃ t, add o e = o ++ t := by
  unfold add
  split
  · exact ⟨[], by simp⟩
  · exact ⟨[e], rfl⟩
theorem dd_pre : ∀ (l o : List En), ∃ t, dd o l = o ++ t
  | [], o => ⟨[], by simp [dd]⟩
  | e :: l, o => by
    obtain ⟨t, ht⟩ := add_pre o e
    obtain ⟨t2, h2⟩ := dd_pre l (add o e)
    exact ⟨t ++ t2, by rw [dd_cons, h2, ht, List.append_assoc]⟩
theorem has_pre {o t : List En} {f : List Int} (h : has o f = true) : has (o ++ t) f = true := by
  obtain ⟨q, h1, h2⟩ := has_iff.1 h
  exact has_iff.2 ⟨q, List.mem_append_left _ h1, h2⟩
theorem has_dd {l o : List En} {f : List Int} (h : has o f = true) : has (dd o l) f = true := by
  obtain ⟨t, ht⟩ := dd_pre l o
  rw [ht]; exact has_pre h
theorem has_add (o : List En) (e : En) : has (add o e) e.2 = true := by
  unfold add
  split
  · assumption
  · exact has_iff.2 ⟨e, by simp, rfl⟩
theorem has_mem : ∀ {l o : List En} {e : En}, e ∈ l → has (dd o l) e.2 = true
  | a :: l, o, e, h => by
    rw [dd_cons]
    rcases List.mem_cons.1 h with rfl | h
    · exact has_dd (has_add o e)
    · exact has_mem h
theorem dd_known : ∀ {l o : List En}, (∀ e ∈ l, has o e.2 = true) → dd o l = o
  | [], _, _ => rfl
  | e :: l, o, h => by
    have : add o e = o := by unfold add; rw [if_pos (h e (by simp))]
    rw [dd_cons, this]
    exact dd_known fun q hq => h q (List.mem_cons_of_mem _ hq)
section
variable {n : Nat} {nx : List Int → Nat → Option (List Int)}
theorem chs_snd {e q : En} (h : e.2 = q.2) {c : En} (hc : c ∈ chs n nx e) : ∃ d ∈ chs n nx q, d.2 = c.2 := by
  unfold chs at hc
  obtain ⟨s, h1, h2⟩ := List.mem_filterMap.1 hc
  unfold ch at h2
  obtain ⟨f, h3, rfl⟩ := Option.map_eq_some_iff.1 h2
  refine ⟨(q.1 ++ [(s : Int)], f), List.mem_filterMap.2 ⟨s, h1, ?_⟩, rfl⟩
  unfold ch
  rw [← h, h3]; rfl
theorem dd_core : ∀ (l o acc : List En), (∀ e ∈ o, ∀ c ∈ chs n nx e, has acc c.2 = true) → dd acc (((dd o l).drop o.length).flatMap (chs n nx)) = dd acc (l.flatMap (chs n nx))
  | [], o, acc, _ => by simp [dd]
  | e :: l, o, acc, h => by
    rw [dd_cons, List.flatMap_cons, dd_app]
    by_cases he : has o e.2 = true
    · have e1 : add o e = o := by unfold add; rw [if_pos he]
      have e2 : dd acc (chs n nx e) = acc := dd_known fun c hc => by
        obtain ⟨q, q1, q2⟩ := has_iff.1 he
        obtain ⟨d, d1, d2⟩ := chs_snd q2.symm hc
        rw [← d2]; exact h q q1 d d1
      rw [e1, e2]
      exact dd_core l o acc h
    · have e1 : add o e = o ++ [e] := by unfold add; rw [if_neg he]
      obtain ⟨t, ht⟩ := dd_pre l (o ++ [e])
      have e3 : (dd (o ++ [e]) l).drop o.length = e :: (dd (o ++ [e]) l).drop (o ++ [e]).length := by
        rw [ht]
        have a1 : (o ++ [e] ++ t).drop o.length = e :: t := by rw [List.append_assoc, List.drop_left]; rfl
        have a2 : (o ++ [e] ++ t).drop (o ++ [e]).length = t := List.drop_left
        rw [a1, a2]
      rw [e1, e3, List.flatMap_cons, dd_app]
      refine dd_core l (o ++ [e]) (dd acc (chs n nx e)) fun q hq c hc => ?_
      rcases List.mem_append.1 hq with hq | hq
      · exact has_dd (h q hq c hc)
      · simp only [List.mem_singleton] at hq
        subst hq
        exact has_mem hc
theorem lv_spec (m : List Int) : ∀ k, (∃ o, (lv n nx m k).1 = dd o (pts n nx k m) ∧ (lv n nx m k).2 = o.length ∧ (∀ e ∈ o, ∀ c ∈ chs n nx e, has (lv n nx m k).1 c.2 = true)) ∧ (lv n nx m k).1 = dd [] (allP n nx m k)
  | 0 => ⟨⟨[], rfl, rfl, fun e he => by cases he⟩, rfl⟩
  | k + 1 => by
    obtain ⟨⟨o, h1, h2, h3⟩, h4⟩ := lv_spec m k
    have e1 : (lv n nx m (k + 1)).1 = dd (lv n nx m k).1 (pts n nx (k + 1) m) := by
      show dd (lv n nx m k).1 (((lv n nx m k).1.drop (lv n nx m k).2).flatMap (chs n nx)) = _
      rw [h2]
      conv => lhs; rw [show ((lv n nx m k).1.drop o.length) = (dd o (pts n nx k m)).drop o.length by rw [h1]]
      rw [dd_core (pts n nx k m) o (lv n nx m k).1 h3]; rfl
    refine ⟨⟨(lv n nx m k).1, e1, rfl, fun e he c hc => ?_⟩, ?_⟩
    · show has (dd (lv n nx m k).1 (((lv n nx m k).1.drop (lv n nx m k).2).flatMap (chs n nx))) c.2 = true
      rw [h2]
      have hsplit : e ∈ o ∨ e ∈ (lv n nx m k).1.drop o.length := by
        obtain ⟨t, ht⟩ := dd_pre (pts n nx k m) o
        rw [h1, ht] at he ⊢
        rw [List.drop_left]
        exact List.mem_append.1 he
      rcases hsplit with h5 | h5
      · exact has_dd (h3 e h5 c hc)
      · exact has_mem (List.mem_flatMap.2 ⟨e, h5, hc⟩)
    · rw [e1, h4]
      show _ = dd [] (allP n nx m k ++ pts n nx (k + 1) m)
      rw [dd_app]
theorem pts_len (m : List Int) : ∀ k, ∀ e ∈ pts n nx k m, e.1.length = k
  | 0, e, h => by simp only [pts, List.mem_singleton] at h; subst h; rfl
  | k + 1, e, h => by
    obtain ⟨q, h1, h2⟩ := List.mem_flatMap.1 h
    have := pts_len m k q h1
    unfold chs at h2
    obtain ⟨s, _, h3⟩ := List.mem_filterMap.1 h2
    unfold ch at h3
    obtain ⟨f, _, rfl⟩ := Option.map_eq_some_iff.1 h3
    simp [this]
theorem dd_mem : ∀ {l o : List En} {e : En}, e ∈ dd o l → e ∈ o ∨ e ∈ l
  | [], _, _, h => .inl h
  | a :: l, o, e, h => by
    rw [dd_cons] at h
    rcases dd_mem h with h | h
    · unfold add at h
      split at h
      · exact .inl h
      · rcases List.mem_append.1 h with h | h
        · exact .inl h
        · simp only [List.mem_singleton] at h
          exact .inr (by simp [h])
    · exact .inr (List.mem_cons_of_mem _ h)
theorem dd_new {l o : List En} {e : En} (h : e ∈ (dd o l).drop o.length) : e ∈ l := by
  obtain ⟨t, ht⟩ := dd_pre l o
  have : ∀ (l o t : List En), dd o l = o ++ t → ∀ e ∈ t, e ∈ l := by
    intro l
    induction l with
    | nil =>
      intro o t h e he
      have : t = [] := by
        have h' : o = o ++ t := h
        exact List.append_right_eq_self.1 h'.symm |> fun x => x
      subst this; cases he
    | cons a l ih =>
      intro o t h e he
      rw [dd_cons] at h
      by_cases ha : has o a.2 = true
      · have e1 : add o a = o := by unfold add; rw [if_pos ha]
        rw [e1] at h
        exact List.mem_cons_of_mem _ (ih o t h e he)
      · have e1 : add o a = o ++ [a] := by unfold add; rw [if_neg ha]
        rw [e1] at h
        obtain ⟨t2, h2⟩ := dd_pre l (o ++ [a])
        have e2 : t = a :: t2 := by
          rw [h2, List.append_assoc] at h
          exact (List.append_cancel_left h).symm
        subst e2
        rcases List.mem_cons.1 he with rfl | he
        · simp
        · exact List.mem_cons_of_mem _ (ih _ t2 h2 e he)
  refine this l o t ht e ?_
  rw [ht, List.drop_left] at h
  exact h
theorem lv_new (m : List Int) (k : Nat) : ∀ e ∈ (lv n nx m k).1.drop (lv n nx m k).2, e.1.length = k := by
  intro e he
  obtain ⟨⟨o, h1, h2, _⟩, _⟩ := lv_spec (n := n) (nx := nx) m k
  rw [h1, h2] at he
  exact pts_len m k e (dd_new he)
theorem st_pre (m : List Int) (i : Nat) : ∃ t, st n nx m (i + 1) = st n nx m i ++ t := by
  rw [st]
  split
  · exact dd_pre _ _
  · exact ⟨[], by simp⟩
theorem st_level (m : List Int) (k : Nat) : (lv n nx m k).2 ≤ (lv n nx m k).1.length ∧ st n nx m (lv n nx m k).2 = (lv n nx m k).1 ∧ ∀ j, (lv n nx m k).2 + j ≤ (lv n nx m k).1.length →
    st n nx m ((lv n nx m k).2 + j) = dd (lv n nx m k).1 ((((lv n nx m k).1.drop (lv n nx m k).2).take j).flatMap (chs n nx)) := by
  have walk : ∀ (o : List En) (i0 : Nat), st n nx m i0 = o → ∀ j, i0 + j ≤ o.length → st n nx m (i0 + j) = dd o (((o.drop i0).take j).flatMap (chs n nx)) := by
    intro o i0 h0 j
    induction j with
    | zero => intro _; simpa [dd] using h0
    | succ j ih =>
      intro hj
      have ih := ih (by omega)
      have hlt : i0 + j < o.length := by omega
      obtain ⟨t, ht⟩ := dd_pre (((o.drop i0).take j).flatMap (chs n nx)) o
      have hg : (st n nx m (i0 + j))[i0 + j]? = some o[i0 + j] := by
        rw [ih, ht, List.getElem?_append_left hlt, List.getElem?_eq_getElem hlt]
      have e1 : st n nx m (i0 + j + 1) = dd (st n nx m (i0 + j)) (chs n nx o[i0 + j]) := by rw [st, hg]
      have e2 : (o.drop i0).take (j + 1) = (o.drop i0).take j ++ [o[i0 + j]] := by
        rw [List.take_succ_eq_append_getElem (by simp; omega), List.getElem_drop]
      rw [← Nat.add_assoc, e1, ih, e2, List.flatMap_append, dd_app]
      simp
  induction k with
  | zero => exact ⟨Nat.zero_le _, rfl, walk _ _ rfl⟩
  | succ k ih =>
    obtain ⟨h1, h2, h3⟩ := ih
    have h4 := h3 ((lv n nx m k).1.length - (lv n nx m k).2) (by omega)
    rw [show (lv n nx m k).2 + ((lv n nx m k).1.length - (lv n nx m k).2) = (lv n nx m k).1.length by omega, List.take_of_length_le (by simp)] at h4
    have h5 : st n nx m (lv n nx m (k + 1)).2 = (lv n nx m (k + 1)).1 := h4
    refine ⟨?_, h5, walk _ _ h5⟩
    obtain ⟨t, ht⟩ := dd_pre (((lv n nx m k).1.drop (lv n nx m k).2).flatMap (chs n nx)) (lv n nx m k).1
    show (lv n nx m k).1.length ≤ (dd (lv n nx m k).1 (((lv n nx m k).1.drop (lv n nx m k).2).flatMap (chs n nx))).length
    rw [ht, List.length_append]; omega
theorem st_end (m : List Int) (most : Nat) : ∀ i, (∀ j (hj : j < (st n nx m j).length), j < i → (st n nx m j)[j].1.length < most) → (∀ j, j < i → j < (st n nx m j).length) →
    (i = (st n nx m i).length ∨ ∃ h : i < (st n nx m i).length, most ≤ (st n nx m i)[i].1.length) → st n nx m i = (lv n nx m most).1 := by
  intro i h1 h2 h3
  -- the level that i lies in
  have lvl : ∀ k, k ≤ most → (∃ k', k' < k ∧ (lv n nx m k').2 ≤ i ∧ i < (lv n nx m k').1.length) ∨ (lv n nx m k).2 ≤ i := by
    intro k
    induction k with
    | zero => intro _; exact .inr (Nat.zero_le _)
    | succ k ih =>
      intro hk
      rcases ih (by omega) with ⟨k', a, b, c⟩ | h
      · exact .inl ⟨k', by omega, b, c⟩
      · rcases Nat.lt_or_ge i (lv n nx m k).1.length with h4 | h4
        · exact .inl ⟨k, by omega, h, h4⟩
        · exact .inr h4
  rcases lvl most (Nat.le_refl _) with ⟨k, hk, ha, hb⟩ | h
  · -- an entry of a level below the last can't be where it ends
    exfalso
    obtain ⟨q1, q2, q3⟩ := st_level (n := n) (nx := nx) m k
    have h4 := q3 (i - (lv n nx m k).2) (by omega)
    rw [show (lv n nx m k).2 + (i - (lv n nx m k).2) = i by omega] at h4
    obtain ⟨t, ht⟩ := dd_pre ((((lv n nx m k).1.drop (lv n nx m k).2).take (i - (lv n nx m k).2)).flatMap (chs n nx)) (lv n nx m k).1
    rw [ht] at h4
    rcases h3 with h5 | ⟨h5, h6⟩
    · rw [h4, List.length_append] at h5; omega
    · have e : (st n nx m i)[i] = (lv n nx m k).1[i] := by
        have : (st n nx m i)[i]? = some (lv n nx m k).1[i] := by rw [h4, List.getElem?_append_left hb, List.getElem?_eq_getElem hb]
        rw [List.getElem?_eq_getElem h5] at this
        exact Option.some.inj this
      have hm : (lv n nx m k).1[i] ∈ (lv n nx m k).1.drop (lv n nx m k).2 := by
        rw [List.mem_iff_getElem]
        exact ⟨i - (lv n nx m k).2, by simp; omega, by simp [show (lv n nx m k).2 + (i - (lv n nx m k).2) = i by omega]⟩
      have := lv_new m k _ hm
      rw [e] at h6; omega
  · -- so it ends in the last level, of which nothing is done, or behind an empty one
    obtain ⟨q1, q2, q3⟩ := st_level (n := n) (nx := nx) m most
    rcases Nat.eq_or_lt_of_le h with h4 | h4
    · rw [← h4]; exact q2
    · -- the entry at which the last level begins would have been done
      have h5 := h2 _ h4
      rw [q2] at h5
      have h6 := h1 (lv n nx m most).2 (by rw [q2]; exact h5) h4
      have hm : (st n nx m (lv n nx m most).2)[(lv n nx m most).2]'(by rw [q2]; exact h5) ∈ (lv n nx m most).1.drop (lv n nx m most).2 := by
        rw [List.mem_iff_getElem]
        refine ⟨0, by simp; omega, ?_⟩
        simp [q2]
      have := lv_new m most _ hm
      omega
theorem find_dd {g : List Int} : ∀ (l o : List En), (dd o l).find? (fun e => e.2 == g) = (o.find? fun e => e.2 == g).or (l.find? fun e => e.2 == g)
  | [], o => by simp [dd]
  | e :: l, o => by
    rw [dd_cons, find_dd l (add o e)]
    unfold add
    by_cases h : has o e.2 = true
    · rw [if_pos h]
      by_cases he : e.2 = g
      · obtain ⟨q, q1, q2⟩ := has_iff.1 h
        have : (o.find? fun e => e.2 == g).isSome = true := by
          rw [List.find?_isSome]
          exact ⟨q, q1, by simp [q2, he]⟩
        obtain ⟨x, hx⟩ := Option.isSome_iff_exists.1 this
        rw [hx]; rfl
      · rw [List.find?_cons]
        have : (e.2 == g) = false := by simpa using he
        rw [this]
    · rw [if_neg h, List.find?_append, Option.or_assoc]
      congr 1
      rw [List.find?_cons, List.find?_cons]
      cases (e.2 == g) <;> simp
def wayR (n : Nat) (nx : List Int → Nat → Option (List Int)) (goal : List Int) : Nat → List Int → Option (List Int)
  | 0, m => if m = goal then some [] else none
  | k + 1, m => (List.range n).findSome? fun s => match nx m s with
    | none => none
    | some f => (wayR n nx goal k f).map fun r => (s : Int) :: r
def exts (p : List Int) (l : List En) : List En := l.map fun e => (p ++ e.1, e.2)
theorem chs_ext (p : List Int) (e : En) : chs n nx (p ++ e.1, e.2) = exts p (chs n nx e) := by
  unfold chs exts
  rw [List.map_filterMap]
  congr 1
  funext s
  unfold ch
  cases nx e.2 s <;> simp
theorem exts_flat (p : List Int) (l : List En) : (exts p l).flatMap (chs n nx) = exts p (l.flatMap (chs n nx)) := by
  induction l with
  | nil => rfl
  | cons e l ih =>
    have a1 : exts p (e :: l) = (p ++ e.1, e.2) :: exts p l := rfl
    rw [a1, List.flatMap_cons, ih, chs_ext, List.flatMap_cons]
    unfold exts; rw [List.map_append]
theorem pts_front (m : List Int) : ∀ k, pts n nx (k + 1) m = (chs n nx ([], m)).flatMap fun e => exts e.1 (pts n nx k e.2)
  | 0 => by
    show [(([], m) : En)].flatMap (chs n nx) = _
    simp [pts, exts]
  | k + 1 => by
    show (pts n nx (k + 1) m).flatMap (chs n nx) = _
    rw [pts_front m k, List.flatMap_assoc]
    congr 1
    funext e
    rw [exts_flat]; rfl
theorem find_exts {g p : List Int} (l : List En) : (exts p l).find? (fun e => e.2 == g) = (l.find? fun e => e.2 == g).map fun e => (p ++ e.1, e.2) := by
  unfold exts
  rw [List.find?_map]; rfl
theorem find_flat {α : Type} {f : α → List En} {g : List Int} : ∀ l : List α, (l.flatMap f).find? (fun e => e.2 == g) = l.findSome? fun a => (f a).find? fun e => e.2 == g
  | [] => rfl
  | a :: l => by
    rw [List.flatMap_cons, List.find?_append, find_flat l, List.findSome?_cons]
    cases (f a).find? fun e => e.2 == g <;> rfl
theorem fs_filter {α β γ : Type} {f : α → Option β} {h : β → Option γ} : ∀ l : List α, (l.filterMap f).findSome? h = l.findSome? fun a => (f a).bind h
  | [] => rfl
  | a :: l => by
    rw [List.filterMap_cons, List.findSome?_cons]
    cases hf : f a with
    | none => exact fs_filter l
    | some b =>
      simp only [List.findSome?_cons, Option.bind_some]
      rw [fs_filter l]
theorem fs_map {α β γ : Type} {f : α → Option β} {h : β → γ} : ∀ l : List α, (l.findSome? f).map h = l.findSome? fun a => (f a).map h
  | [] => rfl
  | a :: l => by
    rw [List.findSome?_cons, List.findSome?_cons]
    cases f a with
    | none => exact fs_map l
    | some b => rfl
theorem way_pts (goal : List Int) : ∀ (k : Nat) (m : List Int), wayR n nx goal k m = ((pts n nx k m).find? fun e => e.2 == goal).map fun e => e.1
  | 0, m => by
    unfold wayR pts
    by_cases h : m = goal
    · simp [h]
    · have : (m == goal) = false := by simpa using h
      simp [h, this]
  | k + 1, m => by
    rw [pts_front, find_flat]
    unfold wayR chs
    rw [fs_filter, fs_map]
    congr 1
    funext s
    unfold ch
    cases hs : nx m s with
    | none => simp [hs]
    | some f =>
      simp only [hs, Option.map_some, Option.bind_some]
      rw [find_exts, way_pts goal k f]
      cases (pts n nx k f).find? fun e => e.2 == goal <;> simp
def wayD (n : Nat) (nx : List Int → Nat → Option (List Int)) (goal m : List Int) (most : Nat) : Option (List Int) := (List.range (most + 1)).findSome? fun k => wayR n nx goal k m
theorem way_all (goal m : List Int) : ∀ most, wayD n nx goal m most = ((allP n nx m most).find? fun e => e.2 == goal).map fun e => e.1
  | 0 => by
    unfold wayD allP
    rw [← way_pts]
    simp
  | k + 1 => by
    have e : wayD n nx goal m (k + 1) = (wayD n nx goal m k).or (wayR n nx goal (k + 1) m) := by
      unfold wayD
      rw [List.range_succ (n := k + 1), List.findSome?_append]
      simp
    rw [e, way_all goal m k]
    show _ = ((allP n nx m k ++ pts n nx (k + 1) m).find? fun e => e.2 == goal).map fun e => e.1
    rw [List.find?_append, way_pts]
    cases (allP n nx m k).find? fun e => e.2 == goal <;> simp
theorem way_first (goal m : List Int) (most : Nat) : ((lv n nx m most).1.find? fun e => e.2 == goal).map (fun e => e.1) = wayD n nx goal m most := by
  rw [way_all, (lv_spec m most).2, find_dd]
  simp
end
end Go.Ab.Ways
set_option linter.all false
namespace Go.Ab.Tryd
open Go Go.Ab Go.Proofs
open Go.Ab.Ways (wayR wayD)
theorem src_row {t g n : Nat} {k : IntKind} {e : TypeId} {L : List Int} (hn : n = L.length) : srcSV 1 (.sl t g 0 n, some (rowK k e L)) = some (n, L.map fun q => .dv (.int k q)) := by
  subst hn
  have h1 : (((rowK k e L).cells.drop (0 * 1)).take (L.length * 1)) = L.map fun q => SV.dv (.int k q) := by
    show ((L.map fun q => SV.dv (.int k q)).drop (0 * 1)).take (L.length * 1) = _
    rw [Nat.zero_mul, List.drop_zero, Nat.mul_one, List.take_of_length_le (by simp)]
  have h2 : ((rowK k e L).cells.length) = L.length := by
    show (L.map fun q => SV.dv (.int k q)).length = _
    simp
  simp only [srcSV]
  rw [h1, if_pos]
  refine ⟨trivial, by rw [h2]; omega, ?_⟩
  rw [List.all_eq_true]
  intro c hc
  obtain ⟨q, _, rfl⟩ := List.mem_map.1 hc
  rfl
def nxt (y : Yd) (m : List Int) (s : Nat) : Option (List Int) := if (doR y m s).2 = 0 then some (doR y m s).1 else none
theorem nxt_no {y : Yd} {m : List Int} {s : Nat} (h : (doR y m s).2 ≠ 0) : nxt y m s = none := by unfold nxt; rw [if_neg h]
theorem nxt_ok {y : Yd} {m : List Int} {s : Nat} (h : (doR y m s).2 = 0) : nxt y m s = some (doR y m s).1 := by unfold nxt; rw [if_pos h]
def wyAt (rec : List Int → Option (List Int)) (y : Yd) (m : List Int) (s : Nat) : Option (List Int) := match nxt y m s with
  | none => none
  | some f => (rec f).map fun r => (s : Int) :: r
def wyG (rec : List Int → Option (List Int)) (y : Yd) (m : List Int) : Option (List Int) := (List.range y.steps.length).findSome? (wyAt rec y m)
theorem fs_first {g : Nat → Option (List Int)} {n i : Nat} {r : List Int} (h1 : i < n) (h2 : ∀ j, j < i → g j = none) (h3 : g i = some r) : (List.range n).findSome? g = some r := by
  have e : List.range n = List.range i ++ i :: (List.range (n - i - 1)).map (i + 1 + ·) := by
    refine List.ext_getElem? fun k => ?_
    rcases Nat.lt_or_ge k i with h | h
    · rw [List.getElem?_append_left (by simpa using h), List.getElem?_range (by omega), List.getElem?_range h]
    · rw [List.getElem?_append_right (by simpa using h), List.length_range]
      rcases Nat.eq_or_lt_of_le h with h' | h'
      · subst h'; simp [h1]
      · obtain ⟨d, rfl⟩ : ∃ d, k = i + 1 + d := ⟨k - i - 1, by omega⟩
        rw [show i + 1 + d - i = d + 1 by omega, List.getElem?_cons_succ, List.getElem?_map]
        rcases Nat.lt_or_ge (i + 1 + d) n with h5 | h5
        · rw [List.getElem?_range h5, List.getElem?_range (by omega)]; rfl
        · rw [List.getElem?_eq_none (by simpa using h5), List.getElem?_eq_none (by simp; omega)]; rfl
  rw [e, List.findSome?_append]
  have : (List.range i).findSome? g = none := by
    rw [List.findSome?_eq_none_iff]
    intro j hj
    exact h2 j (List.mem_range.1 hj)
  rw [this, List.findSome?_cons, h3]; rfl
theorem fs_none {g : Nat → Option (List Int)} {n : Nat} (h : ∀ j, j < n → g j = none) : (List.range n).findSome? g = none := by
  rw [List.findSome?_eq_none_iff]
  intro j hj
  exact h j (List.mem_range.1 hj)
def WyOk (y : Yd) (goal : List Int) (k : Nat) (rec : List Int → Option (List Int)) : Prop := ∀ m, VM y m → ACallsF Tryd.prog 21 [dYd y, ints m, ints goal, i64 (k : Nat)] (.many [rI ((rec m).getD []), .dv (.bool (rec m).isSome)]) ∧ ((rec m).getD []).length ≤ k
theorem f21z (y : Yd) (hv : VYd y) (goal m : List Int) (hm : VM y m) : ACallsF Tryd.prog 21 [dYd y, ints m, ints goal, i64 0] (.many [rI [], .dv (.bool (decide (m = goal)))]) := by
  obtain ⟨v1, v2, v3, v4⟩ := validate_ok hv
  have hml := allIn_len hm
  refine callsF_of Tryd.func21 rfl rfl (by rw [Tryd.ntmps21]; simp) fun cx hP hn hg => ?_
  rw [Tryd.ntmps21] at hn
  rw [startF_lk, none_mkM]
  simp only [List.nil_append, List.append_nil, List.cons_append, zipSV, Nat.reduceAdd]
  refine awp_seq ?_
  refine rg ?_
  refine qp m_box ?_
  refine qv m_as ?_
  refine qv m_as ?_
  show AWp cx _ _ _
  refine awp_seq ?_
  refine awp_seq ?_
  refine rg ?_
  refine qv m_mv ?_
  refine qv m_eql ?_
  show AWp cx _ _ _
  refine cdT (hb := rfl) (ht := ?_)
  refine awp_seq ?_
  refine rg ?_
  refine qv m_mv ?_
  refine qv m_mv ?_
  refine qqF (f23 m goal (by omega)) ?_
  refine qv m_as ?_
  refine qv m_as ?_
  show AWp cx _ _ _
  refine awp_ret ?_
  exact x2 (hr := (rN_)) (hr' := (rB_))
set_option maxHeartbeats 4000000 in
theorem f21s (y : Yd) (hv : VYd y) (goal : List Int) (k : Nat) (hk : k < 100) (rec : List Int → Option (List Int)) (hrec : WyOk y goal k rec) (m : List Int) (hm : VM y m) : ACallsF Tryd.prog 21 [dYd y, ints m, ints goal, i64 ((k + 1 : Nat) : Int)] (.many [rI ((wyG rec y m).getD []), .dv (.bool (wyG rec y m).isSome)]) := by
  obtain ⟨v1, v2, v3, v4⟩ := validate_ok hv
  have hml := allIn_len hm
  refine callsF_of Tryd.func21 rfl rfl (by rw [Tryd.ntmps21]; simp) fun cx hP hn hg => ?_
  rw [Tryd.ntmps21] at hn
  rw [startF_lk, none_mkM]
  simp only [List.nil_append, List.append_nil, List.cons_append, zipSV, Nat.reduceAdd]
  refine awp_seq ?_
  refine rg ?_
  refine qp m_box ?_
  refine qv m_as ?_
  refine qv m_as ?_
  show AWp cx _ _ _
  refine awp_seq ?_
  refine awp_seq ?_
  refine rg ?_
  refine qv m_mv ?_
  refine qv m_eql ?_
  show AWp cx _ _ _
  refine cdF (hb := by simp; omega) (ht := ?_)
  refine awp_skip ?_
  show AWp cx _ _ _
  refine awp_seq ?_
  refine awp_seq ?_
  refine rg ?_
  refine qv m_as ?_
  show AWp cx _ _ _
  refine awp_block ?_
  refine awp_loop (ι := Nat) (fun i => ⟨lk [(1, .dv (ints (m))), (2, .dv (ints (goal))), (3, .dv (i64 ((k + 1 : Nat) : Int))), (4, .pt 4 0 0), (10, .dv (i64 (i : Nat)))], mkM [(4, 0, some ⟨[.dv (i64 (y.places)), .dv (.list ((y.steps).map dStp))], 0, 24, 0, false⟩)]⟩) (fun i => i ≤ y.steps.length ∧ ∀ j, j < i → wyAt rec y m j = none) (fun i => y.steps.length - i) 0 (by simp) (tl [(4, 4)]) ?_
  intro i hφ0
  refine awp_seq ?_
  refine awp_seq ?_
  refine rg ?_
  refine qv m_mv ?_
  refine qv (m_fdp fd24_1) ?_
  refine qv (m_ldp sz22 ag22) ?_
  refine qv (m_len il22) ?_
  refine qv m_lss ?_
  show AWp cx _ _ _
  refine cd (fun hc1 => ?_) (fun hc1 => ?_)
  · try simp at hc1
    have hin : i < y.steps.length := by omega
    refine awp_skip ?_
    show AWp cx _ _ _
    refine awp_seq ?_
    refine awp_block ?_
    refine awp_seq ?_
    refine rg ?_
    refine qv (m_ldpa sz24 ag24) ?_
    refine qv m_mv ?_
    refine qv m_mv ?_
    refine qqF (f22 y m i hv hm (by omega) (by omega)) ?_
    refine qv m_mv ?_
    refine qv m_ext ?_
    refine qv m_ext ?_
    refine qv m_as ?_
    refine qv m_as ?_
    show AWp cx _ _ _
    refine awp_seq ?_
    refine awp_seq ?_
    refine rg ?_
    refine qv m_mv ?_
    refine qv m_neq ?_
    show AWp cx _ _ _
    refine cd (fun hc2 => ?_) (fun hc2 => ?_)
    · try simp at hc2
      have hno : nxt y m i = none := nxt_no (by simpa using hc2)
      refine awp_exit ?_
      show AWp cx _ _ _
      refine rg ?_
      refine qv m_mv ?_
      refine qv m_add ?_
      refine qv m_as ?_
      refine ⟨i + 1, ?_, (by simp only; omega), (tl [(4, 4)])⟩
      refine ⟨hin, fun j hj => ?_⟩
      rcases Nat.lt_or_ge j i with h1 | h1
      · exact hφ0.2 j h1
      · obtain rfl : j = i := by omega
        simp_all [wyAt]
    · try simp at hc2
      have he : (doR y m i).2 = 0 := by simpa using hc2
      have hyes := nxt_ok he
      obtain ⟨a1, a2, a3⟩ := after_vm hv hm (by omega : (0 : Int) ≤ (i : Int)) (by omega) he
      have hm2 := allIn_len a1
      have hln := (hrec (doR y m i).1 a1).2
      refine awp_skip ?_
      show AWp cx _ _ _
      refine awp_seq ?_
      refine rg ?_
      refine qv (m_ldpa sz24 ag24) ?_
      refine qv m_mv ?_
      refine qv m_mv ?_
      refine qv m_mv ?_
      refine qv m_sub ?_
      rw [show (((k + 1 : Nat) : Int) - 1) = (k : Int) by omega]
      refine qqF ((hrec (doR y m i).1 a1).1) ?_
      refine qv m_mv ?_
      refine qv m_ext ?_
      refine qv m_ext ?_
      refine qv m_as ?_
      refine qv m_as ?_
      show AWp cx _ _ _
      refine awp_seq ?_
      refine rg ?_
      refine qv m_mv ?_
      show AWp cx _ _ _
      refine cd (fun hc3 => ?_) (fun hc3 => ?_)
      · try simp at hc3
        obtain ⟨r, hr⟩ : ∃ r, rec (doR y m i).1 = some r := Option.isSome_iff_exists.1 (by simpa using hc3)
        have hwy : wyG rec y m = some ((i : Int) :: (rec (doR y m i).1).getD []) := fs_first hin hφ0.2 (by unfold wyAt; rw [hyes]; show (rec (doR y m i).1).map _ = _; rw [hr]; rfl)
        refine awp_seq ?_
        refine rg ?_
        refine qv m_mv ?_
        refine qr (m_bsl el25 ze3 sz3) ?_
        refine qv m_mv ?_
        refine qa1 (m_app1 el25 el25 ze3 sz3 by3 (hx := by simp only [St.look, St.ev, lk, mkM, blkOf, svOf, svOfCell, reduceIte, Nat.reduceAdd, Nat.reduceEqDiff, Nat.reduceMul]; exact src_row rfl)) ?_
        refine qv m_as ?_
        refine qv m_as ?_
        show AWp cx _ _ _
        refine awp_ret ?_
        rw [hwy]
        simp only [Option.getD_some, Option.isSome_some]
        exact x2 (hr := (rR_ (L := (i : Int) :: (rec (doR y m i).1).getD []))) (hr' := (rB_))
      · try simp at hc3
        have hr : rec (doR y m i).1 = none := by simpa using hc3
        refine awp_skip ?_
        show AWp cx _ _ _
        refine rg ?_
        refine qv m_mv ?_
        refine qv m_add ?_
        refine qv m_as ?_
        refine ⟨i + 1, ?_, (by simp only; omega), (tl [(4, 4)])⟩
        refine ⟨hin, fun j hj => ?_⟩
        rcases Nat.lt_or_ge j i with h1 | h1
        · exact hφ0.2 j h1
        · obtain rfl : j = i := by omega
          simp_all [wyAt]
  · try simp at hc1
    refine awp_exit ?_
    show AWp cx _ _ _
    refine awp_seq ?_
    refine rg ?_
    refine qv m_as ?_
    refine qv m_as ?_
    show AWp cx _ _ _
    refine awp_ret ?_
    rw [show wyG rec y m = none from fs_none fun j hj => hφ0.2 j (by omega)]
    exact x2 (hr := (rN_)) (hr' := (rB_))
theorem wy_ok (y : Yd) (hv : VYd y) (goal : List Int) : ∀ k, k < 100 → WyOk y goal k (wayR y.steps.length (nxt y) goal k)
  | 0, _, m, hm => by
    have h := f21z y hv goal m hm
    unfold wayR
    by_cases e : m = goal
    · rw [if_pos e]; rw [decide_eq_true e] at h; exact ⟨h, Nat.le_refl _⟩
    · rw [if_neg e]; rw [decide_eq_false e] at h; exact ⟨h, Nat.le_refl _⟩
  | k + 1, hk, m, hm => by
    have ih := wy_ok y hv goal k (by omega)
    have h := f21s y hv goal k (by omega) _ ih m hm
    have e : wayR y.steps.length (nxt y) goal (k + 1) m = wyG (wayR y.steps.length (nxt y) goal k) y m := rfl
    rw [e]
    refine ⟨h, ?_⟩
    cases hw : wyG (wayR y.steps.length (nxt y) goal k) y m with
    | none => simp
    | some r =>
      obtain ⟨s, hs, h1⟩ := List.exists_of_findSome?_eq_some hw
      unfold wyAt at h1
      split at h1
      · cases h1
      · rename_i f hf
        obtain ⟨r', h2, rfl⟩ := Option.map_eq_some_iff.1 h1
        have hvm : VM y f := by
          unfold nxt at hf
          split at hf
          · rename_i h0
            have hs' := List.mem_range.1 hs
            have := (after_vm hv hm (by omega : (0 : Int) ≤ (s : Int)) (by omega) h0).1
            rw [← Option.some.inj hf]; exact this
          · cases hf
        have := (ih f hvm).2
        rw [h2] at this
        show ((s : Int) :: r').length ≤ k + 1
        simpa using this
end Go.Ab.Tryd
set_option linter.all false
namespace Go.Ab.Ways
section
variable {n : Nat} {nx : List Int → Nat → Option (List Int)}
theorem dd_len : ∀ (l o : List En), (dd o l).length ≤ o.length + l.length
  | [], o => by simp [dd]
  | e :: l, o => by
    rw [dd_cons]
    have h1 := dd_len l (add o e)
    have h2 : (add o e).length ≤ o.length + 1 := by unfold add; split <;> simp
    simp only [List.length_cons]
    omega
theorem dd_pre_len (l o : List En) : o.length ≤ (dd o l).length := by
  obtain ⟨t, ht⟩ := dd_pre l o
  rw [ht, List.length_append]; omega
theorem chs_len (e : En) : (chs n nx e).length ≤ n := by
  unfold chs
  exact Nat.le_trans (List.length_filterMap_le _ _) (by simp)
theorem flat_len : ∀ (l : List En), (l.flatMap (chs n nx)).length ≤ n * l.length
  | [] => by simp
  | e :: l => by
    rw [List.flatMap_cons, List.length_append, List.length_cons, Nat.mul_succ]
    have := flat_len l
    have := chs_len (n := n) (nx := nx) e
    omega
theorem lv_len (m : List Int) : ∀ k, (lv n nx m k).1.length ≤ (n + 1) ^ k
  | 0 => by simp [lv]
  | k + 1 => by
    show (dd (lv n nx m k).1 (((lv n nx m k).1.drop (lv n nx m k).2).flatMap (chs n nx))).length ≤ _
    have h1 := dd_len (((lv n nx m k).1.drop (lv n nx m k).2).flatMap (chs n nx)) (lv n nx m k).1
    have h2 := flat_len (n := n) (nx := nx) ((lv n nx m k).1.drop (lv n nx m k).2)
    have h3 := lv_len m k
    have h4 : ((lv n nx m k).1.drop (lv n nx m k).2).length ≤ (lv n nx m k).1.length := by simp
    have h5 := Nat.mul_le_mul_left n h4
    have h6 := Nat.mul_le_mul_left n h3
    rw [Nat.pow_succ, Nat.mul_comm, Nat.add_mul, Nat.one_mul]
    omega
theorem lv_mono (m : List Int) (k : Nat) : (lv n nx m k).1.length ≤ (lv n nx m (k + 1)).1.length := dd_pre_len _ _
theorem lv_mono' (m : List Int) {k : Nat} : ∀ {j : Nat}, k ≤ j → (lv n nx m k).1.length ≤ (lv n nx m j).1.length
  | 0, h => by
    have e : k = 0 := by omega
    subst e
    exact Nat.le_refl _
  | j + 1, h => by
    rcases Nat.eq_or_lt_of_le h with e | e
    · subst e; exact Nat.le_refl _
    · exact Nat.le_trans (lv_mono' m (by omega)) (lv_mono m j)
theorem st_len (m : List Int) (most : Nat) : ∀ i, (∀ j (hj : j < (st n nx m j).length), j < i → (st n nx m j)[j].1.length < most) → (∀ j, j < i → j < (st n nx m j).length) → (st n nx m i).length ≤ (n + 1) ^ most := by
  intro i h1 h2
  have lvl : ∀ k, k ≤ most → (∃ k', k' < k ∧ (lv n nx m k').2 ≤ i ∧ i < (lv n nx m k').1.length) ∨ (lv n nx m k).2 ≤ i := by
    intro k
    induction k with
    | zero => intro _; exact .inr (Nat.zero_le _)
    | succ k ih =>
      intro hk
      rcases ih (by omega) with ⟨k', a, b, c⟩ | h
      · exact .inl ⟨k', by omega, b, c⟩
      · rcases Nat.lt_or_ge i (lv n nx m k).1.length with h4 | h4
        · exact .inl ⟨k, by omega, h, h4⟩
        · exact .inr h4
  rcases lvl most (Nat.le_refl _) with ⟨k, hk, ha, hb⟩ | h
  · obtain ⟨q1, q2, q3⟩ := st_level (n := n) (nx := nx) m k
    have h4 := q3 (i - (lv n nx m k).2) (by omega)
    rw [show (lv n nx m k).2 + (i - (lv n nx m k).2) = i by omega] at h4
    have e : ((lv n nx m k).1.drop (lv n nx m k).2).flatMap (chs n nx) = (((lv n nx m k).1.drop (lv n nx m k).2).take (i - (lv n nx m k).2)).flatMap (chs n nx) ++ (((lv n nx m k).1.drop (lv n nx m k).2).drop (i - (lv n nx m k).2)).flatMap (chs n nx) := by
      rw [← List.flatMap_append, List.take_append_drop]
    have h5 : (st n nx m i).length ≤ (lv n nx m (k + 1)).1.length := by
      show _ ≤ (dd (lv n nx m k).1 (((lv n nx m k).1.drop (lv n nx m k).2).flatMap (chs n nx))).length
      rw [h4, e, dd_app]
      exact dd_pre_len _ _
    have h6 := lv_mono' (n := n) (nx := nx) m (show k + 1 ≤ most by omega)
    have h7 := lv_len (n := n) (nx := nx) m most
    omega
  · obtain ⟨q1, q2, q3⟩ := st_level (n := n) (nx := nx) m most
    rcases Nat.eq_or_lt_of_le h with h4 | h4
    · rw [← h4, q2]; exact lv_len m most
    · exfalso
      have h5 := h2 _ h4
      rw [q2] at h5
      have h6 := h1 (lv n nx m most).2 (by rw [q2]; exact h5) h4
      have hm : (st n nx m (lv n nx m most).2)[(lv n nx m most).2]'(by rw [q2]; exact h5) ∈ (lv n nx m most).1.drop (lv n nx m most).2 := by
        rw [List.mem_iff_getElem]
        refine ⟨0, by simp; omega, ?_⟩
        simp [q2]
      have := lv_new m most _ hm
      omega
theorem st_close (m : List Int) : ∀ i, (∀ j, j < i → j < (st n nx m j).length) → (st n nx m i).length ≤ i → i = (st n nx m i).length
  | 0, _, h => by simp [st] at h
  | i + 1, h2, h => by
    have h1 := h2 i (by omega)
    obtain ⟨t, ht⟩ := st_pre (n := n) (nx := nx) m i
    have h3 : (st n nx m i).length ≤ (st n nx m (i + 1)).length := by rw [ht, List.length_append]; omega
    omega
theorem st_succ {m : List Int} {i : Nat} {e : En} (h : (st n nx m i)[i]? = some e) : dd (st n nx m i) (chs n nx e) = st n nx m (i + 1) := by
  conv => rhs; unfold st
  rw [h]
section
variable {P : List Int → Prop}
theorem dd_all {o l : List En} (ho : ∀ e ∈ o, P e.2) (hl : ∀ e ∈ l, P e.2) : ∀ e ∈ dd o l, P e.2 := fun e he => (dd_mem he).elim (ho e) (hl e)
theorem chs_all (hn : ∀ m s f, s < n → P m → nx m s = some f → P f) {e : En} (he : P e.2) : ∀ c ∈ chs n nx e, P c.2 := fun c hc => by
  unfold chs at hc
  obtain ⟨s, h1, h2⟩ := List.mem_filterMap.1 hc
  unfold ch at h2
  obtain ⟨f, h3, rfl⟩ := Option.map_eq_some_iff.1 h2
  exact hn _ _ _ (List.mem_range.1 h1) he h3
theorem st_all (hn : ∀ m s f, s < n → P m → nx m s = some f → P f) {m : List Int} (hm : P m) : ∀ i, ∀ e ∈ st n nx m i, P e.2
  | 0, e, he => by simp only [st, List.mem_singleton] at he; subst he; exact hm
  | i + 1, e, he => by
    rw [st] at he
    split at he
    · rename_i q hq
      exact dd_all (st_all hn hm i) (chs_all hn (st_all hn hm i q (List.mem_of_getElem? hq))) e he
    · exact st_all hn hm i e he
theorem lv_all (hn : ∀ m s f, s < n → P m → nx m s = some f → P f) {m : List Int} (hm : P m) : ∀ k, ∀ e ∈ (lv n nx m k).1, P e.2
  | 0, e, he => by simp only [lv, List.mem_singleton] at he; subst he; exact hm
  | k + 1, e, he => by
    have he : e ∈ dd (lv n nx m k).1 (((lv n nx m k).1.drop (lv n nx m k).2).flatMap (chs n nx)) := he
    refine dd_all (lv_all hn hm k) (fun q hq => ?_) e he
    obtain ⟨r, h1, h2⟩ := List.mem_flatMap.1 hq
    exact chs_all hn (lv_all hn hm k r (List.mem_of_mem_drop h1)) q h2
end
def chp (nx : List Int → Nat → Option (List Int)) (e : En) (s : Nat) : List En := (List.range s).filterMap (ch nx e)
theorem chp_all (e : En) : chp nx e n = chs n nx e := rfl
theorem chp_no {e : En} {s : Nat} (h : nx e.2 s = none) : chp nx e (s + 1) = chp nx e s := by
  unfold chp
  rw [List.range_succ, List.filterMap_append]
  simp [ch, h]
theorem chp_ok {e : En} {s : Nat} {f : List Int} (h : nx e.2 s = some f) : chp nx e (s + 1) = chp nx e s ++ [(e.1 ++ [(s : Int)], f)] := by
  unfold chp
  rw [List.range_succ, List.filterMap_append]
  simp [ch, h]
theorem chp_len (e : En) (s : Nat) : (chp nx e s).length ≤ s := by
  unfold chp
  exact Nat.le_trans (List.length_filterMap_le _ _) (by simp)
theorem dd_one {o l : List En} {e : En} : dd o (l ++ [e]) = add (dd o l) e := by rw [dd_app]; rfl
theorem dd_old {o : List En} {e : En} (h : has o e.2 = true) : add o e = o := by unfold add; rw [if_pos h]
theorem dd_add {o : List En} {e : En} (h : has o e.2 = false) : add o e = o ++ [e] := by unfold add; rw [if_neg (by simp [h])]
end
end Go.Ab.Ways
set_option linter.all false
namespace Go.Ab.Ways
def sn (E : List En) : List (List Int) := E.map (·.2)
theorem sn_len {E : List En} : (sn E).length = E.length := by simp [sn]
theorem sn_at {E : List En} {i : Nat} {e : En} (h : E[i]? = some e) : (sn E)[i]? = some e.2 := by simp [sn, h]
theorem sn_has {E : List En} {f : List Int} : (sn E).any (fun q => decide (q = f)) = has E f := by
  unfold sn has
  rw [List.any_map]
  congr 1
  funext e
  show decide (e.2 = f) = (e.2 == f)
  rw [Bool.eq_iff_iff]; simp
def anyP (L : List (List Int)) (x : List Int) (q : Nat) : Bool := (L.take q).any fun r => decide (r = x)
theorem anyP_zero {L : List (List Int)} {x : List Int} : anyP L x 0 = false := rfl
theorem anyP_succ {L : List (List Int)} {x r : List Int} {q : Nat} (h : L[q]? = some r) : anyP L x (q + 1) = (anyP L x q || decide (r = x)) := by
  unfold anyP
  rw [List.take_add_one, h, List.any_append]; simp
theorem anyP_all {L : List (List Int)} {x : List Int} {q : Nat} (h : L.length ≤ q) : anyP L x q = L.any fun r => decide (r = x) := by
  unfold anyP; rw [List.take_of_length_le h]
section
variable (n : Nat) (nx : List Int → Nat → Option (List Int)) (A : List En) (b i : Nat)
def acc : List En := dd A (((A.drop b).take i).flatMap (chs n nx))
def acc2 (e : En) (s : Nat) : List En := dd (acc n nx A b i) (chp nx e s)
def F1 : List (List Int) := sn (acc n nx A b i)
def N1 : List (List Int) := sn ((acc n nx A b i).drop A.length)
def F2 (e : En) (s : Nat) : List (List Int) := sn (acc2 n nx A b i e s)
def N2 (e : En) (s : Nat) : List (List Int) := sn ((acc2 n nx A b i e s).drop A.length)
end
section
variable {n : Nat} {nx : List Int → Nat → Option (List Int)} {A : List En} {b i s : Nat} {e : En} {f : List Int}
theorem acc_zero : acc n nx A b 0 = A := by simp [acc, dd]
theorem F1_zero : F1 n nx A b 0 = sn A := by unfold F1; rw [acc_zero]
theorem N1_zero : N1 n nx A b 0 = [] := by unfold N1; rw [acc_zero]; simp [sn]
theorem acc2_zero : acc2 n nx A b i e 0 = acc n nx A b i := by simp [acc2, chp, dd]
theorem F2_zero : F2 n nx A b i e 0 = F1 n nx A b i := by unfold F2 F1; rw [acc2_zero]
theorem N2_zero : N2 n nx A b i e 0 = N1 n nx A b i := by unfold N2 N1; rw [acc2_zero]
theorem acc2_all (h : (A.drop b)[i]? = some e) : acc2 n nx A b i e n = acc n nx A b (i + 1) := by
  unfold acc2 acc
  rw [List.take_add_one, h, List.flatMap_append, dd_app]
  simp [chp_all]
theorem F2_all (h : (A.drop b)[i]? = some e) : F2 n nx A b i e n = F1 n nx A b (i + 1) := by unfold F2 F1; rw [acc2_all h]
theorem N2_all (h : (A.drop b)[i]? = some e) : N2 n nx A b i e n = N1 n nx A b (i + 1) := by unfold N2 N1; rw [acc2_all h]
theorem acc2_no (h : nx e.2 s = none) : acc2 n nx A b i e (s + 1) = acc2 n nx A b i e s := by unfold acc2; rw [chp_no h]
theorem acc2_old (h : nx e.2 s = some f) (hf : has (acc2 n nx A b i e s) f = true) : acc2 n nx A b i e (s + 1) = acc2 n nx A b i e s := by
  unfold acc2 at hf ⊢
  rw [chp_ok h, dd_one, dd_old hf]
theorem acc2_new (h : nx e.2 s = some f) (hf : has (acc2 n nx A b i e s) f = false) : acc2 n nx A b i e (s + 1) = acc2 n nx A b i e s ++ [(e.1 ++ [(s : Int)], f)] := by
  unfold acc2 at hf ⊢
  rw [chp_ok h, dd_one, dd_add hf]
theorem acc2_ge : A.length ≤ (acc2 n nx A b i e s).length := by
  unfold acc2 acc
  exact Nat.le_trans (dd_pre_len _ _) (dd_pre_len _ _)
theorem F2_no (h : nx e.2 s = none) : F2 n nx A b i e (s + 1) = F2 n nx A b i e s := by unfold F2; rw [acc2_no h]
theorem N2_no (h : nx e.2 s = none) : N2 n nx A b i e (s + 1) = N2 n nx A b i e s := by unfold N2; rw [acc2_no h]
theorem F2_old (h : nx e.2 s = some f) (hf : (F2 n nx A b i e s).any (fun q => decide (q = f)) = true) : F2 n nx A b i e (s + 1) = F2 n nx A b i e s := by unfold F2 at *; rw [sn_has] at hf; rw [acc2_old h hf]
theorem N2_old (h : nx e.2 s = some f) (hf : (F2 n nx A b i e s).any (fun q => decide (q = f)) = true) : N2 n nx A b i e (s + 1) = N2 n nx A b i e s := by unfold F2 at hf; unfold N2; rw [sn_has] at hf; rw [acc2_old h hf]
theorem F2_new (h : nx e.2 s = some f) (hf : (F2 n nx A b i e s).any (fun q => decide (q = f)) = false) : F2 n nx A b i e (s + 1) = F2 n nx A b i e s ++ [f] := by
  unfold F2 at *
  rw [sn_has] at hf
  rw [acc2_new h hf]
  simp [sn]
theorem N2_new (h : nx e.2 s = some f) (hf : (F2 n nx A b i e s).any (fun q => decide (q = f)) = false) : N2 n nx A b i e (s + 1) = N2 n nx A b i e s ++ [f] := by
  unfold F2 at hf
  unfold N2
  rw [sn_has] at hf
  rw [acc2_new h hf, List.drop_append_of_le_length acc2_ge]
  simp [sn]
theorem F2_len : (F2 n nx A b i e s).length ≤ A.length + n * A.length + s := by
  unfold F2
  rw [sn_len]
  unfold acc2 acc
  have h1 := dd_len (chp nx e s) (dd A (((A.drop b).take i).flatMap (chs n nx)))
  have h2 := dd_len (((A.drop b).take i).flatMap (chs n nx)) A
  have h3 := chp_len (nx := nx) e s
  have h4 := flat_len (n := n) (nx := nx) ((A.drop b).take i)
  have h5 : ((A.drop b).take i).length ≤ A.length := by simp; omega
  have h6 := Nat.mul_le_mul_left n h5
  omega
theorem acc2_P {P : List Int → Prop} (hn : ∀ m s f, s < n → P m → nx m s = some f → P f) (hA : ∀ q ∈ A, P q.2) (he : P e.2) (hs : s ≤ n) : ∀ q ∈ acc2 n nx A b i e s, P q.2 := by
  unfold acc2 acc
  refine dd_all (dd_all hA fun q hq => ?_) fun q hq => ?_
  · obtain ⟨r, h1, h2⟩ := List.mem_flatMap.1 hq
    exact chs_all hn (hA r (List.mem_of_mem_drop (List.mem_of_mem_take h1))) q h2
  · unfold chp at hq
    obtain ⟨j, h1, h2⟩ := List.mem_filterMap.1 hq
    have := List.mem_range.1 h1
    exact chs_all hn he q (List.mem_filterMap.2 ⟨j, List.mem_range.2 (by omega), h2⟩)
theorem F2_P {P : List Int → Prop} (hn : ∀ m s f, s < n → P m → nx m s = some f → P f) (hA : ∀ q ∈ A, P q.2) (he : P e.2) (hs : s ≤ n) : ∀ r ∈ F2 n nx A b i e s, P r := fun r hr => by
  obtain ⟨q, h1, rfl⟩ := List.mem_map.1 hr
  exact acc2_P hn hA he hs q h1
theorem N2_len : (N2 n nx A b i e s).length ≤ (F2 n nx A b i e s).length := by
  unfold N2 F2
  rw [sn_len, sn_len, List.length_drop]; omega
end
section
variable {n : Nat} {nx : List Int → Nat → Option (List Int)} {m : List Int} {k i : Nat}
abbrev lvA (n : Nat) (nx : List Int → Nat → Option (List Int)) (m : List Int) (k : Nat) : List En := (lv n nx m k).1
abbrev lvB (n : Nat) (nx : List Int → Nat → Option (List Int)) (m : List Int) (k : Nat) : Nat := (lv n nx m k).2
def FK (n : Nat) (nx : List Int → Nat → Option (List Int)) (m : List Int) (k : Nat) : List (List Int) := sn (lv n nx m k).1
def LK (n : Nat) (nx : List Int → Nat → Option (List Int)) (m : List Int) (k : Nat) : List (List Int) := sn ((lv n nx m k).1.drop (lv n nx m k).2)
theorem FK_zero : FK n nx m 0 = [m] := rfl
theorem LK_zero : LK n nx m 0 = [m] := rfl
theorem LK_len : (LK n nx m k).length = ((lvA n nx m k).drop (lvB n nx m k)).length := sn_len
theorem F1_FK : F1 n nx (lvA n nx m k) (lvB n nx m k) 0 = FK n nx m k := F1_zero
theorem F1_last (h : ((lvA n nx m k).drop (lvB n nx m k)).length ≤ i) : F1 n nx (lvA n nx m k) (lvB n nx m k) i = FK n nx m (k + 1) := by
  unfold F1 FK acc
  rw [List.take_of_length_le h]; rfl
theorem N1_last (h : ((lvA n nx m k).drop (lvB n nx m k)).length ≤ i) : N1 n nx (lvA n nx m k) (lvB n nx m k) i = LK n nx m (k + 1) := by
  unfold N1 LK acc
  rw [List.take_of_length_le h]; rfl
theorem FK_len : (FK n nx m k).length = (lv n nx m k).1.length := sn_len
end
end Go.Ab.Ways
