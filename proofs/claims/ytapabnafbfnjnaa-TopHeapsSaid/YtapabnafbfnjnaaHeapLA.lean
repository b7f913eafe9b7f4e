/- The functions of the heap laws, part LA. The walks are written by wip/gen/gw.py. -/
import Derived.Test.YtapabnafbfnjnaaHeapPC
import Derived.Test.YtapabnafbfnjnaaHeapFacts
import Derived.Test.YtapabnafbfnjnaaHeapPT
set_option linter.all false
namespace Go.Ab.Try
open Go Go.Ab Go.Proofs Go.Ab.Heap

theorem long_args {h : Hp} {l : List (List Int)} (e : longB h l = false) : (∀ r ∈ l, r.length ≤ 400) ∧ h.ground.length ≤ 50 := by
  unfold longB at e
  simp only [Bool.or_eq_false_iff, decide_eq_false_iff_not] at e
  refine ⟨fun r hr => ?_, by omega⟩
  have := List.any_eq_false.1 e.1.1.1 r hr
  simpa using this
theorem val_of_check {h : Hp} {l : List (List Int)} (e : checkE h l = 0) : validate h = 0 := by
  unfold checkE at e
  split at e
  · rename_i c; exact absurd e c
  · rename_i c; exact Classical.not_not.1 c
theorem check_of {h : Hp} {l : List (List Int)} (e : validate h = 0) (hl : ∀ a ∈ l, Hpg30 h a) : checkE h l = 0 := by
  unfold checkE
  rw [if_neg (by simp [e]), if_pos]
  exact List.all_eq_true.2 fun a ha => hpgB_mk (hl a ha)
theorem check_of1 {h : Hp} {a : List Int} (e : validate h = 0) (x : Hpg30 h a) : checkE h [a] = 0 := check_of e fun _ hr => by simp only [List.mem_singleton] at hr; subst hr; exact x
theorem check_of2 {h : Hp} {a b : List Int} (e : validate h = 0) (x : Hpg30 h a) (y : Hpg30 h b) : checkE h [a, b] = 0 := check_of e fun _ hr => by
  simp only [List.mem_cons, List.not_mem_nil, or_false] at hr
  rcases hr with rfl | rfl
  · exact x
  · exact y
theorem Hpg30.ofCalm {h : Hp} (v : VH h) {a : List Int} (ha : Hpg h a) (hc : calmB h a) : Hpg30 h a := ⟨ha.len, fun i hi => by have := ha.nn i hi; have := hc i hi; have := v.lim12 hi; omega⟩
theorem hpg30_stl {h : Hp} (v : VH h) {a : List Int} (ha : Hpg h a) : Hpg30 h (stl h a) := .ofCalm v (stl_hpg v ha) (stl_lt v ha)
theorem settle_check {h : Hp} {a : List Int} (e : (settleR h a).2.2.2 = 0) : checkE h [a] = 0 := by
  unfold settleR at e
  split at e
  · rename_i c; exact absurd e c
  · rename_i c; exact Classical.not_not.1 c
theorem settle_err {h : Hp} {a : List Int} (hv : validate h = 0) (e : (settleR h a).2.2.2 ≠ 0) : (settleR h a).2.2.2 = 1 := by
  unfold settleR at e ⊢
  split at e
  · rename_i c
    rw [if_pos c]
    dsimp only
    unfold checkE at c ⊢
    rw [if_neg (by simp [hv])] at c ⊢
    split at c
    · exact absurd rfl c
    · rename_i d; rw [if_neg d]
  · exact absurd rfl e
theorem settleR_len {h : Hp} {a : List Int} : (settleR h a).1.length < 1000000 ∧ (settleR h a).2.1.length < 1000000 := by
  unfold settleR
  split
  · simp
  · rename_i e
    obtain ⟨v, x⟩ := check1 (Classical.not_not.1 e)
    have h5 := v.n5
    have h1 := stl_len (h := h) (a := a)
    have h2 := stlT_len v x.hpg
    exact ⟨by dsimp only; omega, by dsimp only; omega⟩
theorem dropR_len {h : Hp} {a : List Int} {i : Int} : (dropR h a i).1.length < 1000000 := by
  unfold dropR
  split
  · simp
  · rename_i e
    obtain ⟨e1, _⟩ := one_ok (Classical.not_not.1 e)
    have v5 := (check1 e1).1.n5
    simp [stl]; omega
theorem addR_len {h : Hp} {a b : List Int} : (addR h a b).1.length < 1000000 := by
  unfold addR
  split
  · simp
  · rename_i e
    have v5 := (check2 (Classical.not_not.1 e)).1.n5
    simp [stl]; omega
def unitL (h : Hp) (k : Nat) : List Int := (List.range h.ground.length).map fun j => if j = k then 1 else 0
theorem unit_hpg (h : Hp) (k : Nat) : Hpg h (unitL h k) := ⟨by simp [unitL], fun i hi => by unfold unitL; rw [ata_mk hi]; split <;> omega⟩
theorem bump_add {h : Hp} {a : List Int} {k : Nat} (ha : a.length = h.ground.length) (hk : k < h.ground.length) : bump a k = addL h a (unitL h k) := by
  refine ata_ext (n := h.ground.length) (by simp [bump, ha]) (by simp [addL]) fun i hi => ?_
  unfold bump
  rw [ata_set (by omega), addL_at hi]
  unfold unitL
  rw [ata_mk hi]
  split
  · rename_i c; subst c; rfl
  · omega
theorem drop_one {h : Hp} {a : List Int} {i : Int} (e : (dropR h a i).2.2 = 0) : oneE h i [a] = 0 := by
  unfold dropR at e
  split at e
  · rename_i c; exact absurd e c
  · rename_i c; exact Classical.not_not.1 c
theorem drops_two {h : Hp} {a : List Int} {i k : Int} (e : (dropR h a i).2.2 = 0) (g : (dropR h a k).2.2 = 0) :
    (dropR h (dropR h a i).1 k).2.2 = 0 ∧ (dropR h (dropR h a k).1 i).2.2 = 0 ∧ (dropR h (dropR h a i).1 k).1 = (dropR h (dropR h a k).1 i).1 := by
  have e1 := drop_one e
  have g1 := drop_one g
  obtain ⟨hc, i, hi, rfl⟩ := one_ok e1
  obtain ⟨_, k, hk, rfl⟩ := one_ok g1
  obtain ⟨v, x⟩ := check1 hc
  have hv := val_of_check hc
  rw [drop_ok e1, drop_ok g1]
  have bi := (bump_fit x hi).hpg
  have bk := (bump_fit x hk).hpg
  rw [drop_ok (one_of (check_of1 hv (hpg30_stl v bi)) hk), drop_ok (one_of (check_of1 hv (hpg30_stl v bk)) hi)]
  refine ⟨rfl, rfl, ?_⟩
  dsimp only
  rw [bump_add stl_len hk, bump_add stl_len hi, stl_add v bi (unit_hpg h k), stl_add v bk (unit_hpg h i), bump_add x.len hi, bump_add x.len hk, addL_assoc, addL_assoc, addL_comm h (unitL h i)]
theorem add_check {h : Hp} {a b : List Int} (e : (addR h a b).2 = 0) : checkE h [a, b] = 0 := by
  unfold addR at e
  split at e
  · rename_i c; exact absurd e c
  · rename_i c; exact Classical.not_not.1 c
theorem sums_three {h : Hp} {a b c : List Int} (e : (addR h a b).2 = 0) (f : (addR h b c).2 = 0) :
    (addR h (addR h a b).1 c).2 = 0 ∧ (addR h a (addR h b c).1).2 = 0 ∧ (settleR h a).2.2.2 = 0 ∧ (addR h (settleR h a).1 (addR h b c).1).2 = 0 ∧
    (addR h (addR h a b).1 c).1 = (addR h a (addR h b c).1).1 ∧ (addR h (settleR h a).1 (addR h b c).1).1 = (addR h a (addR h b c).1).1 := by
  have e1 := add_check e
  have f1 := add_check f
  obtain ⟨v, x, y⟩ := check2 e1
  obtain ⟨_, _, z⟩ := check2 f1
  have hv := val_of_check e1
  rw [add_ok e1, add_ok f1, settle_ok (check_of1 hv x)]
  have ab := addL_hpg x.hpg y.hpg
  have bc := addL_hpg y.hpg z.hpg
  rw [add_ok (check_of2 hv (hpg30_stl v ab) z), add_ok (check_of2 hv x (hpg30_stl v bc)), add_ok (check_of2 hv (hpg30_stl v x.hpg) (hpg30_stl v bc))]
  exact ⟨rfl, rfl, rfl, rfl, stl_three v x.hpg y.hpg z.hpg, stl_add v x.hpg (stl_hpg v bc)⟩


end Go.Ab.Try
