/- The iterators of the moss laws. -/
import Derived.Test.YtjipgkhfbfpacaaDoorAbH
import Derived.RangeFuncBox
import Derived.RangeFuncLeaves
import Derived.Shelf.Abstract
import Derived.Shelf.RegionOpen
import Derived.OwnWalkIn
import Derived.TacticsInMore
import Derived.LoopNIn
import Derived.LoopIn
import Derived.Test.YtjipgkhfbfpacaaDoorProg
set_option linter.all false
namespace Go.Proofs
open Go.RowKit Go.Shelf Go.Ab
attribute [local go_sem] Oper.semAt_some
theorem cptr3 {w : World} {X : Nat → Prop} {x y z : Int} {v : Value} (h : RepD w X (.cptr [.int .i64 x, .int .i64 y, .int .i64 z]) v) :
    ∃ b off, v = .pointer (some ⟨b, off, none⟩) ∧ w.cell? ⟨b, off, none⟩ = some (.int .i64 x) ∧ w.cell? ⟨b, off + 1, none⟩ = some (.int .i64 y) ∧ w.cell? ⟨b, off + 2, none⟩ = some (.int .i64 z) := by
  cases h with
  | cptr _ b off u h1 h2 h3 h4 =>
    refine ⟨b, off, rfl, ?_, ?_, ?_⟩
    · have := h4 0 _ rfl; have h5 := h3 0 _ rfl; generalize u 0 = q at this h5; cases this; simpa using h5
    · have := h4 1 _ rfl; have h5 := h3 1 _ rfl; generalize u 1 = q at this h5; cases this; simpa using h5
    · have := h4 2 _ rfl; have h5 := h3 2 _ rfl; generalize u 2 = q at this h5; cases this; simpa using h5
theorem wrap_small {q : Int} (h : -9223372036854775808 ≤ q ∧ q < 9223372036854775808) : IntKind.i64.wrap q = q := by
  simp only [IntKind.wrap, IntKind.bits, IntKind.signed]
  simp only [Bool.true_and, decide_eq_true_eq, ge_iff_le, Nat.reduceSub, Int.reducePow]
  split <;> omega
def sqArg (c : Nat) (k : Nat) : List DV := [.int .i64 k, .agg [.int .i64 ((k / c : Nat) : Int), .int .i64 ((k % c : Nat) : Int)]]
set_option maxRecDepth 100000 in
set_option maxHeartbeats 4000000 in
theorem Tryd.squares1_in (l b off : Nat) (r c N : Nat) (hN : r * c = N) (hr : 1 ≤ r ∧ r ≤ 6) (hc : 1 ≤ c ∧ c ≤ 6) (J : Nat → World → Prop) (hD : ∀ k W, J k W → J k W.drew)
    (hA : ∀ k W, J k W → W.cell? ⟨b, off, none⟩ = some (.int .i64 (r : Int)) ∧ W.cell? ⟨b, off + 1, none⟩ = some (.int .i64 (c : Int)))
    (hY : ∀ k W1, k < N → J k W1 → YieldAt Fence.wide 0 Tryd.prog l #[.int .i64 (k : Int), .agg #[.int .i64 ((k / c : Nat) : Int), .int .i64 ((k % c : Nat) : Int)]] W1 fun e W' => e = .returned (.bool true) ∧ J (k + 1) W')
    (W : World) (h0 : J 0 W) :
    CallsIn Fence.wide 0 Tryd.prog 103 #[.func (.yield l) #[] #[], .pointer (some ⟨b, off, none⟩)] W fun e W' => (∃ v, e = .returned v) ∧ J N W' := by
  have hmix : Tryd.prog.follows .mixedOrders = true := by kernel_rfl
  obtain ⟨hcr, hcc⟩ := hA 0 W h0
  have hrc : N ≤ 36 := hN ▸ Nat.le_trans (Nat.mul_le_mul hr.2 hc.2) (by decide)
  refine callsIn_of_wp Tryd.func103 rfl trivial ?_ rfl
  simp only [Tryd.ntmps103, List.size_toArray, List.length_cons, List.length_nil, Nat.reduceAdd, Nat.reduceSub, Array.replicate_succ, Array.replicate_zero, List.push_toArray, List.append_toArray, List.nil_append, List.cons_append]
  have hmul : (r : Int) * (c : Int) = (N : Int) := by rw [← hN, Int.natCast_mul]
  gi_wp2
  clear hmul
  gi_loopw [9] (fun i wr => ∃ k : Nat, k ≤ N ∧ i = .int .i64 (k : Int) ∧ J k wr)
    (fun i _ => N - (intOf i).toNat)
  case atStart => exact ⟨0, Nat.zero_le _, rfl, h0⟩
  case round =>
    obtain ⟨k, hk, rfl, hJs⟩ := hrel
    obtain ⟨hcr', hcc'⟩ := hA k wr hJs
    by_cases hlt : k < N
    · obtain ⟨fn, tmps, assign, body, hy, hR⟩ := hY k wr.drew hlt (hD k wr hJs)
      obtain ⟨q, hq⟩ : ∃ q : Int, ((k / c : Nat) : Int) = q := ⟨_, rfl⟩
      obtain ⟨p, hp⟩ : ∃ p : Int, ((k % c : Nat) : Int) = p := ⟨_, rfl⟩
      have hkb : k / c ≤ 36 := Nat.le_trans (Nat.div_le_self _ _) (by omega)
      have hpb : k % c ≤ 36 := Nat.le_trans (Nat.mod_le _ _) (by omega)
      have q1 : (k : Int) / (c : Int) = q := by rw [← hq]; simp
      have q2 : (k : Int).tdiv (c : Int) = q := by rw [← hq]; simp
      have p1 : (k : Int) % (c : Int) = p := by rw [← hp]; simp
      have p2 : (k : Int).tmod (c : Int) = p := by rw [← hp, Int.tmod_eq_emod_of_nonneg (by omega)]; simp
      have q3 : wrap64 q = q := by generalize k / c = z at *; subst hq; unfold wrap64; omega
      have q4 : IntKind.i64.wrap q = q := wrap_small (by generalize k / c = z at *; omega)
      have p3 : wrap64 p = p := by generalize k % c = z at *; subst hp; unfold wrap64; omega
      have p4 : IntKind.i64.wrap p = p := wrap_small (by generalize k % c = z at *; omega)
      rw [hq, hp] at hy
      clear hq hp hkb hpb
      have hdep : Fence.wide.depth = none := rfl
      have hc0 : ¬ (c : Int) = 0 := by omega
      gi_wp2
      gi_region_with_o (refine hR.mono ?_; rintro e W3 ⟨rfl, hJ3⟩)
      all_goals gi_wp2
      all_goals go_roundw
      all_goals first
        | exact ⟨k + 1, by omega, by simp, hJ3⟩
        | (simp [intOf]; omega)
    · obtain rfl : k = N := by omega
      gi_wp2
      go_end0
      exact ⟨⟨_, rfl⟩, hJs⟩
theorem Tryd.squares_seq (r c : Nat) (nd : Int) (hr : 1 ≤ r ∧ r ≤ 6) (hc : 1 ≤ c ∧ c ≤ 6) : ASeq Tryd.prog 103 [.cptr [.int .i64 (r : Int), .int .i64 (c : Int), .int .i64 nd]] ((List.range (r * c)).map (sqArg c)) := by
  refine ⟨enterP_of Tryd.func103 rfl (by kernel_rfl), fun x hx => ?_, fun l lb J W hJ hA hY h0 => ?_⟩
  · obtain ⟨k, _, rfl⟩ := List.mem_map.1 hx; rfl
  have hl : ∀ k W, J k W → ∃ v, lb = #[v] ∧ RepD W (fun _ => False) (.cptr [.int .i64 (r : Int), .int .i64 (c : Int), .int .i64 nd]) v := fun k W hk => by
    obtain ⟨h1, h2⟩ := hA k W hk
    have h3 := h2 0 _ rfl
    obtain ⟨v, rfl⟩ : ∃ v, lb = #[v] := by
      match lb, h1 with
      | ⟨[v]⟩, _ => exact ⟨v, rfl⟩
      | ⟨[]⟩, h => simp at h
      | ⟨_ :: _ :: _⟩, h => simp at h
    exact ⟨v, rfl, h3⟩
  obtain ⟨v, rfl, hv⟩ := hl 0 W h0
  obtain ⟨b, off, rfl, _⟩ := cptr3 hv
  have := Tryd.squares1_in l b off r c (r * c) rfl hr hc J (fun k W hk => hJ k W _ none hk ⟨rfl, rfl, rfl, Nat.le_refl _, fun _ _ _ => rfl⟩ (fun r e => by cases e))
    (fun k W hk => by
      obtain ⟨v', e, h⟩ := hl k W hk
      simp only [Array.mk.injEq, List.cons.injEq, and_true] at e
      subst e
      obtain ⟨b', off', e2, h1, h2, _⟩ := cptr3 h
      simp only [Value.pointer.injEq, Option.some.injEq, Addr.mk.injEq, and_true] at e2
      obtain ⟨rfl, rfl⟩ := e2
      exact ⟨h1, h2⟩)
    (fun k W1 hk hj => by
      have := hY k (sqArg c k) W1 (by simp [hk]) hj
      simpa [sqArg, DV.vals, DV.val] using this) W h0
  simpa using this
end Go.Proofs
