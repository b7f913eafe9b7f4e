/- The iterator of slices.Backward. -/
import Derived.Test.YtjipgkhfbfpacaaDoorMossIt
import Derived.Test.YtjipgkhfbfpacaaDoorAbI
set_option linter.all false
namespace Go.Proofs
open Go.RowKit Go.Shelf Go.Ab
attribute [local go_sem] Oper.semAt_some

set_option maxRecDepth 100000 in
set_option maxHeartbeats 4000000 in
theorem Tryd.back1_in (l b off : Nat) (N : Nat) (z : Nat → Int) (hN : N < 1000000) (J : Nat → World → Prop)
    (hA : ∀ k W, J k W → ∃ a cap, W.cell? ⟨b, off, none⟩ = some (.slice a N cap) ∧ (0 < N → ∃ b2 o2, a = some ⟨b2, o2, none⟩ ∧ ∀ i, i < N → W.cell? ⟨b2, o2 + i, none⟩ = some (.int .i64 (z i))))
    (hY : ∀ k W1, k < N → J k W1 → YieldAt Fence.wide 0 Tryd.prog l #[.int .i64 ((N : Int) - 1 - k), .int .i64 (z (N - 1 - k))] W1 fun e W' => e = .returned (.bool true) ∧ J (k + 1) W')
    (W : World) (h0 : J 0 W) :
    CallsIn Fence.wide 0 Tryd.prog 95 #[.func (.yield l) #[] #[], .pointer (some ⟨b, off, none⟩)] W fun e W' => (∃ v, e = .returned v) ∧ J N W' := by
  have hmix : Tryd.prog.follows .mixedOrders = true := by kernel_rfl
  obtain ⟨a2, cap, hc1, hc2⟩ := hA 0 W h0
  refine callsIn_of_wp Tryd.func95 rfl trivial ?_ rfl
  simp only [Tryd.ntmps95, List.size_toArray, List.length_cons, List.length_nil, Nat.reduceAdd, Nat.reduceSub, Array.replicate_succ, Array.replicate_zero, List.push_toArray, List.append_toArray, List.nil_append, List.cons_append]
  gi_wp2
  gi_loopw [3] (fun i wr => ∃ k : Nat, k ≤ N ∧ i = .int .i64 ((N : Int) - 1 - k) ∧ J k wr)
    (fun i _ => (intOf i + 1).toNat)
  case atStart => exact ⟨0, Nat.zero_le _, by simp, h0⟩
  case round =>
    obtain ⟨k, hk, rfl, hJs⟩ := hrel
    by_cases hlt : k < N
    · obtain ⟨a3, cap3, hd1, hd0⟩ := hA k wr hJs
      obtain ⟨b3, o3, rfl, hd2⟩ := hd0 (by omega)
      obtain ⟨fn, tmps, assign, body, hy, hR⟩ := hY k wr hlt hJs
      have hd3 := hd2 (N - 1 - k) (by omega)
      gi_wp2
      refine ⟨rfl, hR.mono ?_⟩
      rintro e W3 ⟨rfl, hJ3⟩
      all_goals gi_wp2
      all_goals go_roundw
      all_goals first
        | exact ⟨k + 1, by omega, by simp; omega, hJ3⟩
        | (simp [intOf]; omega)
    · obtain rfl : k = N := by omega
      gi_wp2
      go_end0
      exact ⟨⟨_, rfl⟩, hJs⟩

def bkArg (z : Nat → Int) (N k : Nat) : List DV := [.int .i64 ((N : Int) - 1 - k), .int .i64 (z (N - 1 - k))]
theorem ptr_list {w : World} {X : Nat → Prop} {L : List Int} {v : Value} (h : RepD w X (.cptr [ints L]) v) :
    ∃ b off, v = .pointer (some ⟨b, off, none⟩) ∧ ∃ a cap, w.cell? ⟨b, off, none⟩ = some (.slice a L.length cap) ∧ (0 < L.length → ∃ b2 o2, a = some ⟨b2, o2, none⟩ ∧ ∀ i, i < L.length → w.cell? ⟨b2, o2 + i, none⟩ = some (.int .i64 (L.getD i 0))) := by
  cases h with
  | cptr _ b off u h1 h2 h3 h4 =>
    refine ⟨b, off, rfl, ?_⟩
    have h5 := h4 0 _ rfl
    have h6 := h3 0 _ rfl
    generalize u 0 = q at h5 h6
    cases L with
    | nil =>
      simp only [ints, List.map_nil] at h5
      cases h5 with
      | listNil a cap => exact ⟨a, cap, by simpa using h6, fun h => absurd h (Nat.not_lt_zero _)⟩
      | list _ b2 o2 cap esz u2 k1 k2 k3 k4 k5 k6 => exact ⟨_, cap, by simpa using h6, fun h => absurd h (Nat.not_lt_zero _)⟩
    | cons x L =>
      simp only [ints, List.map_cons] at h5
      cases h5 with
      | list _ b2 o2 cap esz u2 k1 k2 k3 k4 k5 k6 =>
        refine ⟨_, cap, by simpa using h6, fun _ => ⟨b2, o2, rfl, fun i hi => ?_⟩⟩
        have hf : flat ((x :: L).map (DV.int .i64)) = (x :: L).map (DV.int .i64) := flat_one fun _ => rfl
        have hg : (flat (DV.int .i64 x :: L.map (DV.int .i64)))[i]? = some (.int .i64 ((x :: L).getD i 0)) := by
          rw [← List.map_cons, hf, List.getElem?_map, List.getD_eq_getElem?_getD, List.getElem?_eq_getElem hi]; rfl
        have k7 := k5 i _ hg
        have k8 := k6 i _ hg
        generalize u2 i = r at k7 k8
        cases k8
        exact k7

/-- slices.Backward hands over the places and the elements, the last first. -/
theorem Tryd.back_seq (L : List Int) (hl : L.length < 1000000) : ASeq Tryd.prog 95 [.cptr [ints L]] ((List.range L.length).map (bkArg (fun i => L.getD i 0) L.length)) := by
  refine ⟨enterP_of Tryd.func95 rfl (by kernel_rfl), fun x hx => ?_, fun l lb J W hJ hA hY h0 => ?_⟩
  · obtain ⟨k, _, rfl⟩ := List.mem_map.1 hx; rfl
  have hv : ∀ k W, J k W → ∃ v, lb = #[v] ∧ RepD W (fun _ => False) (.cptr [ints L]) v := fun k W hk => by
    obtain ⟨h1, h2⟩ := hA k W hk
    have h3 := h2 0 _ rfl
    obtain ⟨v, rfl⟩ : ∃ v, lb = #[v] := by
      match lb, h1 with
      | ⟨[v]⟩, _ => exact ⟨v, rfl⟩
      | ⟨[]⟩, h => simp at h
      | ⟨_ :: _ :: _⟩, h => simp at h
    exact ⟨v, rfl, h3⟩
  obtain ⟨v, rfl, hv0⟩ := hv 0 W h0
  obtain ⟨b, off, rfl, _⟩ := ptr_list hv0
  have := Tryd.back1_in l b off L.length (fun i => L.getD i 0) hl J
    (fun k W hk => by
      obtain ⟨v', e, h⟩ := hv k W hk
      simp only [Array.mk.injEq, List.cons.injEq, and_true] at e
      subst e
      obtain ⟨b', off', e2, h1⟩ := ptr_list h
      simp only [Value.pointer.injEq, Option.some.injEq, Addr.mk.injEq, and_true] at e2
      obtain ⟨rfl, rfl⟩ := e2
      exact h1)
    (fun k W1 hk hj => by
      have := hY k (bkArg (fun i => L.getD i 0) L.length k) W1 (by simp [hk]) hj
      simpa [bkArg, DV.vals, DV.val] using this) W h0
  simpa using this
end Go.Proofs
