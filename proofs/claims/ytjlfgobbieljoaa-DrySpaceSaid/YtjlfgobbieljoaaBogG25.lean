/- Dry15, Dry16, DryL2. -/
import Derived.Test.YtjlfgobbieljoaaBogG24
import Derived.Test.YtjlfgobbieljoaaBogG13
import Derived.Test.YtjlfgobbieljoaaBogG23
set_option linter.all false
set_option linter.all false
namespace Go.Ab.Try
open Go Go.Ab Go.Proofs
def sg (l : List Int) (i : Nat) : Int := l.getD i 0
theorem sg_get {l : List Int} {i : Nat} (h : i < l.length) : l[i]? = some (sg l i) := by simp [sg, h]
def InL (set : List Int) (l : List Int) : Prop := ∀ p ∈ set, 0 ≤ p ∧ p < l.length
end Go.Ab.Try
set_option linter.all false
namespace Go.Ab.Try
open Go Go.Ab Go.Proofs
theorem awp_frz {cx : Cx} {c : Code} {K : Exit → St → Prop} {l : List (Nat × SV)} {m : List (Nat × Nat × Option Blk)} (t : Nat) {g : Nat} {b : Blk} (k : AWp cx c K ⟨lk l, mkM ((t, g, some { b with st := 1 }) :: m)⟩) (h0 : mkM m t = (g, some b) := by (simp only [mkM, reduceIte, Nat.reduceEqDiff] <;> rfl)) (h1 : OwS b.st ∨ b.st = 1 := by (first | exact .inl (.inl rfl) | exact .inr rfl)) : AWp cx c K ⟨lk l, mkM m⟩ := by
  refine AWp.le (Le.freeze (S := ⟨lk l, mkM m⟩) h0 h1) ?_
  rw [upd_mkM]; exact k
theorem InL.sub {a b l : List Int} (h : InL a l) (hs : b.Sublist a) : InL b l := fun p hp => h p (hs.subset hp)
end Go.Ab.Try
set_option linter.all false
namespace Go.Ab.Try
open Go Go.Ab Go.Proofs
def tokAt (m : List Int) (p : Int) : Int := if 0 ≤ p ∧ p < m.length then sg m p.toNat else 0
theorem sg_bd {m : List Int} {lo hi : Int} (h : ∀ x ∈ m, lo ≤ x ∧ x ≤ hi) {p : Nat} (hp : p < m.length) : lo ≤ sg m p ∧ sg m p ≤ hi := h _ (List.mem_of_getElem? (sg_get hp))
theorem sg_moved {s : Stp} {m : List Int} {p : Nat} (h : p < m.length) : sg (moved s m) p = sg m p + (sg s.give p - sg s.take p) := by
  simp [moved, sg, h]
theorem step_at {y : Yd} {m : List Int} {s : Int} (hv : VYd y) (hm : VM y m) (h0 : 0 ≤ s) (h1 : s < y.steps.length) (ha : (afterR (stepAt y s) m).2 = 0) :
    VM y (afterR (stepAt y s) m).1 ∧ stepAt y s ∈ y.steps ∧ ∀ p : Int, 0 ≤ p → p < y.places → tokAt m p = sg m p.toNat ∧ tokAt (afterR (stepAt y s) m).1 p = sg m p.toNat + (sg (stepAt y s).give p.toNat - sg (stepAt y s).take p.toNat) ∧ sg (stepAt y s).take p.toNat ≤ sg m p.toNat ∧ 0 ≤ sg (stepAt y s).give p.toNat ∧ 0 ≤ sg (stepAt y s).take p.toNat := by
  obtain ⟨a1, a2, a3⟩ := after_vm hv hm h0 h1 ha
  obtain ⟨hf, he⟩ := fits_of hv hm h0 h1
  have hmem := List.mem_of_getElem? he
  refine ⟨a1, hmem, fun p p0 p1 => ?_⟩
  obtain ⟨v1, v2, v3, v4⟩ := validate_ok hv
  have hs := v4 _ hmem
  simp only [okStp, Bool.and_eq_true] at hs
  have e1 := allIn_len hm
  have e2 := allIn_len hs.1
  have e3 := allIn_len hs.2
  have hp : p.toNat < m.length := by omega
  have ht : p.toNat < (stepAt y s).take.length := by omega
  have hg : p.toNat < (stepAt y s).give.length := by omega
  have c1 := covers_at a3 hp ht
  have b1 := sg_bd (fun x hx => allIn_mem hs.1 x hx) ht
  have b2 := sg_bd (fun x hx => allIn_mem hs.2 x hx) hg
  refine ⟨by unfold tokAt; rw [if_pos (by omega)], ?_, ?_, b2.1, b1.1⟩
  · rw [a2]; unfold tokAt; rw [if_pos (by rw [moved_len]; omega), sg_moved hp]
  · simpa [sg, hp, ht] using c1
end Go.Ab.Try
