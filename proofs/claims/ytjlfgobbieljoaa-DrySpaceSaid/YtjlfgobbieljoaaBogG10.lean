/- Dry1, DryT, Ab25, Ab41. -/
import Derived.Test.YtjlfgobbieljoaaBogG09
import Derived.Test.YtjlfgobbieljoaaBogG08
import Derived.WalkKit
import Derived.ProofKit
import Derived.OpenShut
import Derived.JoinedCond
import Derived.Carry
import Derived.Deep.Strs
set_option linter.all false
set_option linter.all false
namespace Go.Ab.Try
open Go Go.Ab Go.Proofs
abbrev i64 (n : Int) : DV := .int .i64 n
abbrev ints (l : List Int) : DV := .list (l.map (DV.int .i64))
structure Stp where
  take : List Int
  give : List Int
structure Yd where
  places : Int
  steps : List Stp
abbrev dStp (s : Stp) : DV := .agg [ints s.take, ints s.give]
abbrev dYd (y : Yd) : DV := .agg [i64 y.places, .list (y.steps.map dStp)]
def within (n lo hi : Int) : Bool := decide (lo ≤ n) && decide (n ≤ hi)
def idxF {α : Type} (p : α → Bool) (l : List α) : Int := if l.any p then (l.findIdx p : Int) else -1
theorem idxF_at {α : Type} {p : α → Bool} {l : List α} {i : Nat} (h : i < l.length) (hp : p l[i] = true) (hb : ∀ j (hj : j < i), p (l[j]'(by omega)) = false) : idxF p l = i := by
  unfold idxF
  rw [if_pos (List.any_eq_true.2 ⟨l[i], List.getElem_mem h, hp⟩), (List.findIdx_eq h).2 ⟨hp, hb⟩]
theorem idxF_no {α : Type} {p : α → Bool} {l : List α} (h : ∀ j (hj : j < l.length), p l[j] = false) : idxF p l = -1 := by
  unfold idxF
  rw [if_neg]
  intro ha
  obtain ⟨x, hx, hpx⟩ := List.any_eq_true.1 ha
  obtain ⟨j, hj, rfl⟩ := List.getElem_of_mem hx
  rw [h j hj] at hpx
  cases hpx
theorem idxF_nonneg {α : Type} (p : α → Bool) (l : List α) : decide (0 ≤ idxF p l) = l.any p := by
  unfold idxF
  cases h : l.any p <;> simp
def allIn (l : List Int) (size lo hi : Int) : Bool := decide ((l.length : Int) = size) && l.all fun n => within n lo hi
theorem f70 (n lo hi : Int) : ACallsF Try.prog 70 [i64 n, i64 lo, i64 hi] (.one (.dv (.bool (within n lo hi)))) := by
  refine callsF_of Try.func70 rfl rfl (by rw [Try.ntmps70]; simp) fun cx hP hn hg => ?_
  rw [Try.ntmps70] at hn
  rw [startF_lk, none_mkM]
  simp only [zipSV, Nat.reduceAdd]
  refine awp_seq ?_
  refine awp_reg hg ?_
  refine c_val hP hn (by decide) trivial (e_assign (by simp only [St.look, St.ev, lk, mkM, blkOf, svOf, svOfCell, reduceIte, Nat.reduceAdd, Nat.reduceEqDiff, Nat.reduceMul]; rfl)) ?_
  show AWp cx _ _ _
  refine awp_seq ?_
  refine awp_reg hg ?_
  refine c_val hP hn (by decide) trivial (e_move (by simp only [St.look, St.ev, lk, mkM, blkOf, svOf, svOfCell, reduceIte, Nat.reduceAdd, Nat.reduceEqDiff, Nat.reduceMul]; rfl)) ?_
  refine c_val hP hn (by decide) trivial (e_move (by simp only [St.look, St.ev, lk, mkM, blkOf, svOf, svOfCell, reduceIte, Nat.reduceAdd, Nat.reduceEqDiff, Nat.reduceMul]; rfl)) ?_
  refine c_val hP hn (by decide) trivial (e_leq (by simp only [St.look, St.ev, lk, mkM, blkOf, svOf, svOfCell, reduceIte, Nat.reduceAdd, Nat.reduceEqDiff, Nat.reduceMul]; rfl) (by simp only [St.look, St.ev, lk, mkM, blkOf, svOf, svOfCell, reduceIte, Nat.reduceAdd, Nat.reduceEqDiff, Nat.reduceMul]; rfl)) ?_
  refine c_split hP hn (by decide) trivial (e_move (by simp only [St.look, St.ev, lk, mkM, blkOf, svOf, svOfCell, reduceIte, Nat.reduceAdd, Nat.reduceEqDiff, Nat.reduceMul]; rfl)) (fun hg10 => ?_) (fun hg10 => ?_)
  · try simp at hg10
    refine c_val hP hn (by decide) ⟨_, rfl, by simp only [lk, reduceIte, Nat.reduceEqDiff]⟩ (e_move (by simp only [St.look, St.ev, lk, mkM, blkOf, svOf, svOfCell, reduceIte, Nat.reduceAdd, Nat.reduceEqDiff, Nat.reduceMul]; rfl)) ?_
    refine c_val hP hn (by decide) ⟨_, rfl, by simp only [lk, reduceIte, Nat.reduceEqDiff]⟩ (e_move (by simp only [St.look, St.ev, lk, mkM, blkOf, svOf, svOfCell, reduceIte, Nat.reduceAdd, Nat.reduceEqDiff, Nat.reduceMul]; rfl)) ?_
    refine c_val hP hn (by decide) ⟨_, rfl, by simp only [lk, reduceIte, Nat.reduceEqDiff]⟩ (e_leq (by simp only [St.look, St.ev, lk, mkM, blkOf, svOf, svOfCell, reduceIte, Nat.reduceAdd, Nat.reduceEqDiff, Nat.reduceMul]; rfl) (by simp only [St.look, St.ev, lk, mkM, blkOf, svOf, svOfCell, reduceIte, Nat.reduceAdd, Nat.reduceEqDiff, Nat.reduceMul]; rfl)) ?_
    refine c_val hP hn (by decide) trivial (e_pick (by simp only [St.look, St.ev, lk, mkM, blkOf, svOf, svOfCell, reduceIte, Nat.reduceAdd, Nat.reduceEqDiff, Nat.reduceMul]; rfl) (by simp only [St.look, St.ev, lk, mkM, blkOf, svOf, svOfCell, reduceIte, Nat.reduceAdd, Nat.reduceEqDiff, Nat.reduceMul]; rfl) (by simp only [St.look, St.ev, lk, mkM, blkOf, svOf, svOfCell, reduceIte, Nat.reduceAdd, Nat.reduceEqDiff, Nat.reduceMul]; rfl) (by simp only [pickSV, cond_true, cond_false]; rfl)) ?_
    refine c_val hP hn (by decide) trivial (e_assign (by simp only [St.look, St.ev, lk, mkM, blkOf, svOf, svOfCell, reduceIte, Nat.reduceAdd, Nat.reduceEqDiff, Nat.reduceMul]; rfl)) ?_
    show AWp cx _ _ _
    refine awp_ret ?_
    exact end_dv (.inr rfl) (by simp [lk, within]; try omega) (.bool _)
  · try simp at hg10
    refine c_skip rfl (by simp only [lk, reduceIte, Nat.reduceEqDiff]; rfl) (by decide) ?_
    refine c_skip rfl (by simp only [lk, reduceIte, Nat.reduceEqDiff]; rfl) (by decide) ?_
    refine c_skip rfl (by simp only [lk, reduceIte, Nat.reduceEqDiff]; rfl) (by decide) ?_
    refine c_val hP hn (by decide) trivial (e_pick (by simp only [St.look, St.ev, lk, mkM, blkOf, svOf, svOfCell, reduceIte, Nat.reduceAdd, Nat.reduceEqDiff, Nat.reduceMul]; rfl) (by simp only [St.look, St.ev, lk, mkM, blkOf, svOf, svOfCell, reduceIte, Nat.reduceAdd, Nat.reduceEqDiff, Nat.reduceMul]; rfl) (by simp only [St.look, St.ev, lk, mkM, blkOf, svOf, svOfCell, reduceIte, Nat.reduceAdd, Nat.reduceEqDiff, Nat.reduceMul]; rfl) (by simp only [pickSV, cond_true, cond_false]; rfl)) ?_
    refine c_val hP hn (by decide) trivial (e_assign (by simp only [St.look, St.ev, lk, mkM, blkOf, svOf, svOfCell, reduceIte, Nat.reduceAdd, Nat.reduceEqDiff, Nat.reduceMul]; rfl)) ?_
    show AWp cx _ _ _
    refine awp_ret ?_
    exact end_dv (.inr rfl) (by simp [lk, within]; try omega) (.bool _)
theorem f72 (n lo hi : Int) : ACallsF Try.prog 72 [i64 n, i64 lo, i64 hi] (.one (.dv (.bool (within n lo hi)))) := by
  refine callsF_of Try.func72 rfl rfl (by rw [Try.ntmps72]; simp) fun cx hP hn hg => ?_
  rw [Try.ntmps72] at hn
  rw [startF_lk, none_mkM]
  simp only [zipSV, Nat.reduceAdd]
  refine awp_seq ?_
  refine awp_reg hg ?_
  refine c_val hP hn (by decide) trivial (e_assign (by simp only [St.look, St.ev, lk, mkM, blkOf, svOf, svOfCell, reduceIte, Nat.reduceAdd, Nat.reduceEqDiff, Nat.reduceMul]; rfl)) ?_
  show AWp cx _ _ _
  refine awp_seq ?_
  refine awp_reg hg ?_
  refine c_val hP hn (by decide) trivial (e_move (by simp only [St.look, St.ev, lk, mkM, blkOf, svOf, svOfCell, reduceIte, Nat.reduceAdd, Nat.reduceEqDiff, Nat.reduceMul]; rfl)) ?_
  refine c_val hP hn (by decide) trivial (e_move (by simp only [St.look, St.ev, lk, mkM, blkOf, svOf, svOfCell, reduceIte, Nat.reduceAdd, Nat.reduceEqDiff, Nat.reduceMul]; rfl)) ?_
  refine c_val hP hn (by decide) trivial (e_geq (by simp only [St.look, St.ev, lk, mkM, blkOf, svOf, svOfCell, reduceIte, Nat.reduceAdd, Nat.reduceEqDiff, Nat.reduceMul]; rfl) (by simp only [St.look, St.ev, lk, mkM, blkOf, svOf, svOfCell, reduceIte, Nat.reduceAdd, Nat.reduceEqDiff, Nat.reduceMul]; rfl)) ?_
  refine c_split hP hn (by decide) trivial (e_move (by simp only [St.look, St.ev, lk, mkM, blkOf, svOf, svOfCell, reduceIte, Nat.reduceAdd, Nat.reduceEqDiff, Nat.reduceMul]; rfl)) (fun hg10 => ?_) (fun hg10 => ?_)
  · try simp at hg10
    refine c_val hP hn (by decide) ⟨_, rfl, by simp only [lk, reduceIte, Nat.reduceEqDiff]⟩ (e_move (by simp only [St.look, St.ev, lk, mkM, blkOf, svOf, svOfCell, reduceIte, Nat.reduceAdd, Nat.reduceEqDiff, Nat.reduceMul]; rfl)) ?_
    refine c_val hP hn (by decide) ⟨_, rfl, by simp only [lk, reduceIte, Nat.reduceEqDiff]⟩ (e_move (by simp only [St.look, St.ev, lk, mkM, blkOf, svOf, svOfCell, reduceIte, Nat.reduceAdd, Nat.reduceEqDiff, Nat.reduceMul]; rfl)) ?_
    refine c_val hP hn (by decide) ⟨_, rfl, by simp only [lk, reduceIte, Nat.reduceEqDiff]⟩ (e_leq (by simp only [St.look, St.ev, lk, mkM, blkOf, svOf, svOfCell, reduceIte, Nat.reduceAdd, Nat.reduceEqDiff, Nat.reduceMul]; rfl) (by simp only [St.look, St.ev, lk, mkM, blkOf, svOf, svOfCell, reduceIte, Nat.reduceAdd, Nat.reduceEqDiff, Nat.reduceMul]; rfl)) ?_
    refine c_val hP hn (by decide) trivial (e_pick (by simp only [St.look, St.ev, lk, mkM, blkOf, svOf, svOfCell, reduceIte, Nat.reduceAdd, Nat.reduceEqDiff, Nat.reduceMul]; rfl) (by simp only [St.look, St.ev, lk, mkM, blkOf, svOf, svOfCell, reduceIte, Nat.reduceAdd, Nat.reduceEqDiff, Nat.reduceMul]; rfl) (by simp only [St.look, St.ev, lk, mkM, blkOf, svOf, svOfCell, reduceIte, Nat.reduceAdd, Nat.reduceEqDiff, Nat.reduceMul]; rfl) (by simp only [pickSV, cond_true, cond_false]; rfl)) ?_
    refine c_val hP hn (by decide) trivial (e_assign (by simp only [St.look, St.ev, lk, mkM, blkOf, svOf, svOfCell, reduceIte, Nat.reduceAdd, Nat.reduceEqDiff, Nat.reduceMul]; rfl)) ?_
    show AWp cx _ _ _
    refine awp_ret ?_
    exact end_dv (.inr rfl) (by simp [lk, within]; try omega) (.bool _)
  · try simp at hg10
    refine c_skip rfl (by simp only [lk, reduceIte, Nat.reduceEqDiff]; rfl) (by decide) ?_
    refine c_skip rfl (by simp only [lk, reduceIte, Nat.reduceEqDiff]; rfl) (by decide) ?_
    refine c_skip rfl (by simp only [lk, reduceIte, Nat.reduceEqDiff]; rfl) (by decide) ?_
    refine c_val hP hn (by decide) trivial (e_pick (by simp only [St.look, St.ev, lk, mkM, blkOf, svOf, svOfCell, reduceIte, Nat.reduceAdd, Nat.reduceEqDiff, Nat.reduceMul]; rfl) (by simp only [St.look, St.ev, lk, mkM, blkOf, svOf, svOfCell, reduceIte, Nat.reduceAdd, Nat.reduceEqDiff, Nat.reduceMul]; rfl) (by simp only [St.look, St.ev, lk, mkM, blkOf, svOf, svOfCell, reduceIte, Nat.reduceAdd, Nat.reduceEqDiff, Nat.reduceMul]; rfl) (by simp only [pickSV, cond_true, cond_false]; rfl)) ?_
    refine c_val hP hn (by decide) trivial (e_assign (by simp only [St.look, St.ev, lk, mkM, blkOf, svOf, svOfCell, reduceIte, Nat.reduceAdd, Nat.reduceEqDiff, Nat.reduceMul]; rfl)) ?_
    show AWp cx _ _ _
    refine awp_ret ?_
    exact end_dv (.inr rfl) (by simp [lk, within]; try omega) (.bool _)
theorem f99 (n lo hi : Int) : ACallsF Try.prog 99 [i64 n, .cptr [i64 lo], .cptr [i64 hi]] (.one (.dv (.bool !(within n lo hi)))) := by
  refine callsF_of Try.func99 rfl rfl (by rw [Try.ntmps99]; simp) fun cx hP hn hg => ?_
  rw [Try.ntmps99] at hn
  rw [startF_lk, none_mkM]
  simp only [zipSV, Nat.reduceAdd]
  refine awp_seq ?_
  refine awp_reg hg ?_
  refine c_val hP hn (by decide) trivial (e_assign (by simp only [St.look, St.ev, lk, mkM, blkOf, svOf, svOfCell, reduceIte, Nat.reduceAdd, Nat.reduceEqDiff, Nat.reduceMul]; rfl)) ?_
  show AWp cx _ _ _
  refine awp_seq ?_
  refine awp_reg hg ?_
  refine c_val hP hn (by decide) trivial (e_move (by simp only [St.look, St.ev, lk, mkM, blkOf, svOf, svOfCell, reduceIte, Nat.reduceAdd, Nat.reduceEqDiff, Nat.reduceMul]; rfl)) ?_
  refine c_val hP hn (by decide) trivial (by first | exact e_load (by simp only [St.look, St.ev, lk, mkM, blkOf, svOf, svOfCell, reduceIte, Nat.reduceAdd, Nat.reduceEqDiff, Nat.reduceMul]; rfl) sz3 ag3 (by rfl) | exact e_loadp (by simp only [St.look, St.ev, lk, mkM, blkOf, svOf, svOfCell, reduceIte, Nat.reduceAdd, Nat.reduceEqDiff, Nat.reduceMul]; rfl) sz3 ag3 (by first | rfl | assumption)) ?_
  refine c_val hP hn (by decide) trivial (by first | exact e_load (by simp only [St.look, St.ev, lk, mkM, blkOf, svOf, svOfCell, reduceIte, Nat.reduceAdd, Nat.reduceEqDiff, Nat.reduceMul]; rfl) sz3 ag3 (by rfl) | exact e_loadp (by simp only [St.look, St.ev, lk, mkM, blkOf, svOf, svOfCell, reduceIte, Nat.reduceAdd, Nat.reduceEqDiff, Nat.reduceMul]; rfl) sz3 ag3 (by first | rfl | assumption)) ?_
  refine c_callF hP hn (by decide) trivial (f70 n lo hi) (by simp only [List.map, St.look, St.ev, lk, mkM, blkOf, svOf, svOfCell, reduceIte, Nat.reduceAdd, Nat.reduceEqDiff, Nat.reduceMul]; rfl) (by repeat (first | exact args_nil | refine args_cons data_dv ?_)) (by first | exact res_one | exact res_two | exact res_three | exact res_row rfl | exact res_rowdv rfl | exact res_rowdvdv rfl) ?_
  refine c_val hP hn (by decide) trivial (e_not (by simp only [St.look, St.ev, lk, mkM, blkOf, svOf, svOfCell, reduceIte, Nat.reduceAdd, Nat.reduceEqDiff, Nat.reduceMul]; rfl)) ?_
  refine c_val hP hn (by decide) trivial (e_assign (by simp only [St.look, St.ev, lk, mkM, blkOf, svOf, svOfCell, reduceIte, Nat.reduceAdd, Nat.reduceEqDiff, Nat.reduceMul]; rfl)) ?_
  show AWp cx _ _ _
  refine awp_ret ?_
  exact end_dv (.inr rfl) (by simp [lk]) (.bool _)
theorem f106 (l : List Int) (f : FuncId) (pre caps : List DV) (p : Int → Bool) (hp : ∀ x ∈ l, ACallsF Try.prog f (pre ++ [i64 x] ++ caps) (.one (.dv (.bool (p x))))) (hl : l.length < 1000000) :
    ACallsF Try.prog 106 [.list (l.map (DV.int .i64)), .fn f pre caps] (.one (.dv (i64 (idxF p l)))) := by
  refine callsF_of Try.func106 rfl rfl (by rw [Try.ntmps106]; simp) fun cx hP hn hg => ?_
  rw [Try.ntmps106] at hn
  rw [startF_lk, none_mkM]
  simp only [zipSV, Nat.reduceAdd]
  refine awp_seq ?_
  refine awp_reg hg ?_
  refine c_val hP hn (by decide) trivial (e_assign (by simp only [St.look, St.ev, lk, mkM, blkOf, svOf, svOfCell, reduceIte, Nat.reduceAdd, Nat.reduceEqDiff, Nat.reduceMul]; rfl)) ?_
  show AWp cx _ _ _
  refine awp_seq ?_
  refine awp_seq ?_
  refine awp_reg hg ?_
  refine c_val hP hn (by decide) trivial (e_move (by simp only [St.look, St.ev, lk, mkM, blkOf, svOf, svOfCell, reduceIte, Nat.reduceAdd, Nat.reduceEqDiff, Nat.reduceMul]; rfl)) ?_
  refine c_val hP hn (by decide) trivial (by first | exact e_len (by simp only [St.look, St.ev, lk, mkM, blkOf, svOf, svOfCell, reduceIte, Nat.reduceAdd, Nat.reduceEqDiff, Nat.reduceMul]; rfl) il25 | exact e_lenR (by simp only [St.look, St.ev, lk, mkM, blkOf, svOf, svOfCell, reduceIte, Nat.reduceAdd, Nat.reduceEqDiff, Nat.reduceMul]; rfl) il25 | exact e_len0 (by simp only [St.look, St.ev, lk, mkM, blkOf, svOf, svOfCell, reduceIte, Nat.reduceAdd, Nat.reduceEqDiff, Nat.reduceMul]; rfl) il25) ?_
  refine c_val hP hn (by decide) trivial (e_move (by simp only [St.look, St.ev, lk, mkM, blkOf, svOf, svOfCell, reduceIte, Nat.reduceAdd, Nat.reduceEqDiff, Nat.reduceMul]; rfl)) ?_
  show AWp cx _ _ _
  refine awp_block ?_
  refine awp_loop (ι := Nat) (fun i => ⟨lk [(0, .dv (.list (l.map (DV.int .i64)))), (1, .dv (.fn f pre caps)), (7, .dv (i64 (l.length : Int))), (8, .dv (i64 (i : Nat)))], mkM []⟩) (fun i => i ≤ l.length ∧ ∀ j (hj : j < i) (h : j < l.length), p l[j] = false) (fun i => l.length - i) 0 ⟨Nat.zero_le _, fun j hj => absurd hj (Nat.not_lt_zero j)⟩ (Le.tell hg [] (by simp [FLe, svLe, lk, mkM, isLive, tauL]) (by simp [MLe, blkLe, svLe, svLes, lk, mkM, isLive, tauL]) (by decide)) ?_
  intro i hφ0
  refine awp_seq ?_
  refine awp_reg hg ?_
  refine c_val hP hn (by decide) trivial (e_lss (by simp only [St.look, St.ev, lk, mkM, blkOf, svOf, svOfCell, reduceIte, Nat.reduceAdd, Nat.reduceEqDiff, Nat.reduceMul]; rfl) (by simp only [St.look, St.ev, lk, mkM, blkOf, svOf, svOfCell, reduceIte, Nat.reduceAdd, Nat.reduceEqDiff, Nat.reduceMul]; rfl)) ?_
  show AWp cx _ _ _
  refine awp_seq ?_
  refine awp_cond (by simp only [St.look, St.ev, lk, mkM, blkOf, svOf, svOfCell, reduceIte, Nat.reduceAdd, Nat.reduceEqDiff, Nat.reduceMul]; rfl) (fun hc0 => ?_) (fun hc0 => ?_)
  · try simp at hc0
    refine awp_skip ?_
    show AWp cx _ _ _
    refine awp_seq ?_
    refine awp_block ?_
    refine awp_seq ?_
    refine awp_reg hg ?_
    refine c_val hP hn (by decide) trivial (e_move (by simp only [St.look, St.ev, lk, mkM, blkOf, svOf, svOfCell, reduceIte, Nat.reduceAdd, Nat.reduceEqDiff, Nat.reduceMul]; rfl)) ?_
    refine c_val hP hn (by decide) trivial (e_assign (by simp only [St.look, St.ev, lk, mkM, blkOf, svOf, svOfCell, reduceIte, Nat.reduceAdd, Nat.reduceEqDiff, Nat.reduceMul]; rfl)) ?_
    show AWp cx _ _ _
    refine awp_seq ?_
    refine awp_reg hg ?_
    have hi : i < l.length := by omega
    have hx : l[i]? = some l[i] := List.getElem?_eq_getElem hi
    refine c_val hP hn (by decide) trivial (e_move (by simp only [St.look, St.ev, lk, mkM, blkOf, svOf, svOfCell, reduceIte, Nat.reduceAdd, Nat.reduceEqDiff, Nat.reduceMul]; rfl)) ?_
    refine c_val hP hn (by decide) trivial (e_move (by simp only [St.look, St.ev, lk, mkM, blkOf, svOf, svOfCell, reduceIte, Nat.reduceAdd, Nat.reduceEqDiff, Nat.reduceMul]; rfl)) ?_
    refine c_val hP hn (by decide) trivial (e_move (by simp only [St.look, St.ev, lk, mkM, blkOf, svOf, svOfCell, reduceIte, Nat.reduceAdd, Nat.reduceEqDiff, Nat.reduceMul]; rfl)) ?_
    refine c_val hP hn (by decide) trivial (by first | exact e_indexN (by simp only [St.look, St.ev, lk, mkM, blkOf, svOf, svOfCell, reduceIte, Nat.reduceAdd, Nat.reduceEqDiff, Nat.reduceMul]; rfl) (by simp only [St.look, St.ev, lk, mkM, blkOf, svOf, svOfCell, reduceIte, Nat.reduceAdd, Nat.reduceEqDiff, Nat.reduceMul]; rfl) (by assumption) el25 (by exact sz3) | exact e_index (by simp only [St.look, St.ev, lk, mkM, blkOf, svOf, svOfCell, reduceIte, Nat.reduceAdd, Nat.reduceEqDiff, Nat.reduceMul]; rfl) (by simp only [St.look, St.ev, lk, mkM, blkOf, svOf, svOfCell, reduceIte, Nat.reduceAdd, Nat.reduceEqDiff, Nat.reduceMul]; rfl) (by omega) (by assumption) el25 (by exact sz3) | exact e_indexR (by simp only [St.look, St.ev, lk, mkM, blkOf, svOf, svOfCell, reduceIte, Nat.reduceAdd, Nat.reduceEqDiff, Nat.reduceMul]; rfl) (by simp only [St.look, St.ev, lk, mkM, blkOf, svOf, svOfCell, reduceIte, Nat.reduceAdd, Nat.reduceEqDiff, Nat.reduceMul]; rfl) (by omega) (by omega) el25 (by exact sz3) (by simp only [Int.toNat_natCast, Nat.zero_add, Nat.mul_one]; rfl)) ?_
    refine c_val hP hn (by decide) trivial (by first | exact e_load (by simp only [St.look, St.ev, lk, mkM, blkOf, svOf, svOfCell, reduceIte, Nat.reduceAdd, Nat.reduceEqDiff, Nat.reduceMul]; rfl) sz3 ag3 (by rfl) | exact e_loadp (by simp only [St.look, St.ev, lk, mkM, blkOf, svOf, svOfCell, reduceIte, Nat.reduceAdd, Nat.reduceEqDiff, Nat.reduceMul]; rfl) sz3 ag3 (by first | rfl | assumption)) ?_
    refine c_callVF hP hn (by decide) trivial (by first | (simp only [lk, reduceIte, Nat.reduceEqDiff]; done) | (simp only [lk, reduceIte, Nat.reduceEqDiff]; rfl)) (hp l[i] (List.getElem_mem hi)) (by simp only [List.map, St.look, St.ev, lk, mkM, blkOf, svOf, svOfCell, reduceIte, Nat.reduceAdd, Nat.reduceEqDiff, Nat.reduceMul]; rfl) (by repeat (first | exact args_nil | refine args_cons data_dv ?_)) (by first | exact res_one | exact res_two | exact res_three | exact res_row rfl | exact res_rowdv rfl | exact res_rowdvdv rfl) ?_
    show AWp cx _ _ _
    refine awp_cond (by simp only [St.look, St.ev, lk, mkM, blkOf, svOf, svOfCell, reduceIte, Nat.reduceAdd, Nat.reduceEqDiff, Nat.reduceMul]; rfl) (fun hc1 => ?_) (fun hc1 => ?_)
    · try simp at hc1
      refine awp_seq ?_
      refine awp_reg hg ?_
      refine c_val hP hn (by decide) trivial (e_move (by simp only [St.look, St.ev, lk, mkM, blkOf, svOf, svOfCell, reduceIte, Nat.reduceAdd, Nat.reduceEqDiff, Nat.reduceMul]; rfl)) ?_
      refine c_val hP hn (by decide) trivial (e_assign (by simp only [St.look, St.ev, lk, mkM, blkOf, svOf, svOfCell, reduceIte, Nat.reduceAdd, Nat.reduceEqDiff, Nat.reduceMul]; rfl)) ?_
      show AWp cx _ _ _
      refine awp_ret ?_
      rw [idxF_at hi (by simpa using hc1) (fun j hj => hφ0.2 j hj _)]
      exact end_dv (.inr rfl) (by simp [lk]) (.int _ _)
    · try simp at hc1
      refine awp_skip ?_
      show AWp cx _ _ _
      refine awp_reg hg ?_
      refine c_val hP hn (by decide) trivial (e_add (by simp only [St.look, St.ev, lk, mkM, blkOf, svOf, svOfCell, reduceIte, Nat.reduceAdd, Nat.reduceEqDiff, Nat.reduceMul]; rfl) (by simp only [St.look, St.ev, lk, mkM, blkOf, svOf, svOfCell, reduceIte, Nat.reduceAdd, Nat.reduceEqDiff, Nat.reduceMul]; rfl) (by omega) (by omega)) ?_
      refine c_val hP hn (by decide) trivial (e_move (by simp only [St.look, St.ev, lk, mkM, blkOf, svOf, svOfCell, reduceIte, Nat.reduceAdd, Nat.reduceEqDiff, Nat.reduceMul]; rfl)) ?_
      refine ⟨i + 1, ⟨hi, fun j hj h => ?_⟩, by simp only; omega, Le.tell hg [] (by simp [FLe, svLe, lk, mkM, isLive, tauL]) (by simp [MLe, blkLe, svLe, svLes, lk, mkM, isLive, tauL]) (by decide)⟩
      rcases Nat.lt_or_ge j i with h1 | h1
      · exact hφ0.2 j h1 h
      · obtain rfl : j = i := by omega
        simpa using hc1
  · try simp at hc0
    refine awp_exit ?_
    show AWp cx _ _ _
    refine awp_seq ?_
    refine awp_reg hg ?_
    refine c_val hP hn (by decide) trivial (e_assign (by simp only [St.look, St.ev, lk, mkM, blkOf, svOf, svOfCell, reduceIte, Nat.reduceAdd, Nat.reduceEqDiff, Nat.reduceMul]; rfl)) ?_
    show AWp cx _ _ _
    refine awp_ret ?_
    rw [idxF_no (fun j hj => hφ0.2 j (by omega) hj)]
    exact end_dv (.inr rfl) (by simp [lk]) (.int _ _)
theorem f84 (l : List Int) (f : FuncId) (pre caps : List DV) (p : Int → Bool) (hp : ∀ x ∈ l, ACallsF Try.prog f (pre ++ [i64 x] ++ caps) (.one (.dv (.bool (p x))))) (hl : l.length < 1000000) :
    ACallsF Try.prog 84 [.list (l.map (DV.int .i64)), .fn f pre caps] (.one (.dv (.bool (l.any p)))) := by
  refine callsF_of Try.func84 rfl rfl (by rw [Try.ntmps84]; simp) fun cx hP hn hg => ?_
  rw [Try.ntmps84] at hn
  rw [startF_lk, none_mkM]
  simp only [zipSV, Nat.reduceAdd]
  refine awp_seq ?_
  refine awp_reg hg ?_
  refine c_val hP hn (by decide) trivial (e_assign (by simp only [St.look, St.ev, lk, mkM, blkOf, svOf, svOfCell, reduceIte, Nat.reduceAdd, Nat.reduceEqDiff, Nat.reduceMul]; rfl)) ?_
  show AWp cx _ _ _
  refine awp_seq ?_
  refine awp_reg hg ?_
  refine c_val hP hn (by decide) trivial (e_move (by simp only [St.look, St.ev, lk, mkM, blkOf, svOf, svOfCell, reduceIte, Nat.reduceAdd, Nat.reduceEqDiff, Nat.reduceMul]; rfl)) ?_
  refine c_val hP hn (by decide) trivial (e_move (by simp only [St.look, St.ev, lk, mkM, blkOf, svOf, svOfCell, reduceIte, Nat.reduceAdd, Nat.reduceEqDiff, Nat.reduceMul]; rfl)) ?_
  refine c_callF hP hn (by decide) trivial (f106 l f pre caps p hp hl) (by simp only [List.map, St.look, St.ev, lk, mkM, blkOf, svOf, svOfCell, reduceIte, Nat.reduceAdd, Nat.reduceEqDiff, Nat.reduceMul]; rfl) (by repeat (first | exact args_nil | refine args_cons data_dv ?_)) (by first | exact res_one | exact res_two | exact res_three | exact res_row rfl | exact res_rowdv rfl | exact res_rowdvdv rfl) ?_
  refine c_val hP hn (by decide) trivial (e_geq (by simp only [St.look, St.ev, lk, mkM, blkOf, svOf, svOfCell, reduceIte, Nat.reduceAdd, Nat.reduceEqDiff, Nat.reduceMul]; rfl) (by simp only [St.look, St.ev, lk, mkM, blkOf, svOf, svOfCell, reduceIte, Nat.reduceAdd, Nat.reduceEqDiff, Nat.reduceMul]; rfl)) ?_
  refine c_val hP hn (by decide) trivial (e_assign (by simp only [St.look, St.ev, lk, mkM, blkOf, svOf, svOfCell, reduceIte, Nat.reduceAdd, Nat.reduceEqDiff, Nat.reduceMul]; rfl)) ?_
  show AWp cx _ _ _
  refine awp_ret ?_
  exact end_dv (.inr rfl) (by simp [lk, idxF_nonneg]) (.bool _)
theorem f71 (l : List Int) (size lo hi : Int) (hs : size < 1000000) : ACallsF Try.prog 71 [ints l, i64 size, i64 lo, i64 hi] (.one (.dv (.bool (allIn l size lo hi)))) := by
  refine callsF_of Try.func71 rfl rfl (by rw [Try.ntmps71]; simp) fun cx hP hn hg => ?_
  rw [Try.ntmps71] at hn
  rw [startF_lk, none_mkM]
  simp only [zipSV, Nat.reduceAdd]
  refine awp_seq ?_
  refine awp_reg hg ?_
  refine c_pt hP hn (by decide) trivial (e_box (by simp only [St.look, St.ev, lk, mkM, blkOf, svOf, svOfCell, reduceIte, Nat.reduceAdd, Nat.reduceEqDiff, Nat.reduceMul]; rfl) (by simp only [cellsSV, List.map]; rfl)) rfl (by simp only [mkM, reduceIte, Nat.reduceEqDiff]; rfl) ?_
  refine c_pt hP hn (by decide) trivial (e_box (by simp only [St.look, St.ev, lk, mkM, blkOf, svOf, svOfCell, reduceIte, Nat.reduceAdd, Nat.reduceEqDiff, Nat.reduceMul]; rfl) (by simp only [cellsSV, List.map]; rfl)) rfl (by simp only [mkM, reduceIte, Nat.reduceEqDiff]; rfl) ?_
  refine c_val hP hn (by decide) trivial (e_assign (by simp only [St.look, St.ev, lk, mkM, blkOf, svOf, svOfCell, reduceIte, Nat.reduceAdd, Nat.reduceEqDiff, Nat.reduceMul]; rfl)) ?_
  show AWp cx _ _ _
  refine awp_seq ?_
  refine awp_reg hg ?_
  refine c_val hP hn (by decide) trivial (e_move (by simp only [St.look, St.ev, lk, mkM, blkOf, svOf, svOfCell, reduceIte, Nat.reduceAdd, Nat.reduceEqDiff, Nat.reduceMul]; rfl)) ?_
  refine c_val hP hn (by decide) trivial (by first | exact e_len (by simp only [St.look, St.ev, lk, mkM, blkOf, svOf, svOfCell, reduceIte, Nat.reduceAdd, Nat.reduceEqDiff, Nat.reduceMul]; rfl) il25 | exact e_lenR (by simp only [St.look, St.ev, lk, mkM, blkOf, svOf, svOfCell, reduceIte, Nat.reduceAdd, Nat.reduceEqDiff, Nat.reduceMul]; rfl) il25 | exact e_len0 (by simp only [St.look, St.ev, lk, mkM, blkOf, svOf, svOfCell, reduceIte, Nat.reduceAdd, Nat.reduceEqDiff, Nat.reduceMul]; rfl) il25) ?_
  refine c_val hP hn (by decide) trivial (e_move (by simp only [St.look, St.ev, lk, mkM, blkOf, svOf, svOfCell, reduceIte, Nat.reduceAdd, Nat.reduceEqDiff, Nat.reduceMul]; rfl)) ?_
  refine c_val hP hn (by decide) trivial (e_eql (by simp only [St.look, St.ev, lk, mkM, blkOf, svOf, svOfCell, reduceIte, Nat.reduceAdd, Nat.reduceEqDiff, Nat.reduceMul]; rfl) (by simp only [St.look, St.ev, lk, mkM, blkOf, svOf, svOfCell, reduceIte, Nat.reduceAdd, Nat.reduceEqDiff, Nat.reduceMul]; rfl)) ?_
  refine c_split hP hn (by decide) trivial (e_move (by simp only [St.look, St.ev, lk, mkM, blkOf, svOf, svOfCell, reduceIte, Nat.reduceAdd, Nat.reduceEqDiff, Nat.reduceMul]; rfl)) (fun hg13 => ?_) (fun hg13 => ?_)
  · try simp at hg13
    refine c_val hP hn (by decide) ⟨_, rfl, by simp only [lk, reduceIte, Nat.reduceEqDiff]⟩ (e_move (by simp only [St.look, St.ev, lk, mkM, blkOf, svOf, svOfCell, reduceIte, Nat.reduceAdd, Nat.reduceEqDiff, Nat.reduceMul]; rfl)) ?_
    refine c_fn hP hn (by decide) ⟨_, rfl, by simp only [lk, reduceIte, Nat.reduceEqDiff]⟩ (by simp only [List.map, capsSV, capSV, St.look, St.ev, lk, mkM, blkOf, svOf, svOfCell, reduceIte, Nat.reduceAdd, Nat.reduceEqDiff, Nat.reduceMul]; rfl) (by simp only [List.map, capsSV, capSV, allDv, List.drop, Option.map_some, List.append_nil, List.nil_append, List.cons_append, St.look, St.ev, lk, mkM, blkOf, svOf, svOfCell, reduceIte, Nat.reduceAdd, Nat.reduceEqDiff, Nat.reduceMul]; rfl) (by rfl) ?_
    refine c_callF hP hn (by decide) ⟨_, rfl, by simp only [lk, reduceIte, Nat.reduceEqDiff]⟩ (f84 l 99 [] [.cptr [i64 lo], .cptr [i64 hi]] (fun n => !(within n lo hi)) (fun x _ => f99 x lo hi) (by omega)) (by simp only [List.map, St.look, St.ev, lk, mkM, blkOf, svOf, svOfCell, reduceIte, Nat.reduceAdd, Nat.reduceEqDiff, Nat.reduceMul]; rfl) (by repeat (first | exact args_nil | refine args_cons data_dv ?_)) (by first | exact res_one | exact res_two | exact res_three | exact res_row rfl | exact res_rowdv rfl | exact res_rowdvdv rfl) ?_
    refine c_val hP hn (by decide) ⟨_, rfl, by simp only [lk, reduceIte, Nat.reduceEqDiff]⟩ (e_not (by simp only [St.look, St.ev, lk, mkM, blkOf, svOf, svOfCell, reduceIte, Nat.reduceAdd, Nat.reduceEqDiff, Nat.reduceMul]; rfl)) ?_
    refine c_val hP hn (by decide) trivial (e_pick (by simp only [St.look, St.ev, lk, mkM, blkOf, svOf, svOfCell, reduceIte, Nat.reduceAdd, Nat.reduceEqDiff, Nat.reduceMul]; rfl) (by simp only [St.look, St.ev, lk, mkM, blkOf, svOf, svOfCell, reduceIte, Nat.reduceAdd, Nat.reduceEqDiff, Nat.reduceMul]; rfl) (by simp only [St.look, St.ev, lk, mkM, blkOf, svOf, svOfCell, reduceIte, Nat.reduceAdd, Nat.reduceEqDiff, Nat.reduceMul]; rfl) (by simp only [pickSV, cond_true, cond_false]; rfl)) ?_
    refine c_val hP hn (by decide) trivial (e_assign (by simp only [St.look, St.ev, lk, mkM, blkOf, svOf, svOfCell, reduceIte, Nat.reduceAdd, Nat.reduceEqDiff, Nat.reduceMul]; rfl)) ?_
    show AWp cx _ _ _
    refine awp_ret ?_
    exact end_dv (.inr rfl) (by simp [lk, allIn, hg13, ← List.not_all_eq_any_not]) (.bool _)
  · try simp at hg13
    refine c_skip rfl (by simp only [lk, reduceIte, Nat.reduceEqDiff]; rfl) (by decide) ?_
    refine c_skip rfl (by simp only [lk, reduceIte, Nat.reduceEqDiff]; rfl) (by decide) ?_
    refine c_skip rfl (by simp only [lk, reduceIte, Nat.reduceEqDiff]; rfl) (by decide) ?_
    refine c_skip rfl (by simp only [lk, reduceIte, Nat.reduceEqDiff]; rfl) (by decide) ?_
    refine c_val hP hn (by decide) trivial (e_pick (by simp only [St.look, St.ev, lk, mkM, blkOf, svOf, svOfCell, reduceIte, Nat.reduceAdd, Nat.reduceEqDiff, Nat.reduceMul]; rfl) (by simp only [St.look, St.ev, lk, mkM, blkOf, svOf, svOfCell, reduceIte, Nat.reduceAdd, Nat.reduceEqDiff, Nat.reduceMul]; rfl) (by simp only [St.look, St.ev, lk, mkM, blkOf, svOf, svOfCell, reduceIte, Nat.reduceAdd, Nat.reduceEqDiff, Nat.reduceMul]; rfl) (by simp only [pickSV, cond_true, cond_false]; rfl)) ?_
    refine c_val hP hn (by decide) trivial (e_assign (by simp only [St.look, St.ev, lk, mkM, blkOf, svOf, svOfCell, reduceIte, Nat.reduceAdd, Nat.reduceEqDiff, Nat.reduceMul]; rfl)) ?_
    show AWp cx _ _ _
    refine awp_ret ?_
    exact end_dv (.inr rfl) (by simp [lk, allIn, hg13, ← List.not_all_eq_any_not]) (.bool _)
end Go.Ab.Try
set_option linter.all false
namespace Go.Ab.Try
open Go Go.Ab Go.Proofs
structure Pr where
  m : List Int
  goal : List Int
structure Pl where
  counts : List Int
  most : Int
structure Mv where
  list : List Int
  weights : List Int
  set : List Int
end Go.Ab.Try
set_option linter.unusedVariables false
namespace Go.Ab
open Go.ChangeShapes Go.WideShapes Go.ChangeAt Go.RowKit
section
variable {H : Type} {enc : TypeId × Value → H} {P : Program} {w : World}
theorem trodAll_stays (hl : laidOutB P = true) {W W' : World} {sp' : Nat → Bool} : ∀ {ts : List TypeId} {vs : List Value} {ds : List (DataW H)} {ps : List MemPlace}, (∀ t ∈ ts, P.readableRec t = true ∧ t < P.types.size) →
    DataW.TrodAll enc P W 0 (fun _ => true) true ts vs ds ps → (∀ p ∈ ps, W.sameAt W' p) → (∀ p ∈ ps, sp' p.block = true) → DataW.TrodAll enc P W' 0 sp' true ts vs ds ps
  | [], _, _, _, _, h, _, _ => by obtain ⟨rfl, rfl, rfl⟩ := trodAll_nil h; exact trodAll_mk0
  | t :: ts, _, _, _, hr, h, hsame, hs => by
    obtain ⟨v, vs', d, ds', p, q, rfl, rfl, rfl, h0, r0⟩ := trodAll_cons h
    obtain ⟨h1, h2⟩ := hr t (by simp)
    exact trodAll_cons_mk (WideElems.Trod_stays hl h1 h2 h0 (fun x hx => hsame x (List.mem_append_left _ hx)) fun x hx => hs x (List.mem_append_left _ hx))
      (trodAll_stays hl (fun t ht => hr t (List.mem_cons_of_mem _ ht)) r0 (fun x hx => hsame x (List.mem_append_right _ hx)) fun x hx => hs x (List.mem_append_right _ hx))
theorem law_post {f : Func} {s : ChangeSpec} {apart fresh handsOn again : Bool} {W W' : World} {args : Array Value} {ds gs : List (DataW H)} {before : List MemPlace} {tb : TypeId}
    (hl : laidOutB P = true) (hr : ∀ t ∈ f.params.toList, P.readableRec t = true ∧ t < P.types.size) (hrt : f.resultTypes = #[tb]) (hb : P.underlying tb = some .bool) (hvars0 : s.vars = [])
    (hW : DataW.Whole enc P f.params.toList s.vars apart W args.toList ds gs before) (hres : (s.fn H (ds ++ gs)).results = [.lit (.bool true)]) (hargs : (s.fn H (ds ++ gs)).args = ds) (hvs : (s.fn H (ds ++ gs)).vars = [])
    (hbel : Below W.heap.size W W') : s.post enc P f apart fresh handsOn again W args (.bool true) W' := by
  have hW' := hW
  obtain ⟨p, q, hA, hV, rfl, hfz, hnd⟩ := hW
  rw [hvars0] at hV
  obtain ⟨rfl, rfl⟩ := trodVars_none hV
  rw [List.append_nil] at hW' hfz hnd hres hargs hvs
  have hlt : ∀ x ∈ p, x.block < W.heap.size := fun x hx => by simpa using hW'.lt x hx
  have hargs' : ∀ sp : Nat → Bool, (∀ x ∈ p, sp x.block = true) → DataW.TrodAll enc P W' 0 sp true f.params.toList args.toList ds p := fun sp hsp =>
    trodAll_stays hl hr hA (fun x hx => hbel.same (hlt x hx)) hsp
  have hres' : ∀ (b : Nat) (sp : Nat → Bool) (hd : Bool), DataW.TrodAll enc P W' b sp hd f.resultTypes.toList ((Value.bool true).resultList f.resultTypes.size) [.lit (.bool true)] [] := fun b sp hd => by
    rw [hrt]
    exact trodAll_cons_mk (shut_bool hb _) trodAll_mk0
  have hvars' : ∀ sp : Nat → Bool, DataW.TrodVars enc P W' sp s.vars (s.fn H ds).vars [] := fun sp => by rw [hvars0, hvs]; rfl
  refine ⟨ds, [], p, [], p, [], hW', by rw [List.append_nil, hres]; exact hres' _ _ _, ?_, ?_, World.keptBut_mono (fun x hx => ⟨hx, .inr (by simpa using hx)⟩) (hbel.frame _), fun _ => ?_⟩
  · rw [List.append_nil, hargs]; exact hargs' _ fun x hx => by simpa using hlt x hx
  · rw [List.append_nil]; exact hvars' _
  · refine ⟨ok_one hrt rfl (okWide_bool_mk hb _), _, _, ([] ++ p) ++ [], ⟨[] ++ p, [], trodAll_append (hargs' _ (fun _ _ => rfl)) (hres' _ _ _), hvars' _, rfl, ?_, ?_⟩, ?_⟩
    · intro b off hp
      have hp' : MemPlace.cell b off ∈ p := by simpa using hp
      rw [hbel.frozen (p := ⟨b, off, none⟩) (hlt _ hp')]
      exact hfz b off hp'
    · intro ha
      simpa using hnd ha
    · intro x hx _
      simpa using hx
end
def Opens {α H : Type} (enc : TypeId × Value → H) (P : Program) (W : World) (t : TypeId) (F : α → DV) : Prop :=
  ∀ (fuel : Nat) (cs : List Value) (x : DataW H × List MemPlace), DataW.trod enc P W 0 (fun _ => true) true fuel t cs = some x → ∃ a : α, cs.length = (F a).cells.length ∧ ∀ (j : Nat) c, (F a).cells[j]? = some c → ∃ u, cs[j]? = some u ∧ RepD W (fun _ => False) c u
section
variable {α β γ H : Type} {enc : TypeId × Value → H} {P : Program} {W : World} {t e : TypeId} {F : α → DV} {G : β → DV}
theorem opens_int {k : IntKind} (ht : P.underlying t = some (.int k)) : Opens enc P W t (fun n : Int => DV.int k n) := by
  intro fuel cs x h
  obtain ⟨n, rfl, _, _⟩ := DataW.trod_int ht h
  refine ⟨n, rfl, fun j c hj => ?_⟩
  cases j with
  | zero => simp only [DV.cells, List.getElem?_cons_zero, Option.some.injEq] at hj; subst hj; exact ⟨_, rfl, .int k n⟩
  | succ j => simp [DV.cells] at hj
theorem addr_add_add (a : Addr) (m n : Nat) : (a.add m).add n = a.add (m + n) := by
  obtain ⟨b, o, s⟩ := a
  unfold Addr.add
  by_cases hm : m = 0
  · subst hm; simp
  · by_cases hn : n = 0
    · subst hn; simp [hm]
    · simp [hm, hn, Nat.add_assoc]
theorem list_of {Q : Nat → α → Prop} : ∀ n : Nat, (∀ i, i < n → ∃ a, Q i a) → ∃ l : List α, l.length = n ∧ ∀ i a, l[i]? = some a → Q i a
  | 0, _ => ⟨[], rfl, fun i a h => by simp at h⟩
  | n + 1, h => by
    obtain ⟨l, h1, h2⟩ := list_of n fun i hi => h i (by omega)
    obtain ⟨a, ha⟩ := h n (by omega)
    refine ⟨l ++ [a], by simp [h1], fun i b hb => ?_⟩
    rcases Nat.lt_or_ge i l.length with hi | hi
    · rw [List.getElem?_append_left hi] at hb; exact h2 i b hb
    · rw [List.getElem?_append_right hi] at hb
      have : i - l.length = 0 := by have := (List.getElem?_eq_some_iff.1 hb).1; simp at this; omega
      rw [this] at hb
      simp only [List.getElem?_cons_zero, Option.some.injEq] at hb
      subst hb
      have : i = n := by omega
      subst this
      exact ha
theorem opens_list {sz : Nat} (ht : P.underlying t = some (.slice e)) (hc : P.cellsOf e = sz) (hpos : 0 < sz) (hF : ∀ a, (F a).cells.length = sz) (h0 : Opens enc P W e F) : Opens enc P W t (fun L : List α => .list (L.map F)) := by
  intro fuel cs x h
  rcases DataW.trod_slice ht h with ⟨rfl, _⟩ | ⟨a, len, cap, elems, rest, n, _, rfl, _, _, hl, _, hlen, hel, _, _⟩
  · refine ⟨[], rfl, fun j c hj => ?_⟩
    cases j with
    | zero => simp only [List.map_nil, DV.cells, List.getElem?_cons_zero, Option.some.injEq] at hj; subst hj; exact ⟨_, rfl, .listNil _ _⟩
    | succ j => simp [DV.cells] at hj
  · have each : ∀ i, i < len → ∃ q : α, ∀ (j : Nat) c, (F q).cells[j]? = some c → ∃ u, W.cell? (a.add (i * sz + j)) = some u ∧ RepD W (fun _ => False) c u := fun i hi => by
      have h1 := hel i hi
      have h2 : elems[i]? = some elems[i] := List.getElem?_eq_getElem (by omega)
      rw [h2, hc, Option.bind_eq_some_iff] at h1
      obtain ⟨cs, c1, c2⟩ := h1
      obtain ⟨_, hlc, hcell⟩ := World.cells?_some c1
      obtain ⟨q, q1, q2⟩ := h0 n cs _ c2
      refine ⟨q, fun j c hj => ?_⟩
      obtain ⟨u, u1, u2⟩ := q2 j c hj
      refine ⟨u, ?_, u2⟩
      have hj2 : j < sz := by have := (List.getElem?_eq_some_iff.1 u1).1; omega
      have := hcell j hj2
      rw [u1] at this
      rw [addr_add_add] at this
      exact this
    obtain ⟨L, hL, hLQ⟩ := list_of len each
    refine ⟨L, rfl, fun j c hj => ?_⟩
    cases j with
    | succ j => simp [DV.cells] at hj
    | zero =>
      simp only [DV.cells, List.getElem?_cons_zero, Option.some.injEq] at hj
      subst hj
      refine ⟨_, rfl, ?_⟩
      have hsz : ∀ d ∈ L.map F, d.cells.length = sz := fun d hd => by obtain ⟨q, _, rfl⟩ := List.mem_map.1 hd; exact hF q
      have hcells : ∀ j c, (flat (L.map F))[j]? = some c → ∃ u, W.cell? (a.add j) = some u ∧ RepD W (fun _ => False) c u := fun j c hj => by
        have hjl := (List.getElem?_eq_some_iff.1 hj).1
        rw [flat_len _ sz hsz, List.length_map] at hjl
        have hi : j / sz < L.length := by rw [Nat.div_lt_iff_lt_mul hpos]; exact hjl
        have hj' : j = j / sz * sz + j % sz := by rw [Nat.mul_comm]; exact (Nat.div_add_mod j sz).symm
        have hfg := flat_get (L.map F) sz hsz (j / sz) (by simpa using hi) (j % sz) (Nat.mod_lt _ hpos)
        rw [← hj', hj, List.getElem_map] at hfg
        obtain ⟨u, u1, u2⟩ := hLQ (j / sz) _ (List.getElem?_eq_getElem hi) (j % sz) c hfg.symm
        rw [← hj'] at u1
        exact ⟨u, u1, u2⟩
      cases L with
      | nil =>
        have : len = 0 := by simpa using hL.symm
        subst this
        exact .listNil _ _
      | cons q L =>
        have hfl : 0 < (flat ((q :: L).map F)).length := by
          rw [flat_len _ sz hsz]
          simp only [List.length_map, List.length_cons]
          exact Nat.mul_pos (Nat.succ_pos _) hpos
        obtain ⟨u0, hu0, _⟩ := hcells 0 _ (List.getElem?_eq_getElem hfl)
        obtain ⟨b, o, spot⟩ := a
        have hspot : spot = none := by simpa [Addr.add] using World.cell?_spot hu0
        subst hspot
        have hb : b < W.heap.size := by
          rw [add_plain] at hu0
          unfold World.cell? at hu0
          cases hh : W.heap[b]? with
          | none => rw [hh] at hu0; simp at hu0
          | some ob => exact (Array.getElem?_eq_some_iff.1 hh).1
        have hlen2 : len = ((q :: L).map F).length := by rw [List.length_map]; exact hL.symm
        rw [hlen2]
        refine .list _ b o cap sz (fun j => (W.cell? ⟨b, o + j, none⟩).getD undef) (fun h => h) hb (by omega) hsz (fun j c hj => ?_) fun j c hj => ?_
        · obtain ⟨u, u1, _⟩ := hcells j c hj
          rw [add_plain] at u1
          rw [u1]; rfl
        · obtain ⟨u, u1, u2⟩ := hcells j c hj
          rw [add_plain] at u1
          rw [u1]; exact u2
theorem Opens.conv (h : Opens enc P W t F) (hc : ∀ a, ∃ b, G b = F a) : Opens enc P W t G := fun fuel cs x hx => by
  obtain ⟨a, h1, h2⟩ := h fuel cs x hx
  obtain ⟨b, hb⟩ := hc a
  exact ⟨b, by rw [hb]; exact h1, by rw [hb]; exact h2⟩
theorem opens_two {f0 f1 : Field} (ht : P.underlying t = some (.struct #[f0, f1])) (o0 : f0.offset = 0) (o1 : f1.offset = P.cellsOf f0.type) (hn : P.cellsOf t = P.cellsOf f0.type + P.cellsOf f1.type)
    (h0 : Opens enc P W f0.type F) (h1 : Opens enc P W f1.type G) : Opens enc P W t (fun p : α × β => .agg ((F p.1).cells ++ (G p.2).cells)) := by
  intro fuel cs x h
  obtain ⟨y0, y1, n, _, hl, r0, r1⟩ := trod_struct2 ht h
  obtain ⟨a, a1, a2⟩ := h0 _ _ _ r0
  obtain ⟨b, b1, b2⟩ := h1 _ _ _ r1
  rw [o0, List.drop_zero, List.length_take] at a1
  rw [o1, List.length_take, List.length_drop] at b1
  have ha : (F a).cells.length = P.cellsOf f0.type := by omega
  refine ⟨(a, b), by show cs.length = ((F a).cells ++ (G b).cells).length; rw [List.length_append]; omega, fun j c hj => ?_⟩
  replace hj : ((F a).cells ++ (G b).cells)[j]? = some c := hj
  rcases Nat.lt_or_ge j (F a).cells.length with hlt | hge
  · rw [List.getElem?_append_left hlt] at hj
    obtain ⟨u, u1, u2⟩ := a2 j c hj
    rw [o0, List.drop_zero, List.getElem?_take] at u1
    split at u1
    · exact ⟨u, u1, u2⟩
    · cases u1
  · rw [List.getElem?_append_right hge] at hj
    obtain ⟨u, u1, u2⟩ := b2 _ c hj
    rw [o1, List.getElem?_take] at u1
    split at u1
    · rw [List.getElem?_drop] at u1
      exact ⟨u, by rw [← u1]; congr 1; omega, u2⟩
    · cases u1
theorem arg_agg {cells : α → List DV} (hagg : ∀ a, F a = .agg (cells a)) (h : Opens enc P W t F) {vs : Array Value} {d : DataW H} {ps : List MemPlace} (hd : DataW.Trod enc P W 0 (fun _ => true) true t (.agg vs) d ps) : ∃ a, RepD W (fun _ => False) (F a) (.agg vs) := by
  obtain ⟨fuel, hf⟩ := hd
  obtain ⟨a, h1, h2⟩ := h fuel _ _ hf
  refine ⟨a, ?_⟩
  rw [hagg] at h1 h2 ⊢
  simp only [DV.cells, Value.cells] at h1 h2
  refine .agg _ _ (by simpa using h1) fun j c hj => ?_
  obtain ⟨u, u1, u2⟩ := h2 j c hj
  have : vs.getD j undef = u := by
    simp only [Array.getElem?_toList] at u1
    simp [u1]
  rw [this]
  exact u2
end
end Go.Ab
set_option linter.all false
namespace Go.Ab
open Go.ChangeShapes Go.WideShapes Go.ChangeAt Go.RowKit
variable {H : Type} {enc : TypeId × Value → H} {P : Program} {W : World} {t : TypeId} {α β γ : Type} {F : α → DV} {G : β → DV} {E : γ → DV}
end Go.Ab
