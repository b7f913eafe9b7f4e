/- Way4. -/
import Derived.Test.YtjlfgobbieljoaaDoorBogG12
set_option linter.all false
set_option linter.all false
namespace Go.Ab.Tryd
open Go Go.Ab Go.Proofs
def moved (s : Stp) (m : List Int) : List Int := (List.range m.length).map fun p => m.getD p 0 + (s.give.getD p 0 - s.take.getD p 0)
@[simp] theorem moved_len (s : Stp) (m : List Int) : (moved s m).length = m.length := by simp [moved]
def afterR (s : Stp) (m : List Int) : List Int × Int := if !covers m s.take then ([], 6) else if (moved s m).all (fun n => decide (n ≤ 50)) then (moved s m, 0) else ([], 3)
theorem moved_at {s : Stp} {m : List Int} {p : Nat} (h : p < m.length) (ht : p < s.take.length) (hg : p < s.give.length) : (moved s m)[p]'(by simpa using h) = m[p] + (s.give[p] - s.take[p]) := by
  simp [moved, h, ht, hg]
theorem moved_take {s : Stp} {m : List Int} {p : Nat} (h : p < m.length) (ht : p < s.take.length) (hg : p < s.give.length) : (moved s m).take (p + 1) = (moved s m).take p ++ [m[p] + (s.give[p] - s.take[p])] := by
  rw [← moved_at h ht hg, List.take_append_getElem]
def small (l : List Int) : Prop := ∀ x ∈ l, -1000 ≤ x ∧ x ≤ 1000
theorem small_at {l : List Int} (h : small l) {i : Nat} (hi : i < l.length) : -1000 ≤ l[i] ∧ l[i] ≤ 1000 := h _ (List.getElem_mem hi)
structure Fits (s : Stp) (m : List Int) : Prop where
  take : s.take.length = m.length
  give : s.give.length = m.length
  st : small s.take
  sg : small s.give
  sm : small m
  len : m.length < 1000
theorem eqb {a b : List Int} (hl : a.length = b.length) (h : ∀ j (h1 : j < a.length) (h2 : j < b.length), a[j] = b[j]) : a = b := List.ext_getElem hl h
theorem neb {a b : List Int} {j : Nat} (h1 : j < a.length) (h2 : j < b.length) (h : a[j] ≠ b[j]) : a ≠ b := fun e => h (by subst e; rfl)
theorem f11 (a b : List Int) (h : a.length < 1000000) : ACallsF Tryd.prog 11 [ints a, ints b] (.one (.dv (.bool (decide (a = b))))) := by
  refine callsF_of Tryd.func11 rfl rfl (by rw [Tryd.ntmps11]; simp) fun cx hP hn hg => ?_
  rw [Tryd.ntmps11] at hn
  rw [startF_lk, none_mkM]
  simp only [zipSV, Nat.reduceAdd]
  refine awp_seq ?_
  refine awp_reg hg ?_
  refine c_val hP hn (by decide) trivial (e_assign (by simp only [St.look, St.ev, lk, mkM, blkOf, svOf, svOfCell, reduceIte, Nat.reduceAdd, Nat.reduceEqDiff, Nat.reduceMul]; rfl)) ?_
  show AWp cx _ _ _
  refine awp_seq ?_
  refine awp_seq ?_
  refine awp_reg hg ?_
  refine c_val hP hn (by decide) trivial (e_move (by simp only [St.look, St.ev, lk, mkM, blkOf, svOf, svOfCell, reduceIte, Nat.reduceAdd, Nat.reduceEqDiff, Nat.reduceMul]; rfl)) ?_
  refine c_val hP hn (by decide) trivial (by first | exact e_len (by simp only [St.look, St.ev, lk, mkM, blkOf, svOf, svOfCell, reduceIte, Nat.reduceAdd, Nat.reduceEqDiff, Nat.reduceMul]; rfl) il25 | exact e_lenR (by simp only [St.look, St.ev, lk, mkM, blkOf, svOf, svOfCell, reduceIte, Nat.reduceAdd, Nat.reduceEqDiff, Nat.reduceMul]; rfl) il25 | exact e_len0 (by simp only [St.look, St.ev, lk, mkM, blkOf, svOf, svOfCell, reduceIte, Nat.reduceAdd, Nat.reduceEqDiff, Nat.reduceMul]; rfl) il25) ?_
  refine c_val hP hn (by decide) trivial (e_move (by simp only [St.look, St.ev, lk, mkM, blkOf, svOf, svOfCell, reduceIte, Nat.reduceAdd, Nat.reduceEqDiff, Nat.reduceMul]; rfl)) ?_
  refine c_val hP hn (by decide) trivial (by first | exact e_len (by simp only [St.look, St.ev, lk, mkM, blkOf, svOf, svOfCell, reduceIte, Nat.reduceAdd, Nat.reduceEqDiff, Nat.reduceMul]; rfl) il25 | exact e_lenR (by simp only [St.look, St.ev, lk, mkM, blkOf, svOf, svOfCell, reduceIte, Nat.reduceAdd, Nat.reduceEqDiff, Nat.reduceMul]; rfl) il25 | exact e_len0 (by simp only [St.look, St.ev, lk, mkM, blkOf, svOf, svOfCell, reduceIte, Nat.reduceAdd, Nat.reduceEqDiff, Nat.reduceMul]; rfl) il25) ?_
  refine c_val hP hn (by decide) trivial (e_neq (by simp only [St.look, St.ev, lk, mkM, blkOf, svOf, svOfCell, reduceIte, Nat.reduceAdd, Nat.reduceEqDiff, Nat.reduceMul]; rfl) (by simp only [St.look, St.ev, lk, mkM, blkOf, svOf, svOfCell, reduceIte, Nat.reduceAdd, Nat.reduceEqDiff, Nat.reduceMul]; rfl)) ?_
  show AWp cx _ _ _
  refine awp_cond (by simp only [St.look, St.ev, lk, mkM, blkOf, svOf, svOfCell, reduceIte, Nat.reduceAdd, Nat.reduceEqDiff, Nat.reduceMul]; rfl) (fun hc0 => ?_) (fun hc0 => ?_)
  · try simp at hc0
    refine awp_seq ?_
    refine awp_reg hg ?_
    refine c_val hP hn (by decide) trivial (e_assign (by simp only [St.look, St.ev, lk, mkM, blkOf, svOf, svOfCell, reduceIte, Nat.reduceAdd, Nat.reduceEqDiff, Nat.reduceMul]; rfl)) ?_
    show AWp cx _ _ _
    refine awp_ret ?_
    rw [decide_eq_false (p := a = b) (fun e => by subst e; simp at hc0)]
    exact end_dv (.inr rfl) (by simp [lk]) (.bool _)
  · try simp at hc0
    refine awp_skip ?_
    show AWp cx _ _ _
    refine awp_seq ?_
    refine awp_seq ?_
    refine awp_reg hg ?_
    refine c_val hP hn (by decide) trivial (e_assign (by simp only [St.look, St.ev, lk, mkM, blkOf, svOf, svOfCell, reduceIte, Nat.reduceAdd, Nat.reduceEqDiff, Nat.reduceMul]; rfl)) ?_
    show AWp cx _ _ _
    refine awp_block ?_
    refine awp_loop (ι := Nat) (fun i => ⟨lk [(0, .dv (ints a)), (1, .dv (ints b)), (5, .dv (i64 (i : Nat)))], mkM []⟩) (fun i => i ≤ a.length ∧ ∀ j (hj : j < i) (h : j < a.length) (h2 : j < b.length), a[j] = b[j]) (fun i => a.length - i) 0 ⟨Nat.zero_le _, fun j hj => absurd hj (Nat.not_lt_zero j)⟩ (Le.tell hg [] (by simp [FLe, svLe, lk, mkM, isLive, tauL]) (by simp [MLe, blkLe, svLe, svLes, lk, mkM, isLive, tauL, svLes_ints, svLes_self, isDvs, isDvs_map, isDvs_app, isDvs_take, isDvs_set, isDvs_repl]) (by decide)) ?_
    intro i hφ0
    refine awp_seq ?_
    refine awp_seq ?_
    refine awp_reg hg ?_
    refine c_val hP hn (by decide) trivial (e_move (by simp only [St.look, St.ev, lk, mkM, blkOf, svOf, svOfCell, reduceIte, Nat.reduceAdd, Nat.reduceEqDiff, Nat.reduceMul]; rfl)) ?_
    refine c_val hP hn (by decide) trivial (e_move (by simp only [St.look, St.ev, lk, mkM, blkOf, svOf, svOfCell, reduceIte, Nat.reduceAdd, Nat.reduceEqDiff, Nat.reduceMul]; rfl)) ?_
    refine c_val hP hn (by decide) trivial (by first | exact e_len (by simp only [St.look, St.ev, lk, mkM, blkOf, svOf, svOfCell, reduceIte, Nat.reduceAdd, Nat.reduceEqDiff, Nat.reduceMul]; rfl) il25 | exact e_lenR (by simp only [St.look, St.ev, lk, mkM, blkOf, svOf, svOfCell, reduceIte, Nat.reduceAdd, Nat.reduceEqDiff, Nat.reduceMul]; rfl) il25 | exact e_len0 (by simp only [St.look, St.ev, lk, mkM, blkOf, svOf, svOfCell, reduceIte, Nat.reduceAdd, Nat.reduceEqDiff, Nat.reduceMul]; rfl) il25) ?_
    refine c_val hP hn (by decide) trivial (e_lss (by simp only [St.look, St.ev, lk, mkM, blkOf, svOf, svOfCell, reduceIte, Nat.reduceAdd, Nat.reduceEqDiff, Nat.reduceMul]; rfl) (by simp only [St.look, St.ev, lk, mkM, blkOf, svOf, svOfCell, reduceIte, Nat.reduceAdd, Nat.reduceEqDiff, Nat.reduceMul]; rfl)) ?_
    show AWp cx _ _ _
    refine awp_cond (by simp only [St.look, St.ev, lk, mkM, blkOf, svOf, svOfCell, reduceIte, Nat.reduceAdd, Nat.reduceEqDiff, Nat.reduceMul]; rfl) (fun hc1 => ?_) (fun hc1 => ?_)
    · try simp at hc1
      refine awp_skip ?_
      show AWp cx _ _ _
      refine awp_seq ?_
      refine awp_block ?_
      refine awp_seq ?_
      refine awp_drw hg hP mixed (by decide) ?_
      have hin : i < a.length := by omega
      have hx : a[i]? = some a[i] := List.getElem?_eq_getElem hin
      have hib : i < b.length := by omega
      have hxb : b[i]? = some b[i] := List.getElem?_eq_getElem hib
      refine d_val hP hn (by decide) trivial (e_move (by simp only [St.look, St.ev, lk, mkM, blkOf, svOf, svOfCell, reduceIte, Nat.reduceAdd, Nat.reduceEqDiff, Nat.reduceMul]; rfl)) (by simp only [opTags, deref, svTag, List.flatMap_cons, List.flatMap_nil, St.look, St.ev, lk, mkM, blkOf, svOf, svOfCell, reduceIte, Nat.reduceAdd, Nat.reduceEqDiff, Nat.reduceMul]; rfl) ?_
      refine d_val hP hn (by decide) trivial (e_move (by simp only [St.look, St.ev, lk, mkM, blkOf, svOf, svOfCell, reduceIte, Nat.reduceAdd, Nat.reduceEqDiff, Nat.reduceMul]; rfl)) (by simp only [opTags, deref, svTag, List.flatMap_cons, List.flatMap_nil, St.look, St.ev, lk, mkM, blkOf, svOf, svOfCell, reduceIte, Nat.reduceAdd, Nat.reduceEqDiff, Nat.reduceMul]; rfl) ?_
      refine d_val hP hn (by decide) trivial (by first | exact e_indexN (by simp only [St.look, St.ev, lk, mkM, blkOf, svOf, svOfCell, reduceIte, Nat.reduceAdd, Nat.reduceEqDiff, Nat.reduceMul]; rfl) (by simp only [St.look, St.ev, lk, mkM, blkOf, svOf, svOfCell, reduceIte, Nat.reduceAdd, Nat.reduceEqDiff, Nat.reduceMul]; rfl) (by assumption) el25 (by exact sz3) | exact e_index (by simp only [St.look, St.ev, lk, mkM, blkOf, svOf, svOfCell, reduceIte, Nat.reduceAdd, Nat.reduceEqDiff, Nat.reduceMul]; rfl) (by simp only [St.look, St.ev, lk, mkM, blkOf, svOf, svOfCell, reduceIte, Nat.reduceAdd, Nat.reduceEqDiff, Nat.reduceMul]; rfl) (by omega) (by assumption) el25 (by exact sz3) | exact e_indexR (by simp only [St.look, St.ev, lk, mkM, blkOf, svOf, svOfCell, reduceIte, Nat.reduceAdd, Nat.reduceEqDiff, Nat.reduceMul]; rfl) (by simp only [St.look, St.ev, lk, mkM, blkOf, svOf, svOfCell, reduceIte, Nat.reduceAdd, Nat.reduceEqDiff, Nat.reduceMul]; rfl) (by omega) (by omega) el25 (by exact sz3) (by simp only [Int.toNat_natCast, Nat.zero_add, Nat.mul_one]; rfl)) (by simp only [opTags, deref, svTag, List.flatMap_cons, List.flatMap_nil, St.look, St.ev, lk, mkM, blkOf, svOf, svOfCell, reduceIte, Nat.reduceAdd, Nat.reduceEqDiff, Nat.reduceMul]; rfl) ?_
      refine d_val hP hn (by decide) trivial (by first | exact e_load (by simp only [St.look, St.ev, lk, mkM, blkOf, svOf, svOfCell, reduceIte, Nat.reduceAdd, Nat.reduceEqDiff, Nat.reduceMul]; rfl) sz3 ag3 (by rfl) | exact e_loadp (by simp only [St.look, St.ev, lk, mkM, blkOf, svOf, svOfCell, reduceIte, Nat.reduceAdd, Nat.reduceEqDiff, Nat.reduceMul]; rfl) sz3 ag3 (by first | rfl | assumption)) (by simp only [opTags, deref, svTag, List.flatMap_cons, List.flatMap_nil, St.look, St.ev, lk, mkM, blkOf, svOf, svOfCell, reduceIte, Nat.reduceAdd, Nat.reduceEqDiff, Nat.reduceMul]; rfl) ?_
      refine d_val hP hn (by decide) trivial (e_move (by simp only [St.look, St.ev, lk, mkM, blkOf, svOf, svOfCell, reduceIte, Nat.reduceAdd, Nat.reduceEqDiff, Nat.reduceMul]; rfl)) (by simp only [opTags, deref, svTag, List.flatMap_cons, List.flatMap_nil, St.look, St.ev, lk, mkM, blkOf, svOf, svOfCell, reduceIte, Nat.reduceAdd, Nat.reduceEqDiff, Nat.reduceMul]; rfl) ?_
      refine d_val hP hn (by decide) trivial (e_move (by simp only [St.look, St.ev, lk, mkM, blkOf, svOf, svOfCell, reduceIte, Nat.reduceAdd, Nat.reduceEqDiff, Nat.reduceMul]; rfl)) (by simp only [opTags, deref, svTag, List.flatMap_cons, List.flatMap_nil, St.look, St.ev, lk, mkM, blkOf, svOf, svOfCell, reduceIte, Nat.reduceAdd, Nat.reduceEqDiff, Nat.reduceMul]; rfl) ?_
      refine d_val hP hn (by decide) trivial (by first | exact e_indexN (by simp only [St.look, St.ev, lk, mkM, blkOf, svOf, svOfCell, reduceIte, Nat.reduceAdd, Nat.reduceEqDiff, Nat.reduceMul]; rfl) (by simp only [St.look, St.ev, lk, mkM, blkOf, svOf, svOfCell, reduceIte, Nat.reduceAdd, Nat.reduceEqDiff, Nat.reduceMul]; rfl) (by assumption) el25 (by exact sz3) | exact e_index (by simp only [St.look, St.ev, lk, mkM, blkOf, svOf, svOfCell, reduceIte, Nat.reduceAdd, Nat.reduceEqDiff, Nat.reduceMul]; rfl) (by simp only [St.look, St.ev, lk, mkM, blkOf, svOf, svOfCell, reduceIte, Nat.reduceAdd, Nat.reduceEqDiff, Nat.reduceMul]; rfl) (by omega) (by assumption) el25 (by exact sz3) | exact e_indexR (by simp only [St.look, St.ev, lk, mkM, blkOf, svOf, svOfCell, reduceIte, Nat.reduceAdd, Nat.reduceEqDiff, Nat.reduceMul]; rfl) (by simp only [St.look, St.ev, lk, mkM, blkOf, svOf, svOfCell, reduceIte, Nat.reduceAdd, Nat.reduceEqDiff, Nat.reduceMul]; rfl) (by omega) (by omega) el25 (by exact sz3) (by simp only [Int.toNat_natCast, Nat.zero_add, Nat.mul_one]; rfl)) (by simp only [opTags, deref, svTag, List.flatMap_cons, List.flatMap_nil, St.look, St.ev, lk, mkM, blkOf, svOf, svOfCell, reduceIte, Nat.reduceAdd, Nat.reduceEqDiff, Nat.reduceMul]; rfl) ?_
      refine d_val hP hn (by decide) trivial (by first | exact e_load (by simp only [St.look, St.ev, lk, mkM, blkOf, svOf, svOfCell, reduceIte, Nat.reduceAdd, Nat.reduceEqDiff, Nat.reduceMul]; rfl) sz3 ag3 (by rfl) | exact e_loadp (by simp only [St.look, St.ev, lk, mkM, blkOf, svOf, svOfCell, reduceIte, Nat.reduceAdd, Nat.reduceEqDiff, Nat.reduceMul]; rfl) sz3 ag3 (by first | rfl | assumption)) (by simp only [opTags, deref, svTag, List.flatMap_cons, List.flatMap_nil, St.look, St.ev, lk, mkM, blkOf, svOf, svOfCell, reduceIte, Nat.reduceAdd, Nat.reduceEqDiff, Nat.reduceMul]; rfl) ?_
      refine d_val hP hn (by decide) trivial (e_neq (by simp only [St.look, St.ev, lk, mkM, blkOf, svOf, svOfCell, reduceIte, Nat.reduceAdd, Nat.reduceEqDiff, Nat.reduceMul]; rfl) (by simp only [St.look, St.ev, lk, mkM, blkOf, svOf, svOfCell, reduceIte, Nat.reduceAdd, Nat.reduceEqDiff, Nat.reduceMul]; rfl)) (by simp only [opTags, deref, svTag, List.flatMap_cons, List.flatMap_nil, St.look, St.ev, lk, mkM, blkOf, svOf, svOfCell, reduceIte, Nat.reduceAdd, Nat.reduceEqDiff, Nat.reduceMul]; rfl) ?_
      refine ⟨by rfl, ?_⟩
      show AWp cx _ _ _
      refine awp_cond (by simp only [St.look, St.ev, lk, mkM, blkOf, svOf, svOfCell, reduceIte, Nat.reduceAdd, Nat.reduceEqDiff, Nat.reduceMul]; rfl) (fun hc2 => ?_) (fun hc2 => ?_)
      · try simp at hc2
        refine awp_seq ?_
        refine awp_reg hg ?_
        refine c_val hP hn (by decide) trivial (e_assign (by simp only [St.look, St.ev, lk, mkM, blkOf, svOf, svOfCell, reduceIte, Nat.reduceAdd, Nat.reduceEqDiff, Nat.reduceMul]; rfl)) ?_
        show AWp cx _ _ _
        refine awp_ret ?_
        rw [decide_eq_false (neb hin hib hc2)]
        exact end_dv (.inr rfl) (by simp [lk]) (.bool _)
      · try simp at hc2
        refine awp_skip ?_
        show AWp cx _ _ _
        refine awp_reg hg ?_
        refine c_val hP hn (by decide) trivial (e_move (by simp only [St.look, St.ev, lk, mkM, blkOf, svOf, svOfCell, reduceIte, Nat.reduceAdd, Nat.reduceEqDiff, Nat.reduceMul]; rfl)) ?_
        refine c_val hP hn (by decide) trivial (e_add (by simp only [St.look, St.ev, lk, mkM, blkOf, svOf, svOfCell, reduceIte, Nat.reduceAdd, Nat.reduceEqDiff, Nat.reduceMul]; rfl) (by simp only [St.look, St.ev, lk, mkM, blkOf, svOf, svOfCell, reduceIte, Nat.reduceAdd, Nat.reduceEqDiff, Nat.reduceMul]; rfl) (by omega) (by omega)) ?_
        refine c_val hP hn (by decide) trivial (e_assign (by simp only [St.look, St.ev, lk, mkM, blkOf, svOf, svOfCell, reduceIte, Nat.reduceAdd, Nat.reduceEqDiff, Nat.reduceMul]; rfl)) ?_
        refine ⟨i + 1, ⟨hin, fun j hj h h2 => ?_⟩, by simp only; omega, Le.tell hg [] (by simp [FLe, svLe, lk, mkM, isLive, tauL]) (by simp [MLe, blkLe, svLe, svLes, lk, mkM, isLive, tauL, svLes_ints, svLes_self, isDvs, isDvs_map, isDvs_app, isDvs_take, isDvs_set, isDvs_repl]) (by decide)⟩
        rcases Nat.lt_or_ge j i with h1 | h1
        · exact hφ0.2 j h1 h h2
        · obtain rfl : j = i := by omega
          simpa using hc2
    · try simp at hc1
      refine awp_exit ?_
      show AWp cx _ _ _
      refine awp_seq ?_
      refine awp_reg hg ?_
      refine c_val hP hn (by decide) trivial (e_assign (by simp only [St.look, St.ev, lk, mkM, blkOf, svOf, svOfCell, reduceIte, Nat.reduceAdd, Nat.reduceEqDiff, Nat.reduceMul]; rfl)) ?_
      show AWp cx _ _ _
      refine awp_ret ?_
      rw [decide_eq_true (eqb (by omega) fun j h1 h2 => hφ0.2 j (by omega) h1 h2)]
      exact end_dv (.inr rfl) (by simp [lk]) (.bool _)
theorem f23 (a b : List Int) (h : a.length < 1000000) : ACallsF Tryd.prog 23 [ints a, ints b] (.one (.dv (.bool (decide (a = b))))) := by
  refine callsF_of Tryd.func23 rfl rfl (by rw [Tryd.ntmps23]; simp) fun cx hP hn hg => ?_
  rw [Tryd.ntmps23] at hn
  rw [startF_lk, none_mkM]
  simp only [zipSV, Nat.reduceAdd]
  refine awp_seq ?_
  refine awp_reg hg ?_
  refine c_val hP hn (by decide) trivial (e_assign (by simp only [St.look, St.ev, lk, mkM, blkOf, svOf, svOfCell, reduceIte, Nat.reduceAdd, Nat.reduceEqDiff, Nat.reduceMul]; rfl)) ?_
  show AWp cx _ _ _
  refine awp_seq ?_
  refine awp_seq ?_
  refine awp_reg hg ?_
  refine c_val hP hn (by decide) trivial (e_move (by simp only [St.look, St.ev, lk, mkM, blkOf, svOf, svOfCell, reduceIte, Nat.reduceAdd, Nat.reduceEqDiff, Nat.reduceMul]; rfl)) ?_
  refine c_val hP hn (by decide) trivial (by first | exact e_len (by simp only [St.look, St.ev, lk, mkM, blkOf, svOf, svOfCell, reduceIte, Nat.reduceAdd, Nat.reduceEqDiff, Nat.reduceMul]; rfl) il25 | exact e_lenR (by simp only [St.look, St.ev, lk, mkM, blkOf, svOf, svOfCell, reduceIte, Nat.reduceAdd, Nat.reduceEqDiff, Nat.reduceMul]; rfl) il25 | exact e_len0 (by simp only [St.look, St.ev, lk, mkM, blkOf, svOf, svOfCell, reduceIte, Nat.reduceAdd, Nat.reduceEqDiff, Nat.reduceMul]; rfl) il25) ?_
  refine c_val hP hn (by decide) trivial (e_move (by simp only [St.look, St.ev, lk, mkM, blkOf, svOf, svOfCell, reduceIte, Nat.reduceAdd, Nat.reduceEqDiff, Nat.reduceMul]; rfl)) ?_
  refine c_val hP hn (by decide) trivial (by first | exact e_len (by simp only [St.look, St.ev, lk, mkM, blkOf, svOf, svOfCell, reduceIte, Nat.reduceAdd, Nat.reduceEqDiff, Nat.reduceMul]; rfl) il25 | exact e_lenR (by simp only [St.look, St.ev, lk, mkM, blkOf, svOf, svOfCell, reduceIte, Nat.reduceAdd, Nat.reduceEqDiff, Nat.reduceMul]; rfl) il25 | exact e_len0 (by simp only [St.look, St.ev, lk, mkM, blkOf, svOf, svOfCell, reduceIte, Nat.reduceAdd, Nat.reduceEqDiff, Nat.reduceMul]; rfl) il25) ?_
  refine c_val hP hn (by decide) trivial (e_neq (by simp only [St.look, St.ev, lk, mkM, blkOf, svOf, svOfCell, reduceIte, Nat.reduceAdd, Nat.reduceEqDiff, Nat.reduceMul]; rfl) (by simp only [St.look, St.ev, lk, mkM, blkOf, svOf, svOfCell, reduceIte, Nat.reduceAdd, Nat.reduceEqDiff, Nat.reduceMul]; rfl)) ?_
  show AWp cx _ _ _
  refine awp_cond (by simp only [St.look, St.ev, lk, mkM, blkOf, svOf, svOfCell, reduceIte, Nat.reduceAdd, Nat.reduceEqDiff, Nat.reduceMul]; rfl) (fun hc0 => ?_) (fun hc0 => ?_)
  · try simp at hc0
    refine awp_seq ?_
    refine awp_reg hg ?_
    refine c_val hP hn (by decide) trivial (e_assign (by simp only [St.look, St.ev, lk, mkM, blkOf, svOf, svOfCell, reduceIte, Nat.reduceAdd, Nat.reduceEqDiff, Nat.reduceMul]; rfl)) ?_
    show AWp cx _ _ _
    refine awp_ret ?_
    rw [decide_eq_false (p := a = b) (fun e => by subst e; simp at hc0)]
    exact end_dv (.inr rfl) (by simp [lk]) (.bool _)
  · try simp at hc0
    refine awp_skip ?_
    show AWp cx _ _ _
    refine awp_seq ?_
    refine awp_seq ?_
    refine awp_reg hg ?_
    refine c_val hP hn (by decide) trivial (e_assign (by simp only [St.look, St.ev, lk, mkM, blkOf, svOf, svOfCell, reduceIte, Nat.reduceAdd, Nat.reduceEqDiff, Nat.reduceMul]; rfl)) ?_
    show AWp cx _ _ _
    refine awp_block ?_
    refine awp_loop (ι := Nat) (fun i => ⟨lk [(0, .dv (ints a)), (1, .dv (ints b)), (5, .dv (i64 (i : Nat)))], mkM []⟩) (fun i => i ≤ a.length ∧ ∀ j (hj : j < i) (h : j < a.length) (h2 : j < b.length), a[j] = b[j]) (fun i => a.length - i) 0 ⟨Nat.zero_le _, fun j hj => absurd hj (Nat.not_lt_zero j)⟩ (Le.tell hg [] (by simp [FLe, svLe, lk, mkM, isLive, tauL]) (by simp [MLe, blkLe, svLe, svLes, lk, mkM, isLive, tauL, svLes_ints, svLes_self, isDvs, isDvs_map, isDvs_app, isDvs_take, isDvs_set, isDvs_repl]) (by decide)) ?_
    intro i hφ0
    refine awp_seq ?_
    refine awp_seq ?_
    refine awp_reg hg ?_
    refine c_val hP hn (by decide) trivial (e_move (by simp only [St.look, St.ev, lk, mkM, blkOf, svOf, svOfCell, reduceIte, Nat.reduceAdd, Nat.reduceEqDiff, Nat.reduceMul]; rfl)) ?_
    refine c_val hP hn (by decide) trivial (e_move (by simp only [St.look, St.ev, lk, mkM, blkOf, svOf, svOfCell, reduceIte, Nat.reduceAdd, Nat.reduceEqDiff, Nat.reduceMul]; rfl)) ?_
    refine c_val hP hn (by decide) trivial (by first | exact e_len (by simp only [St.look, St.ev, lk, mkM, blkOf, svOf, svOfCell, reduceIte, Nat.reduceAdd, Nat.reduceEqDiff, Nat.reduceMul]; rfl) il25 | exact e_lenR (by simp only [St.look, St.ev, lk, mkM, blkOf, svOf, svOfCell, reduceIte, Nat.reduceAdd, Nat.reduceEqDiff, Nat.reduceMul]; rfl) il25 | exact e_len0 (by simp only [St.look, St.ev, lk, mkM, blkOf, svOf, svOfCell, reduceIte, Nat.reduceAdd, Nat.reduceEqDiff, Nat.reduceMul]; rfl) il25) ?_
    refine c_val hP hn (by decide) trivial (e_lss (by simp only [St.look, St.ev, lk, mkM, blkOf, svOf, svOfCell, reduceIte, Nat.reduceAdd, Nat.reduceEqDiff, Nat.reduceMul]; rfl) (by simp only [St.look, St.ev, lk, mkM, blkOf, svOf, svOfCell, reduceIte, Nat.reduceAdd, Nat.reduceEqDiff, Nat.reduceMul]; rfl)) ?_
    show AWp cx _ _ _
    refine awp_cond (by simp only [St.look, St.ev, lk, mkM, blkOf, svOf, svOfCell, reduceIte, Nat.reduceAdd, Nat.reduceEqDiff, Nat.reduceMul]; rfl) (fun hc1 => ?_) (fun hc1 => ?_)
    · try simp at hc1
      refine awp_skip ?_
      show AWp cx _ _ _
      refine awp_seq ?_
      refine awp_block ?_
      refine awp_seq ?_
      refine awp_drw hg hP mixed (by decide) ?_
      have hin : i < a.length := by omega
      have hx : a[i]? = some a[i] := List.getElem?_eq_getElem hin
      have hib : i < b.length := by omega
      have hxb : b[i]? = some b[i] := List.getElem?_eq_getElem hib
      refine d_val hP hn (by decide) trivial (e_move (by simp only [St.look, St.ev, lk, mkM, blkOf, svOf, svOfCell, reduceIte, Nat.reduceAdd, Nat.reduceEqDiff, Nat.reduceMul]; rfl)) (by simp only [opTags, deref, svTag, List.flatMap_cons, List.flatMap_nil, St.look, St.ev, lk, mkM, blkOf, svOf, svOfCell, reduceIte, Nat.reduceAdd, Nat.reduceEqDiff, Nat.reduceMul]; rfl) ?_
      refine d_val hP hn (by decide) trivial (e_move (by simp only [St.look, St.ev, lk, mkM, blkOf, svOf, svOfCell, reduceIte, Nat.reduceAdd, Nat.reduceEqDiff, Nat.reduceMul]; rfl)) (by simp only [opTags, deref, svTag, List.flatMap_cons, List.flatMap_nil, St.look, St.ev, lk, mkM, blkOf, svOf, svOfCell, reduceIte, Nat.reduceAdd, Nat.reduceEqDiff, Nat.reduceMul]; rfl) ?_
      refine d_val hP hn (by decide) trivial (by first | exact e_indexN (by simp only [St.look, St.ev, lk, mkM, blkOf, svOf, svOfCell, reduceIte, Nat.reduceAdd, Nat.reduceEqDiff, Nat.reduceMul]; rfl) (by simp only [St.look, St.ev, lk, mkM, blkOf, svOf, svOfCell, reduceIte, Nat.reduceAdd, Nat.reduceEqDiff, Nat.reduceMul]; rfl) (by assumption) el25 (by exact sz3) | exact e_index (by simp only [St.look, St.ev, lk, mkM, blkOf, svOf, svOfCell, reduceIte, Nat.reduceAdd, Nat.reduceEqDiff, Nat.reduceMul]; rfl) (by simp only [St.look, St.ev, lk, mkM, blkOf, svOf, svOfCell, reduceIte, Nat.reduceAdd, Nat.reduceEqDiff, Nat.reduceMul]; rfl) (by omega) (by assumption) el25 (by exact sz3) | exact e_indexR (by simp only [St.look, St.ev, lk, mkM, blkOf, svOf, svOfCell, reduceIte, Nat.reduceAdd, Nat.reduceEqDiff, Nat.reduceMul]; rfl) (by simp only [St.look, St.ev, lk, mkM, blkOf, svOf, svOfCell, reduceIte, Nat.reduceAdd, Nat.reduceEqDiff, Nat.reduceMul]; rfl) (by omega) (by omega) el25 (by exact sz3) (by simp only [Int.toNat_natCast, Nat.zero_add, Nat.mul_one]; rfl)) (by simp only [opTags, deref, svTag, List.flatMap_cons, List.flatMap_nil, St.look, St.ev, lk, mkM, blkOf, svOf, svOfCell, reduceIte, Nat.reduceAdd, Nat.reduceEqDiff, Nat.reduceMul]; rfl) ?_
      refine d_val hP hn (by decide) trivial (by first | exact e_load (by simp only [St.look, St.ev, lk, mkM, blkOf, svOf, svOfCell, reduceIte, Nat.reduceAdd, Nat.reduceEqDiff, Nat.reduceMul]; rfl) sz3 ag3 (by rfl) | exact e_loadp (by simp only [St.look, St.ev, lk, mkM, blkOf, svOf, svOfCell, reduceIte, Nat.reduceAdd, Nat.reduceEqDiff, Nat.reduceMul]; rfl) sz3 ag3 (by first | rfl | assumption)) (by simp only [opTags, deref, svTag, List.flatMap_cons, List.flatMap_nil, St.look, St.ev, lk, mkM, blkOf, svOf, svOfCell, reduceIte, Nat.reduceAdd, Nat.reduceEqDiff, Nat.reduceMul]; rfl) ?_
      refine d_val hP hn (by decide) trivial (e_move (by simp only [St.look, St.ev, lk, mkM, blkOf, svOf, svOfCell, reduceIte, Nat.reduceAdd, Nat.reduceEqDiff, Nat.reduceMul]; rfl)) (by simp only [opTags, deref, svTag, List.flatMap_cons, List.flatMap_nil, St.look, St.ev, lk, mkM, blkOf, svOf, svOfCell, reduceIte, Nat.reduceAdd, Nat.reduceEqDiff, Nat.reduceMul]; rfl) ?_
      refine d_val hP hn (by decide) trivial (e_move (by simp only [St.look, St.ev, lk, mkM, blkOf, svOf, svOfCell, reduceIte, Nat.reduceAdd, Nat.reduceEqDiff, Nat.reduceMul]; rfl)) (by simp only [opTags, deref, svTag, List.flatMap_cons, List.flatMap_nil, St.look, St.ev, lk, mkM, blkOf, svOf, svOfCell, reduceIte, Nat.reduceAdd, Nat.reduceEqDiff, Nat.reduceMul]; rfl) ?_
      refine d_val hP hn (by decide) trivial (by first | exact e_indexN (by simp only [St.look, St.ev, lk, mkM, blkOf, svOf, svOfCell, reduceIte, Nat.reduceAdd, Nat.reduceEqDiff, Nat.reduceMul]; rfl) (by simp only [St.look, St.ev, lk, mkM, blkOf, svOf, svOfCell, reduceIte, Nat.reduceAdd, Nat.reduceEqDiff, Nat.reduceMul]; rfl) (by assumption) el25 (by exact sz3) | exact e_index (by simp only [St.look, St.ev, lk, mkM, blkOf, svOf, svOfCell, reduceIte, Nat.reduceAdd, Nat.reduceEqDiff, Nat.reduceMul]; rfl) (by simp only [St.look, St.ev, lk, mkM, blkOf, svOf, svOfCell, reduceIte, Nat.reduceAdd, Nat.reduceEqDiff, Nat.reduceMul]; rfl) (by omega) (by assumption) el25 (by exact sz3) | exact e_indexR (by simp only [St.look, St.ev, lk, mkM, blkOf, svOf, svOfCell, reduceIte, Nat.reduceAdd, Nat.reduceEqDiff, Nat.reduceMul]; rfl) (by simp only [St.look, St.ev, lk, mkM, blkOf, svOf, svOfCell, reduceIte, Nat.reduceAdd, Nat.reduceEqDiff, Nat.reduceMul]; rfl) (by omega) (by omega) el25 (by exact sz3) (by simp only [Int.toNat_natCast, Nat.zero_add, Nat.mul_one]; rfl)) (by simp only [opTags, deref, svTag, List.flatMap_cons, List.flatMap_nil, St.look, St.ev, lk, mkM, blkOf, svOf, svOfCell, reduceIte, Nat.reduceAdd, Nat.reduceEqDiff, Nat.reduceMul]; rfl) ?_
      refine d_val hP hn (by decide) trivial (by first | exact e_load (by simp only [St.look, St.ev, lk, mkM, blkOf, svOf, svOfCell, reduceIte, Nat.reduceAdd, Nat.reduceEqDiff, Nat.reduceMul]; rfl) sz3 ag3 (by rfl) | exact e_loadp (by simp only [St.look, St.ev, lk, mkM, blkOf, svOf, svOfCell, reduceIte, Nat.reduceAdd, Nat.reduceEqDiff, Nat.reduceMul]; rfl) sz3 ag3 (by first | rfl | assumption)) (by simp only [opTags, deref, svTag, List.flatMap_cons, List.flatMap_nil, St.look, St.ev, lk, mkM, blkOf, svOf, svOfCell, reduceIte, Nat.reduceAdd, Nat.reduceEqDiff, Nat.reduceMul]; rfl) ?_
      refine d_val hP hn (by decide) trivial (e_neq (by simp only [St.look, St.ev, lk, mkM, blkOf, svOf, svOfCell, reduceIte, Nat.reduceAdd, Nat.reduceEqDiff, Nat.reduceMul]; rfl) (by simp only [St.look, St.ev, lk, mkM, blkOf, svOf, svOfCell, reduceIte, Nat.reduceAdd, Nat.reduceEqDiff, Nat.reduceMul]; rfl)) (by simp only [opTags, deref, svTag, List.flatMap_cons, List.flatMap_nil, St.look, St.ev, lk, mkM, blkOf, svOf, svOfCell, reduceIte, Nat.reduceAdd, Nat.reduceEqDiff, Nat.reduceMul]; rfl) ?_
      refine ⟨by rfl, ?_⟩
      show AWp cx _ _ _
      refine awp_cond (by simp only [St.look, St.ev, lk, mkM, blkOf, svOf, svOfCell, reduceIte, Nat.reduceAdd, Nat.reduceEqDiff, Nat.reduceMul]; rfl) (fun hc2 => ?_) (fun hc2 => ?_)
      · try simp at hc2
        refine awp_seq ?_
        refine awp_reg hg ?_
        refine c_val hP hn (by decide) trivial (e_assign (by simp only [St.look, St.ev, lk, mkM, blkOf, svOf, svOfCell, reduceIte, Nat.reduceAdd, Nat.reduceEqDiff, Nat.reduceMul]; rfl)) ?_
        show AWp cx _ _ _
        refine awp_ret ?_
        rw [decide_eq_false (neb hin hib hc2)]
        exact end_dv (.inr rfl) (by simp [lk]) (.bool _)
      · try simp at hc2
        refine awp_skip ?_
        show AWp cx _ _ _
        refine awp_reg hg ?_
        refine c_val hP hn (by decide) trivial (e_move (by simp only [St.look, St.ev, lk, mkM, blkOf, svOf, svOfCell, reduceIte, Nat.reduceAdd, Nat.reduceEqDiff, Nat.reduceMul]; rfl)) ?_
        refine c_val hP hn (by decide) trivial (e_add (by simp only [St.look, St.ev, lk, mkM, blkOf, svOf, svOfCell, reduceIte, Nat.reduceAdd, Nat.reduceEqDiff, Nat.reduceMul]; rfl) (by simp only [St.look, St.ev, lk, mkM, blkOf, svOf, svOfCell, reduceIte, Nat.reduceAdd, Nat.reduceEqDiff, Nat.reduceMul]; rfl) (by omega) (by omega)) ?_
        refine c_val hP hn (by decide) trivial (e_assign (by simp only [St.look, St.ev, lk, mkM, blkOf, svOf, svOfCell, reduceIte, Nat.reduceAdd, Nat.reduceEqDiff, Nat.reduceMul]; rfl)) ?_
        refine ⟨i + 1, ⟨hin, fun j hj h h2 => ?_⟩, by simp only; omega, Le.tell hg [] (by simp [FLe, svLe, lk, mkM, isLive, tauL]) (by simp [MLe, blkLe, svLe, svLes, lk, mkM, isLive, tauL, svLes_ints, svLes_self, isDvs, isDvs_map, isDvs_app, isDvs_take, isDvs_set, isDvs_repl]) (by decide)⟩
        rcases Nat.lt_or_ge j i with h1 | h1
        · exact hφ0.2 j h1 h h2
        · obtain rfl : j = i := by omega
          simpa using hc2
    · try simp at hc1
      refine awp_exit ?_
      show AWp cx _ _ _
      refine awp_seq ?_
      refine awp_reg hg ?_
      refine c_val hP hn (by decide) trivial (e_assign (by simp only [St.look, St.ev, lk, mkM, blkOf, svOf, svOfCell, reduceIte, Nat.reduceAdd, Nat.reduceEqDiff, Nat.reduceMul]; rfl)) ?_
      show AWp cx _ _ _
      refine awp_ret ?_
      rw [decide_eq_true (eqb (by omega) fun j h1 h2 => hφ0.2 j (by omega) h1 h2)]
      exact end_dv (.inr rfl) (by simp [lk]) (.bool _)
theorem f30x (l : List Int) (h : l.length < 1000000) (hl : l ≠ []) : ACallsF Tryd.prog 30 [ints l] (.one (rI l)) := by
  refine callsF_of Tryd.func30 rfl rfl (by rw [Tryd.ntmps30]; simp) fun cx hP hn hg => ?_
  rw [Tryd.ntmps30] at hn
  rw [startF_lk, none_mkM]
  simp only [zipSV, Nat.reduceAdd]
  refine awp_seq ?_
  refine awp_reg hg ?_
  refine c_val hP hn (by decide) trivial (e_assign (by simp only [St.look, St.ev, lk, mkM, blkOf, svOf, svOfCell, reduceIte, Nat.reduceAdd, Nat.reduceEqDiff, Nat.reduceMul]; rfl)) ?_
  show AWp cx _ _ _
  refine awp_seq ?_
  refine awp_seq ?_
  refine awp_reg hg ?_
  refine c_val hP hn (by decide) trivial (e_move (by simp only [St.look, St.ev, lk, mkM, blkOf, svOf, svOfCell, reduceIte, Nat.reduceAdd, Nat.reduceEqDiff, Nat.reduceMul]; rfl)) ?_
  refine c_val hP hn (by decide) trivial (by simp only [outOf, binSV, nilOf, nilCmp, il25, if_true, Option.map_some, St.look, St.ev, lk, mkM, blkOf, svOf, svOfCell, reduceIte, Nat.reduceAdd, Nat.reduceEqDiff, Nat.reduceMul]; rw [if_neg (by simpa using hl)]; rfl) ?_
  show AWp cx _ _ _
  refine awp_cond (by simp only [St.look, St.ev, lk, mkM, blkOf, svOf, svOfCell, reduceIte, Nat.reduceAdd, Nat.reduceEqDiff, Nat.reduceMul]; rfl) (fun hc0 => ?_) (fun hc0 => ?_)
  · exact absurd hc0 (by simp)
  refine awp_skip ?_
  show AWp cx _ _ _
  refine awp_seq ?_
  refine awp_reg hg ?_
  refine c_row hP hn (by decide) trivial (e_buildSlice (by simp only [List.map, St.look, St.ev, lk, mkM, blkOf, svOf, svOfCell, reduceIte, Nat.reduceAdd, Nat.reduceEqDiff, Nat.reduceMul]; rfl) el25 ze3 sz3 rfl (by decide) (by decide) (by simp [fillSV, putCells, cellsSV, List.replicate]; rfl)) rfl (by simp only [mkM, reduceIte, Nat.reduceEqDiff]; rfl) ?_
  refine c_val hP hn (by decide) trivial (e_move (by simp only [St.look, St.ev, lk, mkM, blkOf, svOf, svOfCell, reduceIte, Nat.reduceAdd, Nat.reduceEqDiff, Nat.reduceMul]; rfl)) ?_
  first
  | refine c_app0 hP hn (by decide) trivial (e_app0 (by simp only [St.look, St.ev, lk, mkM, blkOf, svOf, svOfCell, reduceIte, Nat.reduceAdd, Nat.reduceEqDiff, Nat.reduceMul]; rfl) (by simp only [St.look, St.ev, lk, mkM, blkOf, svOf, svOfCell, reduceIte, Nat.reduceAdd, Nat.reduceEqDiff, Nat.reduceMul]; first | exact src_ints | rfl | (simp [srcSV, cellOk]; rfl)) el25 el25 ze3 sz3 by3 (by first | omega | (simp; try omega)) (by first | omega | (simp; try omega)) rfl) (by simp only [mkM, reduceIte, Nat.reduceEqDiff]; rfl) ?_
  | refine c_app1 hP hn (by decide) trivial (e_app1 (by simp only [St.look, St.ev, lk, mkM, blkOf, svOf, svOfCell, reduceIte, Nat.reduceAdd, Nat.reduceEqDiff, Nat.reduceMul]; rfl) (by simp only [St.look, St.ev, lk, mkM, blkOf, svOf, svOfCell, reduceIte, Nat.reduceAdd, Nat.reduceEqDiff, Nat.reduceMul]; first | exact src_ints | rfl | (simp [srcSV, cellOk]; rfl)) el25 el25 ze3 sz3 by3 (by rfl) (by rfl) (by rfl) (by first | omega | (simp; try omega)) (by first | omega | (simp; try omega)) (by first | omega | (simp; try omega)) rfl (by first | exact ints_snoc | exact ints_app | rfl)) (by simp only [mkM, reduceIte, Nat.reduceEqDiff]; rfl) (by simp only [mkM, reduceIte, Nat.reduceEqDiff]; rfl) rfl ?_
  refine c_val hP hn (by decide) trivial (e_assign (by simp only [St.look, St.ev, lk, mkM, blkOf, svOf, svOfCell, reduceIte, Nat.reduceAdd, Nat.reduceEqDiff, Nat.reduceMul]; rfl)) ?_
  show AWp cx _ _ _
  refine awp_ret ?_
  exact end_row1 (.inr rfl) (by first | (simp only [lk, reduceIte, Nat.reduceEqDiff]; done) | (simp only [lk, reduceIte, Nat.reduceEqDiff]; rfl)) (retOk_rK (by simp only [mkM, reduceIte, Nat.reduceEqDiff]; rfl) (by simp))
theorem f30n : ACallsF Tryd.prog 30 [ints []] (.one (rI [])) := by
  refine callsF_of Tryd.func30 rfl rfl (by rw [Tryd.ntmps30]; simp) fun cx hP hn hg => ?_
  rw [Tryd.ntmps30] at hn
  rw [startF_lk, none_mkM]
  simp only [zipSV, Nat.reduceAdd]
  refine AWp.split (t := 0) (by simp [lk]) fun b => ?_
  cases b
  · skip
    refine awp_seq ?_
    refine awp_reg hg ?_
    refine c_val hP hn (by decide) trivial (e_assign (by simp only [St.look, St.ev, lk, mkM, blkOf, svOf, svOfCell, reduceIte, Nat.reduceAdd, Nat.reduceEqDiff, Nat.reduceMul]; rfl)) ?_
    show AWp cx _ _ _
    refine awp_seq ?_
    refine awp_seq ?_
    refine awp_reg hg ?_
    refine c_val hP hn (by decide) trivial (e_move (by simp only [St.look, St.ev, lk, mkM, blkOf, svOf, svOfCell, reduceIte, Nat.reduceAdd, Nat.reduceEqDiff, Nat.reduceMul]; rfl)) ?_
    refine c_val hP hn (by decide) trivial (by simp only [outOf, binSV, nilOf, nilCmp, il25, if_true, Option.map_some, St.look, St.ev, lk, mkM, blkOf, svOf, svOfCell, reduceIte, Nat.reduceAdd, Nat.reduceEqDiff, Nat.reduceMul]; rfl) ?_
    show AWp cx _ _ _
    refine awp_cond (by simp only [St.look, St.ev, lk, mkM, blkOf, svOf, svOfCell, reduceIte, Nat.reduceAdd, Nat.reduceEqDiff, Nat.reduceMul]; rfl) (fun hc0 => ?_) (fun hc0 => ?_)
    · exact absurd hc0 (by simp)
    refine awp_skip ?_
    show AWp cx _ _ _
    refine awp_seq ?_
    refine awp_reg hg ?_
    refine c_row hP hn (by decide) trivial (e_buildSlice (by simp only [List.map, St.look, St.ev, lk, mkM, blkOf, svOf, svOfCell, reduceIte, Nat.reduceAdd, Nat.reduceEqDiff, Nat.reduceMul]; rfl) el25 ze3 sz3 rfl (by decide) (by decide) (by simp [fillSV, putCells, cellsSV, List.replicate]; rfl)) rfl (by simp only [mkM, reduceIte, Nat.reduceEqDiff]; rfl) ?_
    refine c_val hP hn (by decide) trivial (e_move (by simp only [St.look, St.ev, lk, mkM, blkOf, svOf, svOfCell, reduceIte, Nat.reduceAdd, Nat.reduceEqDiff, Nat.reduceMul]; rfl)) ?_
    first
    | refine c_app0 hP hn (by decide) trivial (e_app0 (by simp only [St.look, St.ev, lk, mkM, blkOf, svOf, svOfCell, reduceIte, Nat.reduceAdd, Nat.reduceEqDiff, Nat.reduceMul]; rfl) (by simp only [St.look, St.ev, lk, mkM, blkOf, svOf, svOfCell, reduceIte, Nat.reduceAdd, Nat.reduceEqDiff, Nat.reduceMul]; first | exact src_ints | rfl | (simp [srcSV, cellOk]; rfl)) el25 el25 ze3 sz3 by3 (by first | omega | (simp; try omega)) (by first | omega | (simp; try omega)) rfl) (by simp only [mkM, reduceIte, Nat.reduceEqDiff]; rfl) ?_
    | refine c_app1 hP hn (by decide) trivial (e_app1 (by simp only [St.look, St.ev, lk, mkM, blkOf, svOf, svOfCell, reduceIte, Nat.reduceAdd, Nat.reduceEqDiff, Nat.reduceMul]; rfl) (by simp only [St.look, St.ev, lk, mkM, blkOf, svOf, svOfCell, reduceIte, Nat.reduceAdd, Nat.reduceEqDiff, Nat.reduceMul]; first | exact src_ints | rfl | (simp [srcSV, cellOk]; rfl)) el25 el25 ze3 sz3 by3 (by rfl) (by rfl) (by rfl) (by first | omega | (simp; try omega)) (by first | omega | (simp; try omega)) (by first | omega | (simp; try omega)) rfl (by first | exact ints_snoc | exact ints_app | rfl)) (by simp only [mkM, reduceIte, Nat.reduceEqDiff]; rfl) (by simp only [mkM, reduceIte, Nat.reduceEqDiff]; rfl) rfl ?_
    refine c_val hP hn (by decide) trivial (e_assign (by simp only [St.look, St.ev, lk, mkM, blkOf, svOf, svOfCell, reduceIte, Nat.reduceAdd, Nat.reduceEqDiff, Nat.reduceMul]; rfl)) ?_
    show AWp cx _ _ _
    refine awp_ret ?_
    exact end_row1 (.inr rfl) (by first | (simp only [lk, reduceIte, Nat.reduceEqDiff]; done) | (simp only [lk, reduceIte, Nat.reduceEqDiff]; rfl)) (retOk_rK (by simp only [mkM, reduceIte, Nat.reduceEqDiff]; rfl) (by simp))
  · skip
    refine awp_seq ?_
    refine awp_reg hg ?_
    refine c_val hP hn (by decide) trivial (e_assign (by simp only [St.look, St.ev, lk, mkM, blkOf, svOf, svOfCell, reduceIte, Nat.reduceAdd, Nat.reduceEqDiff, Nat.reduceMul]; rfl)) ?_
    show AWp cx _ _ _
    refine awp_seq ?_
    refine awp_seq ?_
    refine awp_reg hg ?_
    refine c_val hP hn (by decide) trivial (e_move (by simp only [St.look, St.ev, lk, mkM, blkOf, svOf, svOfCell, reduceIte, Nat.reduceAdd, Nat.reduceEqDiff, Nat.reduceMul]; rfl)) ?_
    refine c_val hP hn (by decide) trivial (by simp only [outOf, binSV, nilOf, nilCmp, il25, if_true, Option.map_some, St.look, St.ev, lk, mkM, blkOf, svOf, svOfCell, reduceIte, Nat.reduceAdd, Nat.reduceEqDiff, Nat.reduceMul]; rfl) ?_
    show AWp cx _ _ _
    refine awp_cond (by simp only [St.look, St.ev, lk, mkM, blkOf, svOf, svOfCell, reduceIte, Nat.reduceAdd, Nat.reduceEqDiff, Nat.reduceMul]; rfl) (fun hc0 => ?_) (fun hc0 => ?_)
    rotate_left
    · exact absurd hc0 (by simp)
    refine awp_seq ?_
    refine awp_reg hg ?_
    refine c_val hP hn (by decide) trivial (e_assign (by simp only [St.look, St.ev, lk, mkM, blkOf, svOf, svOfCell, reduceIte, Nat.reduceAdd, Nat.reduceEqDiff, Nat.reduceMul]; rfl)) ?_
    show AWp cx _ _ _
    refine awp_ret ?_
    exact end_row1 (.inr rfl) (by first | (simp only [lk, reduceIte, Nat.reduceEqDiff]; done) | (simp only [lk, reduceIte, Nat.reduceEqDiff]; rfl)) retOk_rK0
theorem f30 (l : List Int) (h : l.length < 1000000) : ACallsF Tryd.prog 30 [ints l] (.one (rI l)) := by
  by_cases hl : l = []
  · subst hl; exact f30n
  · exact f30x l h hl
theorem f29 (s : Stp) (m : List Int) (hf : Fits s m) : ACallsF Tryd.prog 29 [dStp s, ints m] (.many [rI (afterR s m).1, .dv (i64 (afterR s m).2)]) := by
  refine callsF_of Tryd.func29 rfl rfl (by rw [Tryd.ntmps29]; simp) fun cx hP hn hg => ?_
  rw [Tryd.ntmps29] at hn
  rw [startF_lk, none_mkM]
  simp only [zipSV, Nat.reduceAdd]
  refine awp_seq ?_
  refine awp_reg hg ?_
  refine c_pt hP hn (by decide) trivial (e_box (by simp only [St.look, St.ev, lk, mkM, blkOf, svOf, svOfCell, reduceIte, Nat.reduceAdd, Nat.reduceEqDiff, Nat.reduceMul]; rfl) (by simp only [cellsSV, List.map]; rfl)) rfl (by simp only [mkM, reduceIte, Nat.reduceEqDiff]; rfl) ?_
  refine c_val hP hn (by decide) trivial (e_assign (by simp only [St.look, St.ev, lk, mkM, blkOf, svOf, svOfCell, reduceIte, Nat.reduceAdd, Nat.reduceEqDiff, Nat.reduceMul]; rfl)) ?_
  refine c_val hP hn (by decide) trivial (e_assign (by simp only [St.look, St.ev, lk, mkM, blkOf, svOf, svOfCell, reduceIte, Nat.reduceAdd, Nat.reduceEqDiff, Nat.reduceMul]; rfl)) ?_
  show AWp cx _ _ _
  refine awp_seq ?_
  refine awp_seq ?_
  refine awp_reg hg ?_
  refine c_val hP hn (by decide) trivial (by first | exact e_loada (by simp only [St.look, St.ev, lk, mkM, blkOf, svOf, svOfCell, reduceIte, Nat.reduceAdd, Nat.reduceEqDiff, Nat.reduceMul]; rfl) sz39 ag39 (by first | exact Nat.le_refl _ | simp [DV.cells]) (by simp only [DV.cells, List.take]; rfl) | exact e_loadpa (by simp only [St.look, St.ev, lk, mkM, blkOf, svOf, svOfCell, reduceIte, Nat.reduceAdd, Nat.reduceEqDiff, Nat.reduceMul]; rfl) sz39 ag39 (by first | exact Nat.le_refl _ | simp) (by simp only [aggSV, allDv, List.drop, List.take]; rfl)) ?_
  refine c_val hP hn (by decide) trivial (e_move (by simp only [St.look, St.ev, lk, mkM, blkOf, svOf, svOfCell, reduceIte, Nat.reduceAdd, Nat.reduceEqDiff, Nat.reduceMul]; rfl)) ?_
  refine c_callF hP hn (by decide) trivial (f37 s m (by have := hf.take; omega) (by have := hf.len; omega)) (by simp only [List.map, St.look, St.ev, lk, mkM, blkOf, svOf, svOfCell, reduceIte, Nat.reduceAdd, Nat.reduceEqDiff, Nat.reduceMul]; rfl) (by repeat (first | exact args_nil | refine args_cons data_dv ?_)) (by first | exact res_one | exact res_two | exact res_three | exact res_rK1 (by simp only [mkM, reduceIte, Nat.reduceEqDiff]; rfl) | exact res_rK2 (by simp only [mkM, reduceIte, Nat.reduceEqDiff]; rfl) | exact res_rK3 (by simp only [mkM, reduceIte, Nat.reduceEqDiff]; rfl) | exact res_row rfl | exact res_rowdv rfl | exact res_rowdvdv rfl) ?_
  refine c_val hP hn (by decide) trivial (e_not (by simp only [St.look, St.ev, lk, mkM, blkOf, svOf, svOfCell, reduceIte, Nat.reduceAdd, Nat.reduceEqDiff, Nat.reduceMul]; rfl)) ?_
  show AWp cx _ _ _
  refine awp_cond (by simp only [St.look, St.ev, lk, mkM, blkOf, svOf, svOfCell, reduceIte, Nat.reduceAdd, Nat.reduceEqDiff, Nat.reduceMul]; rfl) (fun hc0 => ?_) (fun hc0 => ?_)
  · try simp at hc0
    refine awp_seq ?_
    refine awp_reg hg ?_
    refine c_val hP hn (by decide) trivial (e_assign (by simp only [St.look, St.ev, lk, mkM, blkOf, svOf, svOfCell, reduceIte, Nat.reduceAdd, Nat.reduceEqDiff, Nat.reduceMul]; rfl)) ?_
    refine c_val hP hn (by decide) trivial (e_assign (by simp only [St.look, St.ev, lk, mkM, blkOf, svOf, svOfCell, reduceIte, Nat.reduceAdd, Nat.reduceEqDiff, Nat.reduceMul]; rfl)) ?_
    show AWp cx _ _ _
    refine awp_ret ?_
    rw [show afterR s m = ([], 6) by simp [afterR, hc0]]
    exact end_row2 (.inr rfl) (s1 := .nils) (s2 := .dv (i64 6)) (by simp [lk]) (by simp [lk]) retOk_rK0 (.dv _ (.int _ _)) (.int _ _)
  · try simp at hc0
    refine awp_skip ?_
    show AWp cx _ _ _
    refine awp_seq ?_
    refine awp_reg hg ?_
    refine c_val hP hn (by decide) trivial (e_assign (by simp only [St.look, St.ev, lk, mkM, blkOf, svOf, svOfCell, reduceIte, Nat.reduceAdd, Nat.reduceEqDiff, Nat.reduceMul]; rfl)) ?_
    show AWp cx _ _ _
    refine awp_seq ?_
    refine awp_seq ?_
    refine awp_reg hg ?_
    refine c_val hP hn (by decide) trivial (e_move (by simp only [St.look, St.ev, lk, mkM, blkOf, svOf, svOfCell, reduceIte, Nat.reduceAdd, Nat.reduceEqDiff, Nat.reduceMul]; rfl)) ?_
    refine c_val hP hn (by decide) trivial (by first | exact e_len (by simp only [St.look, St.ev, lk, mkM, blkOf, svOf, svOfCell, reduceIte, Nat.reduceAdd, Nat.reduceEqDiff, Nat.reduceMul]; rfl) il25 | exact e_lenR (by simp only [St.look, St.ev, lk, mkM, blkOf, svOf, svOfCell, reduceIte, Nat.reduceAdd, Nat.reduceEqDiff, Nat.reduceMul]; rfl) il25 | exact e_len0 (by simp only [St.look, St.ev, lk, mkM, blkOf, svOf, svOfCell, reduceIte, Nat.reduceAdd, Nat.reduceEqDiff, Nat.reduceMul]; rfl) il25) ?_
    refine c_val hP hn (by decide) trivial (e_move (by simp only [St.look, St.ev, lk, mkM, blkOf, svOf, svOfCell, reduceIte, Nat.reduceAdd, Nat.reduceEqDiff, Nat.reduceMul]; rfl)) ?_
    show AWp cx _ _ _
    refine awp_block ?_
    refine awp_loop (ι := Nat) (fun i => ⟨lk [(2, .pt 2 0 0), (6, .sl 6 0 0 i), (13, .dv (ints m)), (14, .dv (i64 (m.length : Int))), (15, .dv (i64 (i : Nat)))], mkM [(2, 0, some ⟨[.dv (ints s.take), .dv (ints s.give)], 0, 39, 0, false⟩), (6, 0, some (rowI ((moved s m).take i)))]⟩) (fun i => i ≤ m.length ∧ ∀ j (hj : j < i) (h : j < (moved s m).length), (moved s m)[j] ≤ 50) (fun i => m.length - i) 0 ⟨Nat.zero_le _, fun j hj => absurd hj (Nat.not_lt_zero j)⟩ (Le.tell hg [(2, 2)] (by simp [FLe, svLe, lk, mkM, isLive, tauL]) (by simp [MLe, blkLe, svLe, svLes, lk, mkM, isLive, tauL, svLes_ints, svLes_self, isDvs, isDvs_map, isDvs_app, isDvs_take, isDvs_set, isDvs_repl]) (by decide)) ?_
    intro i hφ0
    refine awp_seq ?_
    refine awp_reg hg ?_
    refine c_val hP hn (by decide) trivial (e_lss (by simp only [St.look, St.ev, lk, mkM, blkOf, svOf, svOfCell, reduceIte, Nat.reduceAdd, Nat.reduceEqDiff, Nat.reduceMul]; rfl) (by simp only [St.look, St.ev, lk, mkM, blkOf, svOf, svOfCell, reduceIte, Nat.reduceAdd, Nat.reduceEqDiff, Nat.reduceMul]; rfl)) ?_
    show AWp cx _ _ _
    refine awp_seq ?_
    refine awp_cond (by simp only [St.look, St.ev, lk, mkM, blkOf, svOf, svOfCell, reduceIte, Nat.reduceAdd, Nat.reduceEqDiff, Nat.reduceMul]; rfl) (fun hc1 => ?_) (fun hc1 => ?_)
    · try simp at hc1
      refine awp_skip ?_
      show AWp cx _ _ _
      refine awp_seq ?_
      refine awp_block ?_
      refine awp_seq ?_
      refine awp_reg hg ?_
      have hin : i < m.length := by omega
      have hx : m[i]? = some m[i] := List.getElem?_eq_getElem hin
      have hlen := hf.len
      have hit : i < s.take.length := by have := hf.take; omega
      have hig : i < s.give.length := by have := hf.give; omega
      have hxt : s.take[i]? = some s.take[i] := List.getElem?_eq_getElem hit
      have hxg : s.give[i]? = some s.give[i] := List.getElem?_eq_getElem hig
      have b1 := small_at hf.sm hin
      have b2 := small_at hf.st hit
      have b3 := small_at hf.sg hig
      have hmv := moved_take hin hit hig
      refine c_val hP hn (by decide) trivial (e_move (by simp only [St.look, St.ev, lk, mkM, blkOf, svOf, svOfCell, reduceIte, Nat.reduceAdd, Nat.reduceEqDiff, Nat.reduceMul]; rfl)) ?_
      refine c_val hP hn (by decide) trivial (by first | exact e_indexN (by simp only [St.look, St.ev, lk, mkM, blkOf, svOf, svOfCell, reduceIte, Nat.reduceAdd, Nat.reduceEqDiff, Nat.reduceMul]; rfl) (by simp only [St.look, St.ev, lk, mkM, blkOf, svOf, svOfCell, reduceIte, Nat.reduceAdd, Nat.reduceEqDiff, Nat.reduceMul]; rfl) (by assumption) el25 (by exact sz3) | exact e_index (by simp only [St.look, St.ev, lk, mkM, blkOf, svOf, svOfCell, reduceIte, Nat.reduceAdd, Nat.reduceEqDiff, Nat.reduceMul]; rfl) (by simp only [St.look, St.ev, lk, mkM, blkOf, svOf, svOfCell, reduceIte, Nat.reduceAdd, Nat.reduceEqDiff, Nat.reduceMul]; rfl) (by omega) (by assumption) el25 (by exact sz3) | exact e_indexR (by simp only [St.look, St.ev, lk, mkM, blkOf, svOf, svOfCell, reduceIte, Nat.reduceAdd, Nat.reduceEqDiff, Nat.reduceMul]; rfl) (by simp only [St.look, St.ev, lk, mkM, blkOf, svOf, svOfCell, reduceIte, Nat.reduceAdd, Nat.reduceEqDiff, Nat.reduceMul]; rfl) (by omega) (by omega) el25 (by exact sz3) (by simp only [Int.toNat_natCast, Nat.zero_add, Nat.mul_one]; rfl)) ?_
      refine c_val hP hn (by decide) trivial (by first | exact e_load (by simp only [St.look, St.ev, lk, mkM, blkOf, svOf, svOfCell, reduceIte, Nat.reduceAdd, Nat.reduceEqDiff, Nat.reduceMul]; rfl) sz3 ag3 (by rfl) | exact e_loadp (by simp only [St.look, St.ev, lk, mkM, blkOf, svOf, svOfCell, reduceIte, Nat.reduceAdd, Nat.reduceEqDiff, Nat.reduceMul]; rfl) sz3 ag3 (by first | rfl | assumption)) ?_
      refine c_val hP hn (by decide) trivial (e_assign (by simp only [St.look, St.ev, lk, mkM, blkOf, svOf, svOfCell, reduceIte, Nat.reduceAdd, Nat.reduceEqDiff, Nat.reduceMul]; rfl)) ?_
      refine c_val hP hn (by decide) trivial (e_assign (by simp only [St.look, St.ev, lk, mkM, blkOf, svOf, svOfCell, reduceIte, Nat.reduceAdd, Nat.reduceEqDiff, Nat.reduceMul]; rfl)) ?_
      show AWp cx _ _ _
      refine awp_seq ?_
      refine awp_drw hg hP mixed (by decide) ?_
      refine d_val hP hn (by decide) trivial (e_move (by simp only [St.look, St.ev, lk, mkM, blkOf, svOf, svOfCell, reduceIte, Nat.reduceAdd, Nat.reduceEqDiff, Nat.reduceMul]; rfl)) (by simp only [opTags, deref, svTag, List.flatMap_cons, List.flatMap_nil, St.look, St.ev, lk, mkM, blkOf, svOf, svOfCell, reduceIte, Nat.reduceAdd, Nat.reduceEqDiff, Nat.reduceMul]; rfl) ?_
      refine d_val hP hn (by decide) trivial (by first | exact e_field (by simp only [St.look, St.ev, lk, mkM, blkOf, svOf, svOfCell, reduceIte, Nat.reduceAdd, Nat.reduceEqDiff, Nat.reduceMul]; rfl) fd39_1 (by simp only [DV.cells, List.drop]; rfl) | exact e_fieldp (by simp only [St.look, St.ev, lk, mkM, blkOf, svOf, svOfCell, reduceIte, Nat.reduceAdd, Nat.reduceEqDiff, Nat.reduceMul]; rfl) fd39_1 rfl) (by simp only [opTags, deref, svTag, List.flatMap_cons, List.flatMap_nil, St.look, St.ev, lk, mkM, blkOf, svOf, svOfCell, reduceIte, Nat.reduceAdd, Nat.reduceEqDiff, Nat.reduceMul]; rfl) ?_
      refine d_val hP hn (by decide) trivial (by first | exact e_load (by simp only [St.look, St.ev, lk, mkM, blkOf, svOf, svOfCell, reduceIte, Nat.reduceAdd, Nat.reduceEqDiff, Nat.reduceMul]; rfl) sz25 ag25 (by rfl) | exact e_loadp (by simp only [St.look, St.ev, lk, mkM, blkOf, svOf, svOfCell, reduceIte, Nat.reduceAdd, Nat.reduceEqDiff, Nat.reduceMul]; rfl) sz25 ag25 (by first | rfl | assumption)) (by simp only [opTags, deref, svTag, List.flatMap_cons, List.flatMap_nil, St.look, St.ev, lk, mkM, blkOf, svOf, svOfCell, reduceIte, Nat.reduceAdd, Nat.reduceEqDiff, Nat.reduceMul]; rfl) ?_
      refine d_val hP hn (by decide) trivial (e_move (by simp only [St.look, St.ev, lk, mkM, blkOf, svOf, svOfCell, reduceIte, Nat.reduceAdd, Nat.reduceEqDiff, Nat.reduceMul]; rfl)) (by simp only [opTags, deref, svTag, List.flatMap_cons, List.flatMap_nil, St.look, St.ev, lk, mkM, blkOf, svOf, svOfCell, reduceIte, Nat.reduceAdd, Nat.reduceEqDiff, Nat.reduceMul]; rfl) ?_
      refine d_val hP hn (by decide) trivial (by first | exact e_indexN (by simp only [St.look, St.ev, lk, mkM, blkOf, svOf, svOfCell, reduceIte, Nat.reduceAdd, Nat.reduceEqDiff, Nat.reduceMul]; rfl) (by simp only [St.look, St.ev, lk, mkM, blkOf, svOf, svOfCell, reduceIte, Nat.reduceAdd, Nat.reduceEqDiff, Nat.reduceMul]; rfl) (by assumption) el25 (by exact sz3) | exact e_index (by simp only [St.look, St.ev, lk, mkM, blkOf, svOf, svOfCell, reduceIte, Nat.reduceAdd, Nat.reduceEqDiff, Nat.reduceMul]; rfl) (by simp only [St.look, St.ev, lk, mkM, blkOf, svOf, svOfCell, reduceIte, Nat.reduceAdd, Nat.reduceEqDiff, Nat.reduceMul]; rfl) (by omega) (by assumption) el25 (by exact sz3) | exact e_indexR (by simp only [St.look, St.ev, lk, mkM, blkOf, svOf, svOfCell, reduceIte, Nat.reduceAdd, Nat.reduceEqDiff, Nat.reduceMul]; rfl) (by simp only [St.look, St.ev, lk, mkM, blkOf, svOf, svOfCell, reduceIte, Nat.reduceAdd, Nat.reduceEqDiff, Nat.reduceMul]; rfl) (by omega) (by omega) el25 (by exact sz3) (by simp only [Int.toNat_natCast, Nat.zero_add, Nat.mul_one]; rfl)) (by simp only [opTags, deref, svTag, List.flatMap_cons, List.flatMap_nil, St.look, St.ev, lk, mkM, blkOf, svOf, svOfCell, reduceIte, Nat.reduceAdd, Nat.reduceEqDiff, Nat.reduceMul]; rfl) ?_
      refine d_val hP hn (by decide) trivial (by first | exact e_load (by simp only [St.look, St.ev, lk, mkM, blkOf, svOf, svOfCell, reduceIte, Nat.reduceAdd, Nat.reduceEqDiff, Nat.reduceMul]; rfl) sz3 ag3 (by rfl) | exact e_loadp (by simp only [St.look, St.ev, lk, mkM, blkOf, svOf, svOfCell, reduceIte, Nat.reduceAdd, Nat.reduceEqDiff, Nat.reduceMul]; rfl) sz3 ag3 (by first | rfl | assumption)) (by simp only [opTags, deref, svTag, List.flatMap_cons, List.flatMap_nil, St.look, St.ev, lk, mkM, blkOf, svOf, svOfCell, reduceIte, Nat.reduceAdd, Nat.reduceEqDiff, Nat.reduceMul]; rfl) ?_
      refine d_val hP hn (by decide) trivial (by first | exact e_field (by simp only [St.look, St.ev, lk, mkM, blkOf, svOf, svOfCell, reduceIte, Nat.reduceAdd, Nat.reduceEqDiff, Nat.reduceMul]; rfl) fd39_0 (by simp only [DV.cells, List.drop]; rfl) | exact e_fieldp (by simp only [St.look, St.ev, lk, mkM, blkOf, svOf, svOfCell, reduceIte, Nat.reduceAdd, Nat.reduceEqDiff, Nat.reduceMul]; rfl) fd39_0 rfl) (by simp only [opTags, deref, svTag, List.flatMap_cons, List.flatMap_nil, St.look, St.ev, lk, mkM, blkOf, svOf, svOfCell, reduceIte, Nat.reduceAdd, Nat.reduceEqDiff, Nat.reduceMul]; rfl) ?_
      refine d_val hP hn (by decide) trivial (by first | exact e_load (by simp only [St.look, St.ev, lk, mkM, blkOf, svOf, svOfCell, reduceIte, Nat.reduceAdd, Nat.reduceEqDiff, Nat.reduceMul]; rfl) sz25 ag25 (by rfl) | exact e_loadp (by simp only [St.look, St.ev, lk, mkM, blkOf, svOf, svOfCell, reduceIte, Nat.reduceAdd, Nat.reduceEqDiff, Nat.reduceMul]; rfl) sz25 ag25 (by first | rfl | assumption)) (by simp only [opTags, deref, svTag, List.flatMap_cons, List.flatMap_nil, St.look, St.ev, lk, mkM, blkOf, svOf, svOfCell, reduceIte, Nat.reduceAdd, Nat.reduceEqDiff, Nat.reduceMul]; rfl) ?_
      refine d_val hP hn (by decide) trivial (e_move (by simp only [St.look, St.ev, lk, mkM, blkOf, svOf, svOfCell, reduceIte, Nat.reduceAdd, Nat.reduceEqDiff, Nat.reduceMul]; rfl)) (by simp only [opTags, deref, svTag, List.flatMap_cons, List.flatMap_nil, St.look, St.ev, lk, mkM, blkOf, svOf, svOfCell, reduceIte, Nat.reduceAdd, Nat.reduceEqDiff, Nat.reduceMul]; rfl) ?_
      refine d_val hP hn (by decide) trivial (by first | exact e_indexN (by simp only [St.look, St.ev, lk, mkM, blkOf, svOf, svOfCell, reduceIte, Nat.reduceAdd, Nat.reduceEqDiff, Nat.reduceMul]; rfl) (by simp only [St.look, St.ev, lk, mkM, blkOf, svOf, svOfCell, reduceIte, Nat.reduceAdd, Nat.reduceEqDiff, Nat.reduceMul]; rfl) (by assumption) el25 (by exact sz3) | exact e_index (by simp only [St.look, St.ev, lk, mkM, blkOf, svOf, svOfCell, reduceIte, Nat.reduceAdd, Nat.reduceEqDiff, Nat.reduceMul]; rfl) (by simp only [St.look, St.ev, lk, mkM, blkOf, svOf, svOfCell, reduceIte, Nat.reduceAdd, Nat.reduceEqDiff, Nat.reduceMul]; rfl) (by omega) (by assumption) el25 (by exact sz3) | exact e_indexR (by simp only [St.look, St.ev, lk, mkM, blkOf, svOf, svOfCell, reduceIte, Nat.reduceAdd, Nat.reduceEqDiff, Nat.reduceMul]; rfl) (by simp only [St.look, St.ev, lk, mkM, blkOf, svOf, svOfCell, reduceIte, Nat.reduceAdd, Nat.reduceEqDiff, Nat.reduceMul]; rfl) (by omega) (by omega) el25 (by exact sz3) (by simp only [Int.toNat_natCast, Nat.zero_add, Nat.mul_one]; rfl)) (by simp only [opTags, deref, svTag, List.flatMap_cons, List.flatMap_nil, St.look, St.ev, lk, mkM, blkOf, svOf, svOfCell, reduceIte, Nat.reduceAdd, Nat.reduceEqDiff, Nat.reduceMul]; rfl) ?_
      refine d_val hP hn (by decide) trivial (by first | exact e_load (by simp only [St.look, St.ev, lk, mkM, blkOf, svOf, svOfCell, reduceIte, Nat.reduceAdd, Nat.reduceEqDiff, Nat.reduceMul]; rfl) sz3 ag3 (by rfl) | exact e_loadp (by simp only [St.look, St.ev, lk, mkM, blkOf, svOf, svOfCell, reduceIte, Nat.reduceAdd, Nat.reduceEqDiff, Nat.reduceMul]; rfl) sz3 ag3 (by first | rfl | assumption)) (by simp only [opTags, deref, svTag, List.flatMap_cons, List.flatMap_nil, St.look, St.ev, lk, mkM, blkOf, svOf, svOfCell, reduceIte, Nat.reduceAdd, Nat.reduceEqDiff, Nat.reduceMul]; rfl) ?_
      refine d_val hP hn (by decide) trivial (e_sub (by simp only [St.look, St.ev, lk, mkM, blkOf, svOf, svOfCell, reduceIte, Nat.reduceAdd, Nat.reduceEqDiff, Nat.reduceMul]; rfl) (by simp only [St.look, St.ev, lk, mkM, blkOf, svOf, svOfCell, reduceIte, Nat.reduceAdd, Nat.reduceEqDiff, Nat.reduceMul]; rfl) (by omega) (by omega)) (by simp only [opTags, deref, svTag, List.flatMap_cons, List.flatMap_nil, St.look, St.ev, lk, mkM, blkOf, svOf, svOfCell, reduceIte, Nat.reduceAdd, Nat.reduceEqDiff, Nat.reduceMul]; rfl) ?_
      refine d_val hP hn (by decide) trivial (e_add (by simp only [St.look, St.ev, lk, mkM, blkOf, svOf, svOfCell, reduceIte, Nat.reduceAdd, Nat.reduceEqDiff, Nat.reduceMul]; rfl) (by simp only [St.look, St.ev, lk, mkM, blkOf, svOf, svOfCell, reduceIte, Nat.reduceAdd, Nat.reduceEqDiff, Nat.reduceMul]; rfl) (by omega) (by omega)) (by simp only [opTags, deref, svTag, List.flatMap_cons, List.flatMap_nil, St.look, St.ev, lk, mkM, blkOf, svOf, svOfCell, reduceIte, Nat.reduceAdd, Nat.reduceEqDiff, Nat.reduceMul]; rfl) ?_
      refine d_val hP hn (by decide) trivial (e_assign (by simp only [St.look, St.ev, lk, mkM, blkOf, svOf, svOfCell, reduceIte, Nat.reduceAdd, Nat.reduceEqDiff, Nat.reduceMul]; rfl)) (by simp only [opTags, deref, svTag, List.flatMap_cons, List.flatMap_nil, St.look, St.ev, lk, mkM, blkOf, svOf, svOfCell, reduceIte, Nat.reduceAdd, Nat.reduceEqDiff, Nat.reduceMul]; rfl) ?_
      refine ⟨by rfl, ?_⟩
      show AWp cx _ _ _
      refine awp_seq ?_
      refine awp_seq ?_
      refine awp_reg hg ?_
      refine c_val hP hn (by decide) trivial (e_move (by simp only [St.look, St.ev, lk, mkM, blkOf, svOf, svOfCell, reduceIte, Nat.reduceAdd, Nat.reduceEqDiff, Nat.reduceMul]; rfl)) ?_
      refine c_val hP hn (by decide) trivial (e_gtr (by simp only [St.look, St.ev, lk, mkM, blkOf, svOf, svOfCell, reduceIte, Nat.reduceAdd, Nat.reduceEqDiff, Nat.reduceMul]; rfl) (by simp only [St.look, St.ev, lk, mkM, blkOf, svOf, svOfCell, reduceIte, Nat.reduceAdd, Nat.reduceEqDiff, Nat.reduceMul]; rfl)) ?_
      show AWp cx _ _ _
      refine awp_cond (by simp only [St.look, St.ev, lk, mkM, blkOf, svOf, svOfCell, reduceIte, Nat.reduceAdd, Nat.reduceEqDiff, Nat.reduceMul]; rfl) (fun hc2 => ?_) (fun hc2 => ?_)
      · try simp at hc2
        refine awp_seq ?_
        refine awp_reg hg ?_
        refine c_val hP hn (by decide) trivial (e_assign (by simp only [St.look, St.ev, lk, mkM, blkOf, svOf, svOfCell, reduceIte, Nat.reduceAdd, Nat.reduceEqDiff, Nat.reduceMul]; rfl)) ?_
        refine c_val hP hn (by decide) trivial (e_assign (by simp only [St.look, St.ev, lk, mkM, blkOf, svOf, svOfCell, reduceIte, Nat.reduceAdd, Nat.reduceEqDiff, Nat.reduceMul]; rfl)) ?_
        show AWp cx _ _ _
        refine awp_ret ?_
        have ea : ((moved s m).all fun n => decide (n ≤ 50)) = false := all_no (i := i) (by simpa using hin) (by rw [moved_at hin hit hig]; simpa using hc2)
        rw [show afterR s m = ([], 3) by simp only [afterR]; rw [if_neg (by simp [hc0]), if_neg (by simp [ea])]]
        exact end_row2 (.inr rfl) (s1 := .nils) (s2 := .dv (i64 3)) (by simp [lk]) (by simp [lk]) retOk_rK0 (.dv _ (.int _ _)) (.int _ _)
      · try simp at hc2
        refine awp_skip ?_
        show AWp cx _ _ _
        refine awp_reg hg ?_
        refine c_val hP hn (by decide) trivial (e_move (by simp only [St.look, St.ev, lk, mkM, blkOf, svOf, svOfCell, reduceIte, Nat.reduceAdd, Nat.reduceEqDiff, Nat.reduceMul]; rfl)) ?_
        refine c_val hP hn (by decide) trivial (e_move (by simp only [St.look, St.ev, lk, mkM, blkOf, svOf, svOfCell, reduceIte, Nat.reduceAdd, Nat.reduceEqDiff, Nat.reduceMul]; rfl)) ?_
        refine c_row hP hn (by decide) trivial (e_buildSlice (by simp only [List.map, St.look, St.ev, lk, mkM, blkOf, svOf, svOfCell, reduceIte, Nat.reduceAdd, Nat.reduceEqDiff, Nat.reduceMul]; rfl) el25 ze3 sz3 rfl (by decide) (by decide) (by simp [fillSV, putCells, cellsSV, List.replicate]; rfl)) rfl (by simp only [mkM, reduceIte, Nat.reduceEqDiff]; rfl) ?_
        first
        | refine c_app0 hP hn (by decide) trivial (e_app0 (by simp only [St.look, St.ev, lk, mkM, blkOf, svOf, svOfCell, reduceIte, Nat.reduceAdd, Nat.reduceEqDiff, Nat.reduceMul]; rfl) (by simp only [St.look, St.ev, lk, mkM, blkOf, svOf, svOfCell, reduceIte, Nat.reduceAdd, Nat.reduceEqDiff, Nat.reduceMul]; first | exact src_ints | rfl | (simp [srcSV, cellOk]; rfl)) el25 el25 ze3 sz3 by3 (by first | omega | (simp; try omega)) (by first | omega | (simp; try omega)) rfl) (by simp only [mkM, reduceIte, Nat.reduceEqDiff]; rfl) ?_
        | refine c_app1 hP hn (by decide) trivial (e_app1 (by simp only [St.look, St.ev, lk, mkM, blkOf, svOf, svOfCell, reduceIte, Nat.reduceAdd, Nat.reduceEqDiff, Nat.reduceMul]; rfl) (by simp only [St.look, St.ev, lk, mkM, blkOf, svOf, svOfCell, reduceIte, Nat.reduceAdd, Nat.reduceEqDiff, Nat.reduceMul]; first | exact src_ints | rfl | (simp [srcSV, cellOk]; rfl)) el25 el25 ze3 sz3 by3 (by rfl) (by rfl) (by rfl) (by first | omega | (simp; try omega)) (by first | omega | (simp; try omega)) (by first | omega | (simp; try omega)) rfl (by first | exact ints_snoc | exact ints_app | rfl)) (by simp only [mkM, reduceIte, Nat.reduceEqDiff]; rfl) (by simp only [mkM, reduceIte, Nat.reduceEqDiff]; rfl) rfl ?_
        refine c_val hP hn (by decide) trivial (e_assign (by simp only [St.look, St.ev, lk, mkM, blkOf, svOf, svOfCell, reduceIte, Nat.reduceAdd, Nat.reduceEqDiff, Nat.reduceMul]; rfl)) ?_
        show AWp cx _ _ _
        refine awp_reg hg ?_
        refine c_val hP hn (by decide) trivial (e_add (by simp only [St.look, St.ev, lk, mkM, blkOf, svOf, svOfCell, reduceIte, Nat.reduceAdd, Nat.reduceEqDiff, Nat.reduceMul]; rfl) (by simp only [St.look, St.ev, lk, mkM, blkOf, svOf, svOfCell, reduceIte, Nat.reduceAdd, Nat.reduceEqDiff, Nat.reduceMul]; rfl) (by omega) (by omega)) ?_
        refine c_val hP hn (by decide) trivial (e_move (by simp only [St.look, St.ev, lk, mkM, blkOf, svOf, svOfCell, reduceIte, Nat.reduceAdd, Nat.reduceEqDiff, Nat.reduceMul]; rfl)) ?_
        refine ⟨i + 1, ⟨hin, fun j hj h => ?_⟩, by simp only; omega, Le.tell hg [(2, 2), (6, 38)] (by simp [FLe, svLe, lk, mkM, isLive, tauL, hmv]) (by simp [MLe, blkLe, svLe, svLes, lk, mkM, isLive, tauL, svLes_ints, svLes_self, isDvs, isDvs_map, isDvs_app, isDvs_take, isDvs_set, isDvs_repl, hmv]) (by decide)⟩
        rcases Nat.lt_or_ge j i with h1 | h1
        · exact hφ0.2 j h1 h
        · obtain rfl : j = i := by omega
          rw [moved_at hin hit hig]; omega
    · try simp at hc1
      refine awp_exit ?_
      show AWp cx _ _ _
      refine awp_seq ?_
      refine awp_reg hg ?_
      refine c_val hP hn (by decide) trivial (e_move (by simp only [St.look, St.ev, lk, mkM, blkOf, svOf, svOfCell, reduceIte, Nat.reduceAdd, Nat.reduceEqDiff, Nat.reduceMul]; rfl)) ?_
      refine c_val hP hn (by decide) trivial (e_assign (by simp only [St.look, St.ev, lk, mkM, blkOf, svOf, svOfCell, reduceIte, Nat.reduceAdd, Nat.reduceEqDiff, Nat.reduceMul]; rfl)) ?_
      refine c_val hP hn (by decide) trivial (e_assign (by simp only [St.look, St.ev, lk, mkM, blkOf, svOf, svOfCell, reduceIte, Nat.reduceAdd, Nat.reduceEqDiff, Nat.reduceMul]; rfl)) ?_
      show AWp cx _ _ _
      refine awp_ret ?_
      have ea : ((moved s m).all fun n => decide (n ≤ 50)) = true := all_yes fun j hj => by simpa using hφ0.2 j (by simp at hj; omega) hj
      rw [show afterR s m = (moved s m, 0) by simp only [afterR]; rw [if_neg (by simp [hc0]), if_pos ea]]
      obtain rfl : i = m.length := by omega
      have hmm : (moved s m).take m.length = moved s m := List.take_of_length_le (by simp)
      exact end_row2 (.inr rfl) (by first | (simp only [lk, reduceIte, Nat.reduceEqDiff]; done) | (simp only [lk, reduceIte, Nat.reduceEqDiff]; rfl)) (by first | (simp only [lk, reduceIte, Nat.reduceEqDiff]; done) | (simp only [lk, reduceIte, Nat.reduceEqDiff]; rfl)) (retOk_rK (by simp only [mkM, reduceIte, Nat.reduceEqDiff, hmm]) (by simp)) (.dv _ (.int _ _)) (.int _ _)
end Go.Ab.Tryd
