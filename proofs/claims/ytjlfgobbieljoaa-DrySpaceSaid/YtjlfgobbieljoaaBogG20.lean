/- Dry6. -/
import Derived.Test.YtjlfgobbieljoaaBogG19
set_option linter.all false
set_option linter.all false
namespace Go.Ab.Try
open Go Go.Ab Go.Proofs
theorem filled_ok {y : Yd} {m : List Int} (h : filledE y [m] = 0) : VYd y ∧ VM y m := by
  unfold filledE at h
  split at h
  · rename_i h1; exact absurd h h1
  · rename_i h1
    refine ⟨by simpa [VYd] using h1, ?_⟩
    simp at h
    exact h
theorem listed_ok {y : Yd} {l : List Int} (h : listedE y l = 0) : l.length ≤ 40 ∧ ∀ x ∈ l, 0 ≤ x ∧ x < y.steps.length := by
  unfold listedE at h
  split at h
  · cases h
  · split at h
    · rename_i h1 h2
      refine ⟨by omega, fun x hx => ?_⟩
      have := List.all_eq_true.1 h2 x hx
      simp [within] at this
      omega
    · cases h
def runR (y : Yd) (m l : List Int) : List Int × Int × Int := if filledE y [m] ≠ 0 then ([], 0, filledE y [m]) else if listedE y l ≠ 0 then ([], 0, listedE y l) else runFrom y m l 0
theorem run_bad {y : Yd} {m a l : List Int} {i : Nat} (hi : i < l.length) (h : runFrom y m l 0 = runFrom y a (l.drop i) i) (hb : (afterR (stepAt y l[i]) a).2 ≠ 0) : runFrom y m l 0 = ([], (i : Int), (afterR (stepAt y l[i]) a).2) := by
  rw [h, List.drop_eq_getElem_cons hi]
  simp only [runFrom]
  rw [if_pos hb]
theorem run_next {y : Yd} {m a l : List Int} {i : Nat} (hi : i < l.length) (h : runFrom y m l 0 = runFrom y a (l.drop i) i) (hb : (afterR (stepAt y l[i]) a).2 = 0) : runFrom y m l 0 = runFrom y (afterR (stepAt y l[i]) a).1 (l.drop (i + 1)) (i + 1) := by
  rw [h, List.drop_eq_getElem_cons hi]
  simp only [runFrom]
  rw [if_neg (by simp [hb])]
theorem run_end {y : Yd} {m a l : List Int} {i : Nat} (hi : i = l.length) (h : runFrom y m l 0 = runFrom y a (l.drop i) i) : runFrom y m l 0 = (a, (l.length : Int), 0) := by
  subst hi
  rw [h, List.drop_length]
  rfl
def exY : Yd := ⟨2, [⟨[1, 0], [0, 1]⟩, ⟨[0, 2], [1, 0]⟩]⟩
theorem f59 (y : Yd) (m l : List Int) (hv : VYd y) (hm : VM y m) (hl40 : l.length ≤ 40) (hl : ∀ x ∈ l, 0 ≤ x ∧ x < y.steps.length) :
    ACallsF Try.prog 59 [dYd y, ints m, ints l] (.many [rI (runFrom y m l 0).1, .dv (i64 (runFrom y m l 0).2.1), .dv (i64 (runFrom y m l 0).2.2)]) := by
  have hml := allIn_len hm
  obtain ⟨v1, v2, v3, v4⟩ := validate_ok hv
  refine callsF_of Try.func59 rfl rfl (by rw [Try.ntmps59]; simp) fun cx hP hn hg => ?_
  rw [Try.ntmps59] at hn
  rw [startF_lk, none_mkM]
  simp only [zipSV, Nat.reduceAdd]
  refine awp_seq ?_
  refine awp_reg hg ?_
  refine c_pt hP hn (by decide) trivial (e_box (by simp only [St.look, St.ev, lk, mkM, blkOf, svOf, svOfCell, reduceIte, Nat.reduceAdd, Nat.reduceEqDiff, Nat.reduceMul]; rfl) (by simp only [cellsSV, List.map]; rfl)) rfl (by simp only [mkM, reduceIte, Nat.reduceEqDiff]; rfl) ?_
  refine c_val hP hn (by decide) trivial (e_assign (by simp only [St.look, St.ev, lk, mkM, blkOf, svOf, svOfCell, reduceIte, Nat.reduceAdd, Nat.reduceEqDiff, Nat.reduceMul]; rfl)) ?_
  refine c_val hP hn (by decide) trivial (e_assign (by simp only [St.look, St.ev, lk, mkM, blkOf, svOf, svOfCell, reduceIte, Nat.reduceAdd, Nat.reduceEqDiff, Nat.reduceMul]; rfl)) ?_
  refine c_val hP hn (by decide) trivial (e_assign (by simp only [St.look, St.ev, lk, mkM, blkOf, svOf, svOfCell, reduceIte, Nat.reduceAdd, Nat.reduceEqDiff, Nat.reduceMul]; rfl)) ?_
  show AWp cx _ _ _
  refine awp_seq ?_
  refine awp_reg hg ?_
  refine c_val hP hn (by decide) trivial (e_move (by simp only [St.look, St.ev, lk, mkM, blkOf, svOf, svOfCell, reduceIte, Nat.reduceAdd, Nat.reduceEqDiff, Nat.reduceMul]; rfl)) ?_
  refine c_callF hP hn (by decide) trivial (f76 m (by omega)) (by simp only [List.map, St.look, St.ev, lk, mkM, blkOf, svOf, svOfCell, reduceIte, Nat.reduceAdd, Nat.reduceEqDiff, Nat.reduceMul]; rfl) (by repeat (first | exact args_nil | refine args_cons data_dv ?_)) (by first | exact res_one | exact res_two | exact res_three | exact res_rK1 (by simp only [mkM, reduceIte, Nat.reduceEqDiff]; rfl) | exact res_rK2 (by simp only [mkM, reduceIte, Nat.reduceEqDiff]; rfl) | exact res_rK3 (by simp only [mkM, reduceIte, Nat.reduceEqDiff]; rfl) | exact res_row rfl | exact res_rowdv rfl | exact res_rowdvdv rfl) ?_
  refine c_val hP hn (by decide) trivial (e_assign (by simp only [St.look, St.ev, lk, mkM, blkOf, svOf, svOfCell, reduceIte, Nat.reduceAdd, Nat.reduceEqDiff, Nat.reduceMul]; rfl)) ?_
  show AWp cx _ _ _
  refine awp_seq ?_
  refine awp_seq ?_
  refine awp_reg hg ?_
  refine c_val hP hn (by decide) trivial (e_move (by simp only [St.look, St.ev, lk, mkM, blkOf, svOf, svOfCell, reduceIte, Nat.reduceAdd, Nat.reduceEqDiff, Nat.reduceMul]; rfl)) ?_
  refine c_val hP hn (by decide) trivial (by first | exact e_len (by simp only [St.look, St.ev, lk, mkM, blkOf, svOf, svOfCell, reduceIte, Nat.reduceAdd, Nat.reduceEqDiff, Nat.reduceMul]; rfl) il25 | exact e_lenR (by simp only [St.look, St.ev, lk, mkM, blkOf, svOf, svOfCell, reduceIte, Nat.reduceAdd, Nat.reduceEqDiff, Nat.reduceMul]; rfl) il25 | exact e_len0 (by simp only [St.look, St.ev, lk, mkM, blkOf, svOf, svOfCell, reduceIte, Nat.reduceAdd, Nat.reduceEqDiff, Nat.reduceMul]; rfl) il25) ?_
  refine c_val hP hn (by decide) trivial (e_move (by simp only [St.look, St.ev, lk, mkM, blkOf, svOf, svOfCell, reduceIte, Nat.reduceAdd, Nat.reduceEqDiff, Nat.reduceMul]; rfl)) ?_
  show AWp cx _ _ _
  refine awp_block ?_
  refine awp_loop (ι := Nat × List Int) (fun p => ⟨lk [(3, .pt 3 0 0), (1, .sl 1 0 0 p.2.length), (2, .dv (ints l)), (15, .dv (ints l)), (16, .dv (i64 (l.length : Int))), (17, .dv (i64 (p.1 : Nat)))], mkM [(3, 0, some ⟨[.dv (i64 y.places), .dv (.list (y.steps.map dStp))], 0, 24, 0, false⟩), (1, 0, some (rowI p.2))]⟩) (fun p => p.1 ≤ l.length ∧ VM y p.2 ∧ runFrom y m l 0 = runFrom y p.2 (l.drop p.1) p.1) (fun p => l.length - p.1) (0, m) ⟨Nat.zero_le _, hm, rfl⟩ (Le.tell hg [(3, 3), (1, 14)] (by simp [FLe, svLe, lk, mkM, isLive, tauL]) (by simp [MLe, blkLe, svLe, svLes, lk, mkM, isLive, tauL, svLes_ints, svLes_self, isDvs, isDvs_map, isDvs_app, isDvs_take, isDvs_set, isDvs_repl]) (by decide)) ?_
  intro ⟨i, a⟩ hφ0
  dsimp only at hφ0 ⊢
  refine awp_seq ?_
  refine awp_reg hg ?_
  refine c_val hP hn (by decide) trivial (e_lss (by simp only [St.look, St.ev, lk, mkM, blkOf, svOf, svOfCell, reduceIte, Nat.reduceAdd, Nat.reduceEqDiff, Nat.reduceMul]; rfl) (by simp only [St.look, St.ev, lk, mkM, blkOf, svOf, svOfCell, reduceIte, Nat.reduceAdd, Nat.reduceEqDiff, Nat.reduceMul]; rfl)) ?_
  show AWp cx _ _ _
  refine awp_seq ?_
  refine awp_cond (by simp only [St.look, St.ev, lk, mkM, blkOf, svOf, svOfCell, reduceIte, Nat.reduceAdd, Nat.reduceEqDiff, Nat.reduceMul]; rfl) (fun hc0 => ?_) (fun hc0 => ?_)
  · try simp at hc0
    refine awp_skip ?_
    show AWp cx _ _ _
    refine awp_seq ?_
    refine awp_block ?_
    refine awp_seq ?_
    refine awp_reg hg ?_
    have hin : i < l.length := by omega
    have hx : l[i]? = some l[i] := List.getElem?_eq_getElem hin
    obtain ⟨hs0, hs1⟩ := hl l[i] (List.getElem_mem hin)
    obtain ⟨hf, he⟩ := fits_of hv hφ0.2.1 hs0 hs1
    have hlen := hf.len
    refine c_val hP hn (by decide) trivial (e_move (by simp only [St.look, St.ev, lk, mkM, blkOf, svOf, svOfCell, reduceIte, Nat.reduceAdd, Nat.reduceEqDiff, Nat.reduceMul]; rfl)) ?_
    refine c_val hP hn (by decide) trivial (by first | exact e_indexN (by simp only [St.look, St.ev, lk, mkM, blkOf, svOf, svOfCell, reduceIte, Nat.reduceAdd, Nat.reduceEqDiff, Nat.reduceMul]; rfl) (by simp only [St.look, St.ev, lk, mkM, blkOf, svOf, svOfCell, reduceIte, Nat.reduceAdd, Nat.reduceEqDiff, Nat.reduceMul]; rfl) (by assumption) el25 (by exact sz3) | exact e_index (by simp only [St.look, St.ev, lk, mkM, blkOf, svOf, svOfCell, reduceIte, Nat.reduceAdd, Nat.reduceEqDiff, Nat.reduceMul]; rfl) (by simp only [St.look, St.ev, lk, mkM, blkOf, svOf, svOfCell, reduceIte, Nat.reduceAdd, Nat.reduceEqDiff, Nat.reduceMul]; rfl) (by omega) (by assumption) el25 (by exact sz3) | exact e_indexR (by simp only [St.look, St.ev, lk, mkM, blkOf, svOf, svOfCell, reduceIte, Nat.reduceAdd, Nat.reduceEqDiff, Nat.reduceMul]; rfl) (by simp only [St.look, St.ev, lk, mkM, blkOf, svOf, svOfCell, reduceIte, Nat.reduceAdd, Nat.reduceEqDiff, Nat.reduceMul]; rfl) (by omega) (by omega) el25 (by exact sz3) (by simp only [Int.toNat_natCast, Nat.zero_add, Nat.mul_one]; rfl)) ?_
    refine c_val hP hn (by decide) trivial (by first | exact e_load (by simp only [St.look, St.ev, lk, mkM, blkOf, svOf, svOfCell, reduceIte, Nat.reduceAdd, Nat.reduceEqDiff, Nat.reduceMul]; rfl) sz3 ag3 (by rfl) | exact e_loadp (by simp only [St.look, St.ev, lk, mkM, blkOf, svOf, svOfCell, reduceIte, Nat.reduceAdd, Nat.reduceEqDiff, Nat.reduceMul]; rfl) sz3 ag3 (by first | rfl | assumption)) ?_
    refine c_val hP hn (by decide) trivial (e_assign (by simp only [St.look, St.ev, lk, mkM, blkOf, svOf, svOfCell, reduceIte, Nat.reduceAdd, Nat.reduceEqDiff, Nat.reduceMul]; rfl)) ?_
    refine c_val hP hn (by decide) trivial (e_assign (by simp only [St.look, St.ev, lk, mkM, blkOf, svOf, svOfCell, reduceIte, Nat.reduceAdd, Nat.reduceEqDiff, Nat.reduceMul]; rfl)) ?_
    show AWp cx _ _ _
    refine awp_seq ?_
    refine awp_reg hg ?_
    refine c_val hP hn (by decide) trivial (by first | exact e_field (by simp only [St.look, St.ev, lk, mkM, blkOf, svOf, svOfCell, reduceIte, Nat.reduceAdd, Nat.reduceEqDiff, Nat.reduceMul]; rfl) fd24_1 (by simp only [DV.cells, List.drop]; rfl) | exact e_fieldp (by simp only [St.look, St.ev, lk, mkM, blkOf, svOf, svOfCell, reduceIte, Nat.reduceAdd, Nat.reduceEqDiff, Nat.reduceMul]; rfl) fd24_1 rfl) ?_
    refine c_val hP hn (by decide) trivial (by first | exact e_load (by simp only [St.look, St.ev, lk, mkM, blkOf, svOf, svOfCell, reduceIte, Nat.reduceAdd, Nat.reduceEqDiff, Nat.reduceMul]; rfl) sz22 ag22 (by rfl) | exact e_loadp (by simp only [St.look, St.ev, lk, mkM, blkOf, svOf, svOfCell, reduceIte, Nat.reduceAdd, Nat.reduceEqDiff, Nat.reduceMul]; rfl) sz22 ag22 (by first | rfl | assumption)) ?_
    refine c_val hP hn (by decide) trivial (e_move (by simp only [St.look, St.ev, lk, mkM, blkOf, svOf, svOfCell, reduceIte, Nat.reduceAdd, Nat.reduceEqDiff, Nat.reduceMul]; rfl)) ?_
    refine c_val hP hn (by decide) trivial (by first | exact e_indexN (by simp only [St.look, St.ev, lk, mkM, blkOf, svOf, svOfCell, reduceIte, Nat.reduceAdd, Nat.reduceEqDiff, Nat.reduceMul]; rfl) (by simp only [St.look, St.ev, lk, mkM, blkOf, svOf, svOfCell, reduceIte, Nat.reduceAdd, Nat.reduceEqDiff, Nat.reduceMul]; rfl) (by assumption) el22 (by exact sz55) | exact e_index (by simp only [St.look, St.ev, lk, mkM, blkOf, svOf, svOfCell, reduceIte, Nat.reduceAdd, Nat.reduceEqDiff, Nat.reduceMul]; rfl) (by simp only [St.look, St.ev, lk, mkM, blkOf, svOf, svOfCell, reduceIte, Nat.reduceAdd, Nat.reduceEqDiff, Nat.reduceMul]; rfl) (by omega) (by assumption) el22 (by exact sz55) | exact e_indexR (by simp only [St.look, St.ev, lk, mkM, blkOf, svOf, svOfCell, reduceIte, Nat.reduceAdd, Nat.reduceEqDiff, Nat.reduceMul]; rfl) (by simp only [St.look, St.ev, lk, mkM, blkOf, svOf, svOfCell, reduceIte, Nat.reduceAdd, Nat.reduceEqDiff, Nat.reduceMul]; rfl) (by omega) (by omega) el22 (by exact sz55) (by simp only [Int.toNat_natCast, Nat.zero_add, Nat.mul_one]; rfl)) ?_
    refine c_val hP hn (by decide) trivial (by first | exact e_loada (by simp only [St.look, St.ev, lk, mkM, blkOf, svOf, svOfCell, reduceIte, Nat.reduceAdd, Nat.reduceEqDiff, Nat.reduceMul]; rfl) sz55 ag55 (by first | exact Nat.le_refl _ | simp [DV.cells]) (by simp only [DV.cells, List.take]; rfl) | exact e_loadpa (by simp only [St.look, St.ev, lk, mkM, blkOf, svOf, svOfCell, reduceIte, Nat.reduceAdd, Nat.reduceEqDiff, Nat.reduceMul]; rfl) sz55 ag55 (by first | exact Nat.le_refl _ | simp) (by simp only [aggSV, allDv, List.drop, List.take]; rfl)) ?_
    refine c_val hP hn (by decide) trivial (e_move (by simp only [St.look, St.ev, lk, mkM, blkOf, svOf, svOfCell, reduceIte, Nat.reduceAdd, Nat.reduceEqDiff, Nat.reduceMul]; rfl)) ?_
    refine c_callF hP hn (by decide) trivial (f69 (stepAt y l[i]) a hf) (by simp only [List.map, St.look, St.ev, lk, mkM, blkOf, svOf, svOfCell, reduceIte, Nat.reduceAdd, Nat.reduceEqDiff, Nat.reduceMul]; rfl) (args_cons data_dv (args_cons (data_ints (L := a) (by first | (simp only [mkM, reduceIte, Nat.reduceEqDiff]; done) | (simp only [mkM, reduceIte, Nat.reduceEqDiff]; rfl)) trivial rfl rfl rfl (fun _ => trivial)) args_nil)) (by first | exact res_one | exact res_two | exact res_three | exact res_rK1 (by simp only [mkM, reduceIte, Nat.reduceEqDiff]; rfl) | exact res_rK2 (by simp only [mkM, reduceIte, Nat.reduceEqDiff]; rfl) | exact res_rK3 (by simp only [mkM, reduceIte, Nat.reduceEqDiff]; rfl) | exact res_row rfl | exact res_rowdv rfl | exact res_rowdvdv rfl) ?_
    refine c_val hP hn (by decide) trivial (e_move (by simp only [St.look, St.ev, lk, mkM, blkOf, svOf, svOfCell, reduceIte, Nat.reduceAdd, Nat.reduceEqDiff, Nat.reduceMul]; rfl)) ?_
    refine c_val hP hn (by decide) trivial (e_extract (by simp only [St.look, St.ev, lk, mkM, blkOf, svOf, svOfCell, reduceIte, Nat.reduceAdd, Nat.reduceEqDiff, Nat.reduceMul]; rfl) rfl) ?_
    refine c_val hP hn (by decide) trivial (e_extract (by simp only [St.look, St.ev, lk, mkM, blkOf, svOf, svOfCell, reduceIte, Nat.reduceAdd, Nat.reduceEqDiff, Nat.reduceMul]; rfl) rfl) ?_
    refine c_val hP hn (by decide) trivial (e_assign (by simp only [St.look, St.ev, lk, mkM, blkOf, svOf, svOfCell, reduceIte, Nat.reduceAdd, Nat.reduceEqDiff, Nat.reduceMul]; rfl)) ?_
    refine c_val hP hn (by decide) trivial (e_assign (by simp only [St.look, St.ev, lk, mkM, blkOf, svOf, svOfCell, reduceIte, Nat.reduceAdd, Nat.reduceEqDiff, Nat.reduceMul]; rfl)) ?_
    show AWp cx _ _ _
    refine awp_seq ?_
    refine awp_seq ?_
    refine awp_reg hg ?_
    refine c_val hP hn (by decide) trivial (e_move (by simp only [St.look, St.ev, lk, mkM, blkOf, svOf, svOfCell, reduceIte, Nat.reduceAdd, Nat.reduceEqDiff, Nat.reduceMul]; rfl)) ?_
    refine c_val hP hn (by decide) trivial (e_neq (by simp only [St.look, St.ev, lk, mkM, blkOf, svOf, svOfCell, reduceIte, Nat.reduceAdd, Nat.reduceEqDiff, Nat.reduceMul]; rfl) (by simp only [St.look, St.ev, lk, mkM, blkOf, svOf, svOfCell, reduceIte, Nat.reduceAdd, Nat.reduceEqDiff, Nat.reduceMul]; rfl)) ?_
    show AWp cx _ _ _
    refine awp_cond (by simp only [St.look, St.ev, lk, mkM, blkOf, svOf, svOfCell, reduceIte, Nat.reduceAdd, Nat.reduceEqDiff, Nat.reduceMul]; rfl) (fun hc1 => ?_) (fun hc1 => ?_)
    · try simp at hc1
      refine awp_seq ?_
      refine awp_reg hg ?_
      refine c_val hP hn (by decide) trivial (e_move (by simp only [St.look, St.ev, lk, mkM, blkOf, svOf, svOfCell, reduceIte, Nat.reduceAdd, Nat.reduceEqDiff, Nat.reduceMul]; rfl)) ?_
      refine c_val hP hn (by decide) trivial (e_move (by simp only [St.look, St.ev, lk, mkM, blkOf, svOf, svOfCell, reduceIte, Nat.reduceAdd, Nat.reduceEqDiff, Nat.reduceMul]; rfl)) ?_
      refine c_val hP hn (by decide) trivial (e_assign (by simp only [St.look, St.ev, lk, mkM, blkOf, svOf, svOfCell, reduceIte, Nat.reduceAdd, Nat.reduceEqDiff, Nat.reduceMul]; rfl)) ?_
      refine c_val hP hn (by decide) trivial (e_assign (by simp only [St.look, St.ev, lk, mkM, blkOf, svOf, svOfCell, reduceIte, Nat.reduceAdd, Nat.reduceEqDiff, Nat.reduceMul]; rfl)) ?_
      refine c_val hP hn (by decide) trivial (e_assign (by simp only [St.look, St.ev, lk, mkM, blkOf, svOf, svOfCell, reduceIte, Nat.reduceAdd, Nat.reduceEqDiff, Nat.reduceMul]; rfl)) ?_
      show AWp cx _ _ _
      refine awp_ret ?_
      rw [run_bad hin hφ0.2.2 hc1]
      exact end_row3 (.inr rfl) (s1 := .nils) (s2 := .dv (i64 (i : Nat))) (s3 := .dv (i64 ((afterR (stepAt y l[i]) a).2))) (by first | (simp only [lk, reduceIte, Nat.reduceEqDiff]; done) | (simp only [lk, reduceIte, Nat.reduceEqDiff]; rfl)) (by first | (simp only [lk, reduceIte, Nat.reduceEqDiff]; done) | (simp only [lk, reduceIte, Nat.reduceEqDiff]; rfl)) (by first | (simp only [lk, reduceIte, Nat.reduceEqDiff]; done) | (simp only [lk, reduceIte, Nat.reduceEqDiff]; rfl)) retOk_rK0 (.dv _ (.int _ _)) (.dv _ (.int _ _)) (.int _ _) (.int _ _)
    · try simp at hc1
      refine awp_skip ?_
      show AWp cx _ _ _
      refine awp_reg hg ?_
      refine c_val hP hn (by decide) trivial (e_move (by simp only [St.look, St.ev, lk, mkM, blkOf, svOf, svOfCell, reduceIte, Nat.reduceAdd, Nat.reduceEqDiff, Nat.reduceMul]; rfl)) ?_
      refine c_val hP hn (by decide) trivial (e_assign (by simp only [St.look, St.ev, lk, mkM, blkOf, svOf, svOfCell, reduceIte, Nat.reduceAdd, Nat.reduceEqDiff, Nat.reduceMul]; rfl)) ?_
      show AWp cx _ _ _
      refine awp_reg hg ?_
      refine c_val hP hn (by decide) trivial (e_add (by simp only [St.look, St.ev, lk, mkM, blkOf, svOf, svOfCell, reduceIte, Nat.reduceAdd, Nat.reduceEqDiff, Nat.reduceMul]; rfl) (by simp only [St.look, St.ev, lk, mkM, blkOf, svOf, svOfCell, reduceIte, Nat.reduceAdd, Nat.reduceEqDiff, Nat.reduceMul]; rfl) (by omega) (by omega)) ?_
      refine c_val hP hn (by decide) trivial (e_move (by simp only [St.look, St.ev, lk, mkM, blkOf, svOf, svOfCell, reduceIte, Nat.reduceAdd, Nat.reduceEqDiff, Nat.reduceMul]; rfl)) ?_
      refine ⟨(i + 1, (afterR (stepAt y l[i]) a).1), ⟨hin, (after_vm hv hφ0.2.1 hs0 hs1 hc1).1, run_next hin hφ0.2.2 hc1⟩, by simp only; omega, Le.tell hg [(3, 3), (1, 29)] (by simp [FLe, svLe, lk, mkM, isLive, tauL]) (by simp [MLe, blkLe, svLe, svLes, lk, mkM, isLive, tauL, svLes_ints, svLes_self, isDvs, isDvs_map, isDvs_app, isDvs_take, isDvs_set, isDvs_repl]) (by decide)⟩
  · try simp at hc0
    refine awp_exit ?_
    show AWp cx _ _ _
    refine awp_seq ?_
    refine awp_reg hg ?_
    refine c_val hP hn (by decide) trivial (e_move (by simp only [St.look, St.ev, lk, mkM, blkOf, svOf, svOfCell, reduceIte, Nat.reduceAdd, Nat.reduceEqDiff, Nat.reduceMul]; rfl)) ?_
    refine c_val hP hn (by decide) trivial (e_move (by simp only [St.look, St.ev, lk, mkM, blkOf, svOf, svOfCell, reduceIte, Nat.reduceAdd, Nat.reduceEqDiff, Nat.reduceMul]; rfl)) ?_
    refine c_val hP hn (by decide) trivial (by first | exact e_len (by simp only [St.look, St.ev, lk, mkM, blkOf, svOf, svOfCell, reduceIte, Nat.reduceAdd, Nat.reduceEqDiff, Nat.reduceMul]; rfl) il25 | exact e_lenR (by simp only [St.look, St.ev, lk, mkM, blkOf, svOf, svOfCell, reduceIte, Nat.reduceAdd, Nat.reduceEqDiff, Nat.reduceMul]; rfl) il25 | exact e_len0 (by simp only [St.look, St.ev, lk, mkM, blkOf, svOf, svOfCell, reduceIte, Nat.reduceAdd, Nat.reduceEqDiff, Nat.reduceMul]; rfl) il25) ?_
    refine c_val hP hn (by decide) trivial (e_assign (by simp only [St.look, St.ev, lk, mkM, blkOf, svOf, svOfCell, reduceIte, Nat.reduceAdd, Nat.reduceEqDiff, Nat.reduceMul]; rfl)) ?_
    refine c_val hP hn (by decide) trivial (e_assign (by simp only [St.look, St.ev, lk, mkM, blkOf, svOf, svOfCell, reduceIte, Nat.reduceAdd, Nat.reduceEqDiff, Nat.reduceMul]; rfl)) ?_
    refine c_val hP hn (by decide) trivial (e_assign (by simp only [St.look, St.ev, lk, mkM, blkOf, svOf, svOfCell, reduceIte, Nat.reduceAdd, Nat.reduceEqDiff, Nat.reduceMul]; rfl)) ?_
    show AWp cx _ _ _
    refine awp_ret ?_
    rw [run_end (by omega) hφ0.2.2]
    exact end_row3 (.inr rfl) (by first | (simp only [lk, reduceIte, Nat.reduceEqDiff]; done) | (simp only [lk, reduceIte, Nat.reduceEqDiff]; rfl)) (by first | (simp only [lk, reduceIte, Nat.reduceEqDiff]; done) | (simp only [lk, reduceIte, Nat.reduceEqDiff]; rfl)) (by first | (simp only [lk, reduceIte, Nat.reduceEqDiff]; done) | (simp only [lk, reduceIte, Nat.reduceEqDiff]; rfl)) (retOk_rK (by first | (simp only [mkM, reduceIte, Nat.reduceEqDiff]; done) | (simp only [mkM, reduceIte, Nat.reduceEqDiff]; rfl)) rfl) (.dv _ (.int _ _)) (.dv _ (.int _ _)) (.int _ _) (.int _ _)
theorem f19 (y : Yd) (m l : List Int) : ACallsF Try.prog 19 [dYd y, ints m, ints l] (.many [rI (runR y m l).1, .dv (i64 (runR y m l).2.1), .dv (i64 (runR y m l).2.2)]) := by
  refine callsF_of Try.func19 rfl rfl (by rw [Try.ntmps19]; simp) fun cx hP hn hg => ?_
  rw [Try.ntmps19] at hn
  rw [startF_lk, none_mkM]
  simp only [zipSV, Nat.reduceAdd]
  refine awp_seq ?_
  refine awp_reg hg ?_
  refine c_pt hP hn (by decide) trivial (e_box (by simp only [St.look, St.ev, lk, mkM, blkOf, svOf, svOfCell, reduceIte, Nat.reduceAdd, Nat.reduceEqDiff, Nat.reduceMul]; rfl) (by simp only [cellsSV, List.map]; rfl)) rfl (by simp only [mkM, reduceIte, Nat.reduceEqDiff]; rfl) ?_
  refine c_val hP hn (by decide) trivial (e_assign (by simp only [St.look, St.ev, lk, mkM, blkOf, svOf, svOfCell, reduceIte, Nat.reduceAdd, Nat.reduceEqDiff, Nat.reduceMul]; rfl)) ?_
  refine c_val hP hn (by decide) trivial (e_assign (by simp only [St.look, St.ev, lk, mkM, blkOf, svOf, svOfCell, reduceIte, Nat.reduceAdd, Nat.reduceEqDiff, Nat.reduceMul]; rfl)) ?_
  refine c_val hP hn (by decide) trivial (e_assign (by simp only [St.look, St.ev, lk, mkM, blkOf, svOf, svOfCell, reduceIte, Nat.reduceAdd, Nat.reduceEqDiff, Nat.reduceMul]; rfl)) ?_
  show AWp cx _ _ _
  refine awp_seq ?_
  refine awp_seq ?_
  refine awp_reg hg ?_
  refine c_val hP hn (by decide) trivial (by first | exact e_loada (by simp only [St.look, St.ev, lk, mkM, blkOf, svOf, svOfCell, reduceIte, Nat.reduceAdd, Nat.reduceEqDiff, Nat.reduceMul]; rfl) sz24 ag24 (by first | exact Nat.le_refl _ | simp [DV.cells]) (by simp only [DV.cells, List.take]; rfl) | exact e_loadpa (by simp only [St.look, St.ev, lk, mkM, blkOf, svOf, svOfCell, reduceIte, Nat.reduceAdd, Nat.reduceEqDiff, Nat.reduceMul]; rfl) sz24 ag24 (by first | exact Nat.le_refl _ | simp) (by simp only [aggSV, allDv, List.drop, List.take]; rfl)) ?_
  refine c_val hP hn (by decide) trivial (e_move (by simp only [St.look, St.ev, lk, mkM, blkOf, svOf, svOfCell, reduceIte, Nat.reduceAdd, Nat.reduceEqDiff, Nat.reduceMul]; rfl)) ?_
  refine c_row hP hn (by decide) trivial (e_buildSlice (by simp only [List.map, St.look, St.ev, lk, mkM, blkOf, svOf, svOfCell, reduceIte, Nat.reduceAdd, Nat.reduceEqDiff, Nat.reduceMul]; rfl) el91 ze25 sz25 rfl (by decide) (by decide) (by simp [fillSV, putCells, cellsSV, List.replicate]; rfl)) rfl (by simp only [mkM, reduceIte, Nat.reduceEqDiff]; rfl) ?_
  refine c_callF hP hn (by decide) trivial (f57 y [m] (by simp)) (by simp only [List.map, St.look, St.ev, lk, mkM, blkOf, svOf, svOfCell, reduceIte, Nat.reduceAdd, Nat.reduceEqDiff, Nat.reduceMul]; rfl) (args_cons data_dv (args_cons (data_row (l := [ints m]) (by simp [mkM]; rfl) trivial rfl (by simp [DV.cells]) (by simp [flat, DV.cells]) (fun _ _ => trivial)) args_nil)) (by first | exact res_one | exact res_two | exact res_three | exact res_rK1 (by simp only [mkM, reduceIte, Nat.reduceEqDiff]; rfl) | exact res_rK2 (by simp only [mkM, reduceIte, Nat.reduceEqDiff]; rfl) | exact res_rK3 (by simp only [mkM, reduceIte, Nat.reduceEqDiff]; rfl) | exact res_row rfl | exact res_rowdv rfl | exact res_rowdvdv rfl) ?_
  refine c_val hP hn (by decide) trivial (e_assign (by simp only [St.look, St.ev, lk, mkM, blkOf, svOf, svOfCell, reduceIte, Nat.reduceAdd, Nat.reduceEqDiff, Nat.reduceMul]; rfl)) ?_
  show AWp cx _ _ _
  refine awp_seq ?_
  refine awp_reg hg ?_
  refine c_val hP hn (by decide) trivial (e_move (by simp only [St.look, St.ev, lk, mkM, blkOf, svOf, svOfCell, reduceIte, Nat.reduceAdd, Nat.reduceEqDiff, Nat.reduceMul]; rfl)) ?_
  refine c_val hP hn (by decide) trivial (e_neq (by simp only [St.look, St.ev, lk, mkM, blkOf, svOf, svOfCell, reduceIte, Nat.reduceAdd, Nat.reduceEqDiff, Nat.reduceMul]; rfl) (by simp only [St.look, St.ev, lk, mkM, blkOf, svOf, svOfCell, reduceIte, Nat.reduceAdd, Nat.reduceEqDiff, Nat.reduceMul]; rfl)) ?_
  show AWp cx _ _ _
  refine awp_cond (by simp only [St.look, St.ev, lk, mkM, blkOf, svOf, svOfCell, reduceIte, Nat.reduceAdd, Nat.reduceEqDiff, Nat.reduceMul]; rfl) (fun hc0 => ?_) (fun hc0 => ?_)
  · try simp at hc0
    refine awp_seq ?_
    refine awp_reg hg ?_
    refine c_val hP hn (by decide) trivial (e_move (by simp only [St.look, St.ev, lk, mkM, blkOf, svOf, svOfCell, reduceIte, Nat.reduceAdd, Nat.reduceEqDiff, Nat.reduceMul]; rfl)) ?_
    refine c_val hP hn (by decide) trivial (e_assign (by simp only [St.look, St.ev, lk, mkM, blkOf, svOf, svOfCell, reduceIte, Nat.reduceAdd, Nat.reduceEqDiff, Nat.reduceMul]; rfl)) ?_
    refine c_val hP hn (by decide) trivial (e_assign (by simp only [St.look, St.ev, lk, mkM, blkOf, svOf, svOfCell, reduceIte, Nat.reduceAdd, Nat.reduceEqDiff, Nat.reduceMul]; rfl)) ?_
    refine c_val hP hn (by decide) trivial (e_assign (by simp only [St.look, St.ev, lk, mkM, blkOf, svOf, svOfCell, reduceIte, Nat.reduceAdd, Nat.reduceEqDiff, Nat.reduceMul]; rfl)) ?_
    show AWp cx _ _ _
    refine awp_ret ?_
    rw [show runR y m l = ([], 0, filledE y [m]) by simp only [runR]; rw [if_pos hc0]]
    exact end_row3 (.inr rfl) (s1 := .nils) (s2 := .dv (i64 (0))) (s3 := .dv (i64 (filledE y [m]))) (by first | (simp only [lk, reduceIte, Nat.reduceEqDiff]; done) | (simp only [lk, reduceIte, Nat.reduceEqDiff]; rfl)) (by first | (simp only [lk, reduceIte, Nat.reduceEqDiff]; done) | (simp only [lk, reduceIte, Nat.reduceEqDiff]; rfl)) (by first | (simp only [lk, reduceIte, Nat.reduceEqDiff]; done) | (simp only [lk, reduceIte, Nat.reduceEqDiff]; rfl)) retOk_rK0 (.dv _ (.int _ _)) (.dv _ (.int _ _)) (.int _ _) (.int _ _)
  · try simp at hc0
    refine awp_skip ?_
    show AWp cx _ _ _
    refine awp_seq ?_
    refine awp_seq ?_
    refine awp_reg hg ?_
    obtain ⟨hv, hm⟩ := filled_ok hc0
    obtain ⟨v1, v2, v3, v4⟩ := validate_ok hv
    refine c_val hP hn (by decide) trivial (by first | exact e_loada (by simp only [St.look, St.ev, lk, mkM, blkOf, svOf, svOfCell, reduceIte, Nat.reduceAdd, Nat.reduceEqDiff, Nat.reduceMul]; rfl) sz24 ag24 (by first | exact Nat.le_refl _ | simp [DV.cells]) (by simp only [DV.cells, List.take]; rfl) | exact e_loadpa (by simp only [St.look, St.ev, lk, mkM, blkOf, svOf, svOfCell, reduceIte, Nat.reduceAdd, Nat.reduceEqDiff, Nat.reduceMul]; rfl) sz24 ag24 (by first | exact Nat.le_refl _ | simp) (by simp only [aggSV, allDv, List.drop, List.take]; rfl)) ?_
    refine c_val hP hn (by decide) trivial (e_move (by simp only [St.look, St.ev, lk, mkM, blkOf, svOf, svOfCell, reduceIte, Nat.reduceAdd, Nat.reduceEqDiff, Nat.reduceMul]; rfl)) ?_
    refine c_callF hP hn (by decide) trivial (f58 y l (by omega)) (by simp only [List.map, St.look, St.ev, lk, mkM, blkOf, svOf, svOfCell, reduceIte, Nat.reduceAdd, Nat.reduceEqDiff, Nat.reduceMul]; rfl) (by repeat (first | exact args_nil | refine args_cons data_dv ?_)) (by first | exact res_one | exact res_two | exact res_three | exact res_rK1 (by simp only [mkM, reduceIte, Nat.reduceEqDiff]; rfl) | exact res_rK2 (by simp only [mkM, reduceIte, Nat.reduceEqDiff]; rfl) | exact res_rK3 (by simp only [mkM, reduceIte, Nat.reduceEqDiff]; rfl) | exact res_row rfl | exact res_rowdv rfl | exact res_rowdvdv rfl) ?_
    refine c_val hP hn (by decide) trivial (e_assign (by simp only [St.look, St.ev, lk, mkM, blkOf, svOf, svOfCell, reduceIte, Nat.reduceAdd, Nat.reduceEqDiff, Nat.reduceMul]; rfl)) ?_
    show AWp cx _ _ _
    refine awp_seq ?_
    refine awp_reg hg ?_
    refine c_val hP hn (by decide) trivial (e_move (by simp only [St.look, St.ev, lk, mkM, blkOf, svOf, svOfCell, reduceIte, Nat.reduceAdd, Nat.reduceEqDiff, Nat.reduceMul]; rfl)) ?_
    refine c_val hP hn (by decide) trivial (e_neq (by simp only [St.look, St.ev, lk, mkM, blkOf, svOf, svOfCell, reduceIte, Nat.reduceAdd, Nat.reduceEqDiff, Nat.reduceMul]; rfl) (by simp only [St.look, St.ev, lk, mkM, blkOf, svOf, svOfCell, reduceIte, Nat.reduceAdd, Nat.reduceEqDiff, Nat.reduceMul]; rfl)) ?_
    show AWp cx _ _ _
    refine awp_cond (by simp only [St.look, St.ev, lk, mkM, blkOf, svOf, svOfCell, reduceIte, Nat.reduceAdd, Nat.reduceEqDiff, Nat.reduceMul]; rfl) (fun hc1 => ?_) (fun hc1 => ?_)
    · try simp at hc1
      refine awp_seq ?_
      refine awp_reg hg ?_
      refine c_val hP hn (by decide) trivial (e_move (by simp only [St.look, St.ev, lk, mkM, blkOf, svOf, svOfCell, reduceIte, Nat.reduceAdd, Nat.reduceEqDiff, Nat.reduceMul]; rfl)) ?_
      refine c_val hP hn (by decide) trivial (e_assign (by simp only [St.look, St.ev, lk, mkM, blkOf, svOf, svOfCell, reduceIte, Nat.reduceAdd, Nat.reduceEqDiff, Nat.reduceMul]; rfl)) ?_
      refine c_val hP hn (by decide) trivial (e_assign (by simp only [St.look, St.ev, lk, mkM, blkOf, svOf, svOfCell, reduceIte, Nat.reduceAdd, Nat.reduceEqDiff, Nat.reduceMul]; rfl)) ?_
      refine c_val hP hn (by decide) trivial (e_assign (by simp only [St.look, St.ev, lk, mkM, blkOf, svOf, svOfCell, reduceIte, Nat.reduceAdd, Nat.reduceEqDiff, Nat.reduceMul]; rfl)) ?_
      show AWp cx _ _ _
      refine awp_ret ?_
      rw [show runR y m l = ([], 0, listedE y l) by simp only [runR]; rw [if_neg (by simp [hc0]), if_pos hc1]]
      exact end_row3 (.inr rfl) (s1 := .nils) (s2 := .dv (i64 (0))) (s3 := .dv (i64 (listedE y l))) (by first | (simp only [lk, reduceIte, Nat.reduceEqDiff]; done) | (simp only [lk, reduceIte, Nat.reduceEqDiff]; rfl)) (by first | (simp only [lk, reduceIte, Nat.reduceEqDiff]; done) | (simp only [lk, reduceIte, Nat.reduceEqDiff]; rfl)) (by first | (simp only [lk, reduceIte, Nat.reduceEqDiff]; done) | (simp only [lk, reduceIte, Nat.reduceEqDiff]; rfl)) retOk_rK0 (.dv _ (.int _ _)) (.dv _ (.int _ _)) (.int _ _) (.int _ _)
    · try simp at hc1
      refine awp_skip ?_
      show AWp cx _ _ _
      refine awp_seq ?_
      refine awp_reg hg ?_
      obtain ⟨hl40, hl⟩ := listed_ok hc1
      refine c_val hP hn (by decide) trivial (by first | exact e_loada (by simp only [St.look, St.ev, lk, mkM, blkOf, svOf, svOfCell, reduceIte, Nat.reduceAdd, Nat.reduceEqDiff, Nat.reduceMul]; rfl) sz24 ag24 (by first | exact Nat.le_refl _ | simp [DV.cells]) (by simp only [DV.cells, List.take]; rfl) | exact e_loadpa (by simp only [St.look, St.ev, lk, mkM, blkOf, svOf, svOfCell, reduceIte, Nat.reduceAdd, Nat.reduceEqDiff, Nat.reduceMul]; rfl) sz24 ag24 (by first | exact Nat.le_refl _ | simp) (by simp only [aggSV, allDv, List.drop, List.take]; rfl)) ?_
      refine c_val hP hn (by decide) trivial (e_move (by simp only [St.look, St.ev, lk, mkM, blkOf, svOf, svOfCell, reduceIte, Nat.reduceAdd, Nat.reduceEqDiff, Nat.reduceMul]; rfl)) ?_
      refine c_val hP hn (by decide) trivial (e_move (by simp only [St.look, St.ev, lk, mkM, blkOf, svOf, svOfCell, reduceIte, Nat.reduceAdd, Nat.reduceEqDiff, Nat.reduceMul]; rfl)) ?_
      refine c_callF hP hn (by decide) trivial (f59 y m l hv hm hl40 hl) (by simp only [List.map, St.look, St.ev, lk, mkM, blkOf, svOf, svOfCell, reduceIte, Nat.reduceAdd, Nat.reduceEqDiff, Nat.reduceMul]; rfl) (by repeat (first | exact args_nil | refine args_cons data_dv ?_)) (by first | exact res_one | exact res_two | exact res_three | exact res_rK1 (by simp only [mkM, reduceIte, Nat.reduceEqDiff]; rfl) | exact res_rK2 (by simp only [mkM, reduceIte, Nat.reduceEqDiff]; rfl) | exact res_rK3 (by simp only [mkM, reduceIte, Nat.reduceEqDiff]; rfl) | exact res_row rfl | exact res_rowdv rfl | exact res_rowdvdv rfl) ?_
      refine c_val hP hn (by decide) trivial (e_extract (by simp only [St.look, St.ev, lk, mkM, blkOf, svOf, svOfCell, reduceIte, Nat.reduceAdd, Nat.reduceEqDiff, Nat.reduceMul]; rfl) rfl) ?_
      refine c_val hP hn (by decide) trivial (e_extract (by simp only [St.look, St.ev, lk, mkM, blkOf, svOf, svOfCell, reduceIte, Nat.reduceAdd, Nat.reduceEqDiff, Nat.reduceMul]; rfl) rfl) ?_
      refine c_val hP hn (by decide) trivial (e_extract (by simp only [St.look, St.ev, lk, mkM, blkOf, svOf, svOfCell, reduceIte, Nat.reduceAdd, Nat.reduceEqDiff, Nat.reduceMul]; rfl) rfl) ?_
      refine c_val hP hn (by decide) trivial (e_assign (by simp only [St.look, St.ev, lk, mkM, blkOf, svOf, svOfCell, reduceIte, Nat.reduceAdd, Nat.reduceEqDiff, Nat.reduceMul]; rfl)) ?_
      refine c_val hP hn (by decide) trivial (e_assign (by simp only [St.look, St.ev, lk, mkM, blkOf, svOf, svOfCell, reduceIte, Nat.reduceAdd, Nat.reduceEqDiff, Nat.reduceMul]; rfl)) ?_
      refine c_val hP hn (by decide) trivial (e_assign (by simp only [St.look, St.ev, lk, mkM, blkOf, svOf, svOfCell, reduceIte, Nat.reduceAdd, Nat.reduceEqDiff, Nat.reduceMul]; rfl)) ?_
      show AWp cx _ _ _
      refine awp_ret ?_
      rw [show runR y m l = runFrom y m l 0 by simp only [runR]; rw [if_neg (by simp [hc0]), if_neg (by simp [hc1])]]
      exact end_row3 (.inr rfl) (by first | (simp only [lk, reduceIte, Nat.reduceEqDiff]; done) | (simp only [lk, reduceIte, Nat.reduceEqDiff]; rfl)) (by first | (simp only [lk, reduceIte, Nat.reduceEqDiff]; done) | (simp only [lk, reduceIte, Nat.reduceEqDiff]; rfl)) (by first | (simp only [lk, reduceIte, Nat.reduceEqDiff]; done) | (simp only [lk, reduceIte, Nat.reduceEqDiff]; rfl)) (retOk_rK (by first | (simp only [mkM, reduceIte, Nat.reduceEqDiff]; done) | (simp only [mkM, reduceIte, Nat.reduceEqDiff]; rfl)) rfl) (.dv _ (.int _ _)) (.dv _ (.int _ _)) (.int _ _) (.int _ _)
theorem f20 (y : Yd) (m l : List Int) : ACallsF Try.prog 20 [dYd y, ints m, ints l] (.many [rI (runR y m l).1, .dv (i64 (runR y m l).2.1), .dv (i64 (runR y m l).2.2)]) := by
  refine callsF_of Try.func20 rfl rfl (by rw [Try.ntmps20]; simp) fun cx hP hn hg => ?_
  rw [Try.ntmps20] at hn
  rw [startF_lk, none_mkM]
  simp only [zipSV, Nat.reduceAdd]
  refine awp_seq ?_
  refine awp_reg hg ?_
  refine c_pt hP hn (by decide) trivial (e_box (by simp only [St.look, St.ev, lk, mkM, blkOf, svOf, svOfCell, reduceIte, Nat.reduceAdd, Nat.reduceEqDiff, Nat.reduceMul]; rfl) (by simp only [cellsSV, List.map]; rfl)) rfl (by simp only [mkM, reduceIte, Nat.reduceEqDiff]; rfl) ?_
  refine c_val hP hn (by decide) trivial (e_assign (by simp only [St.look, St.ev, lk, mkM, blkOf, svOf, svOfCell, reduceIte, Nat.reduceAdd, Nat.reduceEqDiff, Nat.reduceMul]; rfl)) ?_
  refine c_val hP hn (by decide) trivial (e_assign (by simp only [St.look, St.ev, lk, mkM, blkOf, svOf, svOfCell, reduceIte, Nat.reduceAdd, Nat.reduceEqDiff, Nat.reduceMul]; rfl)) ?_
  refine c_val hP hn (by decide) trivial (e_assign (by simp only [St.look, St.ev, lk, mkM, blkOf, svOf, svOfCell, reduceIte, Nat.reduceAdd, Nat.reduceEqDiff, Nat.reduceMul]; rfl)) ?_
  show AWp cx _ _ _
  refine awp_seq ?_
  refine awp_seq ?_
  refine awp_reg hg ?_
  refine c_val hP hn (by decide) trivial (by first | exact e_loada (by simp only [St.look, St.ev, lk, mkM, blkOf, svOf, svOfCell, reduceIte, Nat.reduceAdd, Nat.reduceEqDiff, Nat.reduceMul]; rfl) sz24 ag24 (by first | exact Nat.le_refl _ | simp [DV.cells]) (by simp only [DV.cells, List.take]; rfl) | exact e_loadpa (by simp only [St.look, St.ev, lk, mkM, blkOf, svOf, svOfCell, reduceIte, Nat.reduceAdd, Nat.reduceEqDiff, Nat.reduceMul]; rfl) sz24 ag24 (by first | exact Nat.le_refl _ | simp) (by simp only [aggSV, allDv, List.drop, List.take]; rfl)) ?_
  refine c_val hP hn (by decide) trivial (e_move (by simp only [St.look, St.ev, lk, mkM, blkOf, svOf, svOfCell, reduceIte, Nat.reduceAdd, Nat.reduceEqDiff, Nat.reduceMul]; rfl)) ?_
  refine c_callF hP hn (by decide) trivial (f60 y m) (by simp only [List.map, St.look, St.ev, lk, mkM, blkOf, svOf, svOfCell, reduceIte, Nat.reduceAdd, Nat.reduceEqDiff, Nat.reduceMul]; rfl) (by repeat (first | exact args_nil | refine args_cons data_dv ?_)) (by first | exact res_one | exact res_two | exact res_three | exact res_rK1 (by simp only [mkM, reduceIte, Nat.reduceEqDiff]; rfl) | exact res_rK2 (by simp only [mkM, reduceIte, Nat.reduceEqDiff]; rfl) | exact res_rK3 (by simp only [mkM, reduceIte, Nat.reduceEqDiff]; rfl) | exact res_row rfl | exact res_rowdv rfl | exact res_rowdvdv rfl) ?_
  refine c_val hP hn (by decide) trivial (e_assign (by simp only [St.look, St.ev, lk, mkM, blkOf, svOf, svOfCell, reduceIte, Nat.reduceAdd, Nat.reduceEqDiff, Nat.reduceMul]; rfl)) ?_
  show AWp cx _ _ _
  refine awp_seq ?_
  refine awp_reg hg ?_
  refine c_val hP hn (by decide) trivial (e_move (by simp only [St.look, St.ev, lk, mkM, blkOf, svOf, svOfCell, reduceIte, Nat.reduceAdd, Nat.reduceEqDiff, Nat.reduceMul]; rfl)) ?_
  refine c_val hP hn (by decide) trivial (e_neq (by simp only [St.look, St.ev, lk, mkM, blkOf, svOf, svOfCell, reduceIte, Nat.reduceAdd, Nat.reduceEqDiff, Nat.reduceMul]; rfl) (by simp only [St.look, St.ev, lk, mkM, blkOf, svOf, svOfCell, reduceIte, Nat.reduceAdd, Nat.reduceEqDiff, Nat.reduceMul]; rfl)) ?_
  show AWp cx _ _ _
  refine awp_cond (by simp only [St.look, St.ev, lk, mkM, blkOf, svOf, svOfCell, reduceIte, Nat.reduceAdd, Nat.reduceEqDiff, Nat.reduceMul]; rfl) (fun hc0 => ?_) (fun hc0 => ?_)
  · try simp at hc0
    refine awp_seq ?_
    refine awp_reg hg ?_
    refine c_val hP hn (by decide) trivial (e_move (by simp only [St.look, St.ev, lk, mkM, blkOf, svOf, svOfCell, reduceIte, Nat.reduceAdd, Nat.reduceEqDiff, Nat.reduceMul]; rfl)) ?_
    refine c_val hP hn (by decide) trivial (e_assign (by simp only [St.look, St.ev, lk, mkM, blkOf, svOf, svOfCell, reduceIte, Nat.reduceAdd, Nat.reduceEqDiff, Nat.reduceMul]; rfl)) ?_
    refine c_val hP hn (by decide) trivial (e_assign (by simp only [St.look, St.ev, lk, mkM, blkOf, svOf, svOfCell, reduceIte, Nat.reduceAdd, Nat.reduceEqDiff, Nat.reduceMul]; rfl)) ?_
    refine c_val hP hn (by decide) trivial (e_assign (by simp only [St.look, St.ev, lk, mkM, blkOf, svOf, svOfCell, reduceIte, Nat.reduceAdd, Nat.reduceEqDiff, Nat.reduceMul]; rfl)) ?_
    show AWp cx _ _ _
    refine awp_ret ?_
    rw [show runR y m l = ([], 0, filledE y [m]) by simp only [runR]; rw [if_pos hc0]]
    exact end_row3 (.inr rfl) (s1 := .nils) (s2 := .dv (i64 (0))) (s3 := .dv (i64 (filledE y [m]))) (by first | (simp only [lk, reduceIte, Nat.reduceEqDiff]; done) | (simp only [lk, reduceIte, Nat.reduceEqDiff]; rfl)) (by first | (simp only [lk, reduceIte, Nat.reduceEqDiff]; done) | (simp only [lk, reduceIte, Nat.reduceEqDiff]; rfl)) (by first | (simp only [lk, reduceIte, Nat.reduceEqDiff]; done) | (simp only [lk, reduceIte, Nat.reduceEqDiff]; rfl)) retOk_rK0 (.dv _ (.int _ _)) (.dv _ (.int _ _)) (.int _ _) (.int _ _)
  · try simp at hc0
    refine awp_skip ?_
    show AWp cx _ _ _
    refine awp_seq ?_
    refine awp_seq ?_
    refine awp_reg hg ?_
    obtain ⟨hv, hm⟩ := filled_ok hc0
    obtain ⟨v1, v2, v3, v4⟩ := validate_ok hv
    refine c_val hP hn (by decide) trivial (by first | exact e_loada (by simp only [St.look, St.ev, lk, mkM, blkOf, svOf, svOfCell, reduceIte, Nat.reduceAdd, Nat.reduceEqDiff, Nat.reduceMul]; rfl) sz24 ag24 (by first | exact Nat.le_refl _ | simp [DV.cells]) (by simp only [DV.cells, List.take]; rfl) | exact e_loadpa (by simp only [St.look, St.ev, lk, mkM, blkOf, svOf, svOfCell, reduceIte, Nat.reduceAdd, Nat.reduceEqDiff, Nat.reduceMul]; rfl) sz24 ag24 (by first | exact Nat.le_refl _ | simp) (by simp only [aggSV, allDv, List.drop, List.take]; rfl)) ?_
    refine c_val hP hn (by decide) trivial (e_move (by simp only [St.look, St.ev, lk, mkM, blkOf, svOf, svOfCell, reduceIte, Nat.reduceAdd, Nat.reduceEqDiff, Nat.reduceMul]; rfl)) ?_
    refine c_callF hP hn (by decide) trivial (f61 y l (by omega)) (by simp only [List.map, St.look, St.ev, lk, mkM, blkOf, svOf, svOfCell, reduceIte, Nat.reduceAdd, Nat.reduceEqDiff, Nat.reduceMul]; rfl) (by repeat (first | exact args_nil | refine args_cons data_dv ?_)) (by first | exact res_one | exact res_two | exact res_three | exact res_rK1 (by simp only [mkM, reduceIte, Nat.reduceEqDiff]; rfl) | exact res_rK2 (by simp only [mkM, reduceIte, Nat.reduceEqDiff]; rfl) | exact res_rK3 (by simp only [mkM, reduceIte, Nat.reduceEqDiff]; rfl) | exact res_row rfl | exact res_rowdv rfl | exact res_rowdvdv rfl) ?_
    refine c_val hP hn (by decide) trivial (e_assign (by simp only [St.look, St.ev, lk, mkM, blkOf, svOf, svOfCell, reduceIte, Nat.reduceAdd, Nat.reduceEqDiff, Nat.reduceMul]; rfl)) ?_
    show AWp cx _ _ _
    refine awp_seq ?_
    refine awp_reg hg ?_
    refine c_val hP hn (by decide) trivial (e_move (by simp only [St.look, St.ev, lk, mkM, blkOf, svOf, svOfCell, reduceIte, Nat.reduceAdd, Nat.reduceEqDiff, Nat.reduceMul]; rfl)) ?_
    refine c_val hP hn (by decide) trivial (e_neq (by simp only [St.look, St.ev, lk, mkM, blkOf, svOf, svOfCell, reduceIte, Nat.reduceAdd, Nat.reduceEqDiff, Nat.reduceMul]; rfl) (by simp only [St.look, St.ev, lk, mkM, blkOf, svOf, svOfCell, reduceIte, Nat.reduceAdd, Nat.reduceEqDiff, Nat.reduceMul]; rfl)) ?_
    show AWp cx _ _ _
    refine awp_cond (by simp only [St.look, St.ev, lk, mkM, blkOf, svOf, svOfCell, reduceIte, Nat.reduceAdd, Nat.reduceEqDiff, Nat.reduceMul]; rfl) (fun hc1 => ?_) (fun hc1 => ?_)
    · try simp at hc1
      refine awp_seq ?_
      refine awp_reg hg ?_
      refine c_val hP hn (by decide) trivial (e_move (by simp only [St.look, St.ev, lk, mkM, blkOf, svOf, svOfCell, reduceIte, Nat.reduceAdd, Nat.reduceEqDiff, Nat.reduceMul]; rfl)) ?_
      refine c_val hP hn (by decide) trivial (e_assign (by simp only [St.look, St.ev, lk, mkM, blkOf, svOf, svOfCell, reduceIte, Nat.reduceAdd, Nat.reduceEqDiff, Nat.reduceMul]; rfl)) ?_
      refine c_val hP hn (by decide) trivial (e_assign (by simp only [St.look, St.ev, lk, mkM, blkOf, svOf, svOfCell, reduceIte, Nat.reduceAdd, Nat.reduceEqDiff, Nat.reduceMul]; rfl)) ?_
      refine c_val hP hn (by decide) trivial (e_assign (by simp only [St.look, St.ev, lk, mkM, blkOf, svOf, svOfCell, reduceIte, Nat.reduceAdd, Nat.reduceEqDiff, Nat.reduceMul]; rfl)) ?_
      show AWp cx _ _ _
      refine awp_ret ?_
      rw [show runR y m l = ([], 0, listedE y l) by simp only [runR]; rw [if_neg (by simp [hc0]), if_pos hc1]]
      exact end_row3 (.inr rfl) (s1 := .nils) (s2 := .dv (i64 (0))) (s3 := .dv (i64 (listedE y l))) (by first | (simp only [lk, reduceIte, Nat.reduceEqDiff]; done) | (simp only [lk, reduceIte, Nat.reduceEqDiff]; rfl)) (by first | (simp only [lk, reduceIte, Nat.reduceEqDiff]; done) | (simp only [lk, reduceIte, Nat.reduceEqDiff]; rfl)) (by first | (simp only [lk, reduceIte, Nat.reduceEqDiff]; done) | (simp only [lk, reduceIte, Nat.reduceEqDiff]; rfl)) retOk_rK0 (.dv _ (.int _ _)) (.dv _ (.int _ _)) (.int _ _) (.int _ _)
    · try simp at hc1
      refine awp_skip ?_
      show AWp cx _ _ _
      refine awp_seq ?_
      refine awp_reg hg ?_
      obtain ⟨hl40, hl⟩ := listed_ok hc1
      have hml := allIn_len hm
      refine c_row hP hn (by decide) trivial (e_buildSlice (by simp only [List.map, St.look, St.ev, lk, mkM, blkOf, svOf, svOfCell, reduceIte, Nat.reduceAdd, Nat.reduceEqDiff, Nat.reduceMul]; rfl) el25 ze3 sz3 rfl (by decide) (by decide) (by simp [fillSV, putCells, cellsSV, List.replicate]; rfl)) rfl (by simp only [mkM, reduceIte, Nat.reduceEqDiff]; rfl) ?_
      refine c_val hP hn (by decide) trivial (e_move (by simp only [St.look, St.ev, lk, mkM, blkOf, svOf, svOfCell, reduceIte, Nat.reduceAdd, Nat.reduceEqDiff, Nat.reduceMul]; rfl)) ?_
      first
      | refine c_app0 hP hn (by decide) trivial (e_app0 (by simp only [St.look, St.ev, lk, mkM, blkOf, svOf, svOfCell, reduceIte, Nat.reduceAdd, Nat.reduceEqDiff, Nat.reduceMul]; rfl) (by simp only [St.look, St.ev, lk, mkM, blkOf, svOf, svOfCell, reduceIte, Nat.reduceAdd, Nat.reduceEqDiff, Nat.reduceMul]; first | exact src_ints | rfl | (simp [srcSV, cellOk]; rfl)) el25 el25 ze3 sz3 by3 (by first | omega | (simp; try omega)) (by first | omega | (simp; try omega)) rfl) (by simp only [mkM, reduceIte, Nat.reduceEqDiff]; rfl) ?_
      | refine c_app1 hP hn (by decide) trivial (e_app1 (by simp only [St.look, St.ev, lk, mkM, blkOf, svOf, svOfCell, reduceIte, Nat.reduceAdd, Nat.reduceEqDiff, Nat.reduceMul]; rfl) (by simp only [St.look, St.ev, lk, mkM, blkOf, svOf, svOfCell, reduceIte, Nat.reduceAdd, Nat.reduceEqDiff, Nat.reduceMul]; first | exact src_ints | rfl | (simp [srcSV, cellOk]; rfl)) el25 el25 ze3 sz3 by3 (by rfl) (by rfl) (by rfl) (by first | omega | (simp; try omega)) (by first | omega | (simp; try omega)) (by first | omega | (simp; try omega)) rfl (by first | exact ints_snoc | exact ints_app | rfl)) (by simp only [mkM, reduceIte, Nat.reduceEqDiff]; rfl) (by simp only [mkM, reduceIte, Nat.reduceEqDiff]; rfl) rfl ?_
      refine c_val hP hn (by decide) trivial (e_assign (by simp only [St.look, St.ev, lk, mkM, blkOf, svOf, svOfCell, reduceIte, Nat.reduceAdd, Nat.reduceEqDiff, Nat.reduceMul]; rfl)) ?_
      show AWp cx _ _ _
      refine awp_seq ?_
      refine awp_seq ?_
      refine awp_reg hg ?_
      refine c_val hP hn (by decide) trivial (e_assign (by simp only [St.look, St.ev, lk, mkM, blkOf, svOf, svOfCell, reduceIte, Nat.reduceAdd, Nat.reduceEqDiff, Nat.reduceMul]; rfl)) ?_
      show AWp cx _ _ _
      refine awp_block ?_
      refine awp_loop (ι := Nat × List Int) (fun p => ⟨lk [(3, .pt 3 0 0), (2, .dv (ints l)), (11, .sl 11 0 0 p.2.length), (12, .dv (i64 (p.1 : Nat)))], mkM [(3, 0, some ⟨[.dv (i64 y.places), .dv (.list (y.steps.map dStp))], 0, 24, 0, false⟩), (11, 0, some (rowI p.2))]⟩) (fun p => p.1 ≤ l.length ∧ VM y p.2 ∧ runFrom y m l 0 = runFrom y p.2 (l.drop p.1) p.1) (fun p => l.length - p.1) (0, m) ⟨Nat.zero_le _, hm, rfl⟩ (Le.tell hg [(3, 3), (11, 29)] (by simp [FLe, svLe, lk, mkM, isLive, tauL]) (by simp [MLe, blkLe, svLe, svLes, lk, mkM, isLive, tauL, svLes_ints, svLes_self, isDvs, isDvs_map, isDvs_app, isDvs_take, isDvs_set, isDvs_repl]) (by decide)) ?_
      intro ⟨i, a⟩ hφ0
      dsimp only at hφ0 ⊢
      refine awp_seq ?_
      refine awp_seq ?_
      refine awp_reg hg ?_
      refine c_val hP hn (by decide) trivial (e_move (by simp only [St.look, St.ev, lk, mkM, blkOf, svOf, svOfCell, reduceIte, Nat.reduceAdd, Nat.reduceEqDiff, Nat.reduceMul]; rfl)) ?_
      refine c_val hP hn (by decide) trivial (e_move (by simp only [St.look, St.ev, lk, mkM, blkOf, svOf, svOfCell, reduceIte, Nat.reduceAdd, Nat.reduceEqDiff, Nat.reduceMul]; rfl)) ?_
      refine c_val hP hn (by decide) trivial (by first | exact e_len (by simp only [St.look, St.ev, lk, mkM, blkOf, svOf, svOfCell, reduceIte, Nat.reduceAdd, Nat.reduceEqDiff, Nat.reduceMul]; rfl) il25 | exact e_lenR (by simp only [St.look, St.ev, lk, mkM, blkOf, svOf, svOfCell, reduceIte, Nat.reduceAdd, Nat.reduceEqDiff, Nat.reduceMul]; rfl) il25 | exact e_len0 (by simp only [St.look, St.ev, lk, mkM, blkOf, svOf, svOfCell, reduceIte, Nat.reduceAdd, Nat.reduceEqDiff, Nat.reduceMul]; rfl) il25) ?_
      refine c_val hP hn (by decide) trivial (e_lss (by simp only [St.look, St.ev, lk, mkM, blkOf, svOf, svOfCell, reduceIte, Nat.reduceAdd, Nat.reduceEqDiff, Nat.reduceMul]; rfl) (by simp only [St.look, St.ev, lk, mkM, blkOf, svOf, svOfCell, reduceIte, Nat.reduceAdd, Nat.reduceEqDiff, Nat.reduceMul]; rfl)) ?_
      show AWp cx _ _ _
      refine awp_cond (by simp only [St.look, St.ev, lk, mkM, blkOf, svOf, svOfCell, reduceIte, Nat.reduceAdd, Nat.reduceEqDiff, Nat.reduceMul]; rfl) (fun hc2 => ?_) (fun hc2 => ?_)
      · try simp at hc2
        refine awp_skip ?_
        show AWp cx _ _ _
        refine awp_seq ?_
        refine awp_block ?_
        refine awp_seq ?_
        refine awp_drw hg hP mixed (by decide) ?_
        have hin : i < l.length := by omega
        have hx : l[i]? = some l[i] := List.getElem?_eq_getElem hin
        obtain ⟨hs0, hs1⟩ := hl l[i] (List.getElem_mem hin)
        obtain ⟨hf, he⟩ := fits_of hv hφ0.2.1 hs0 hs1
        have hlen := hf.len
        refine d_val hP hn (by decide) trivial (by first | exact e_loada (by simp only [St.look, St.ev, lk, mkM, blkOf, svOf, svOfCell, reduceIte, Nat.reduceAdd, Nat.reduceEqDiff, Nat.reduceMul]; rfl) sz24 ag24 (by first | exact Nat.le_refl _ | simp [DV.cells]) (by simp only [DV.cells, List.take]; rfl) | exact e_loadpa (by simp only [St.look, St.ev, lk, mkM, blkOf, svOf, svOfCell, reduceIte, Nat.reduceAdd, Nat.reduceEqDiff, Nat.reduceMul]; rfl) sz24 ag24 (by first | exact Nat.le_refl _ | simp) (by simp only [aggSV, allDv, List.drop, List.take]; rfl)) (by simp only [opTags, deref, svTag, List.flatMap_cons, List.flatMap_nil, St.look, St.ev, lk, mkM, blkOf, svOf, svOfCell, reduceIte, Nat.reduceAdd, Nat.reduceEqDiff, Nat.reduceMul]; rfl) ?_
        refine d_val hP hn (by decide) trivial (e_move (by simp only [St.look, St.ev, lk, mkM, blkOf, svOf, svOfCell, reduceIte, Nat.reduceAdd, Nat.reduceEqDiff, Nat.reduceMul]; rfl)) (by simp only [opTags, deref, svTag, List.flatMap_cons, List.flatMap_nil, St.look, St.ev, lk, mkM, blkOf, svOf, svOfCell, reduceIte, Nat.reduceAdd, Nat.reduceEqDiff, Nat.reduceMul]; rfl) ?_
        refine d_val hP hn (by decide) trivial (e_move (by simp only [St.look, St.ev, lk, mkM, blkOf, svOf, svOfCell, reduceIte, Nat.reduceAdd, Nat.reduceEqDiff, Nat.reduceMul]; rfl)) (by simp only [opTags, deref, svTag, List.flatMap_cons, List.flatMap_nil, St.look, St.ev, lk, mkM, blkOf, svOf, svOfCell, reduceIte, Nat.reduceAdd, Nat.reduceEqDiff, Nat.reduceMul]; rfl) ?_
        refine d_val hP hn (by decide) trivial (e_move (by simp only [St.look, St.ev, lk, mkM, blkOf, svOf, svOfCell, reduceIte, Nat.reduceAdd, Nat.reduceEqDiff, Nat.reduceMul]; rfl)) (by simp only [opTags, deref, svTag, List.flatMap_cons, List.flatMap_nil, St.look, St.ev, lk, mkM, blkOf, svOf, svOfCell, reduceIte, Nat.reduceAdd, Nat.reduceEqDiff, Nat.reduceMul]; rfl) ?_
        refine d_val hP hn (by decide) trivial (by first | exact e_indexN (by simp only [St.look, St.ev, lk, mkM, blkOf, svOf, svOfCell, reduceIte, Nat.reduceAdd, Nat.reduceEqDiff, Nat.reduceMul]; rfl) (by simp only [St.look, St.ev, lk, mkM, blkOf, svOf, svOfCell, reduceIte, Nat.reduceAdd, Nat.reduceEqDiff, Nat.reduceMul]; rfl) (by assumption) el25 (by exact sz3) | exact e_index (by simp only [St.look, St.ev, lk, mkM, blkOf, svOf, svOfCell, reduceIte, Nat.reduceAdd, Nat.reduceEqDiff, Nat.reduceMul]; rfl) (by simp only [St.look, St.ev, lk, mkM, blkOf, svOf, svOfCell, reduceIte, Nat.reduceAdd, Nat.reduceEqDiff, Nat.reduceMul]; rfl) (by omega) (by assumption) el25 (by exact sz3) | exact e_indexR (by simp only [St.look, St.ev, lk, mkM, blkOf, svOf, svOfCell, reduceIte, Nat.reduceAdd, Nat.reduceEqDiff, Nat.reduceMul]; rfl) (by simp only [St.look, St.ev, lk, mkM, blkOf, svOf, svOfCell, reduceIte, Nat.reduceAdd, Nat.reduceEqDiff, Nat.reduceMul]; rfl) (by omega) (by omega) el25 (by exact sz3) (by simp only [Int.toNat_natCast, Nat.zero_add, Nat.mul_one]; rfl)) (by simp only [opTags, deref, svTag, List.flatMap_cons, List.flatMap_nil, St.look, St.ev, lk, mkM, blkOf, svOf, svOfCell, reduceIte, Nat.reduceAdd, Nat.reduceEqDiff, Nat.reduceMul]; rfl) ?_
        refine d_val hP hn (by decide) trivial (by first | exact e_load (by simp only [St.look, St.ev, lk, mkM, blkOf, svOf, svOfCell, reduceIte, Nat.reduceAdd, Nat.reduceEqDiff, Nat.reduceMul]; rfl) sz3 ag3 (by rfl) | exact e_loadp (by simp only [St.look, St.ev, lk, mkM, blkOf, svOf, svOfCell, reduceIte, Nat.reduceAdd, Nat.reduceEqDiff, Nat.reduceMul]; rfl) sz3 ag3 (by first | rfl | assumption)) (by simp only [opTags, deref, svTag, List.flatMap_cons, List.flatMap_nil, St.look, St.ev, lk, mkM, blkOf, svOf, svOfCell, reduceIte, Nat.reduceAdd, Nat.reduceEqDiff, Nat.reduceMul]; rfl) ?_
        refine d_callF (R := [11]) hP hn (by decide) trivial (f62 y a l[i] hv hφ0.2.1 hs0 hs1) (by simp only [List.map, St.look, St.ev, lk, mkM, blkOf, svOf, svOfCell, reduceIte, Nat.reduceAdd, Nat.reduceEqDiff, Nat.reduceMul]; rfl) (args_cons data_dv (args_cons (data_ints (L := a) (by simp [rst, mkM]; rfl) trivial rfl rfl rfl (fun _ => trivial)) (args_cons data_dv args_nil))) (by first | exact res_one | exact res_two | exact res_three | exact res_rK1 (by simp only [mkM, reduceIte, Nat.reduceEqDiff]; rfl) | exact res_rK2 (by simp only [mkM, reduceIte, Nat.reduceEqDiff]; rfl) | exact res_rK3 (by simp only [mkM, reduceIte, Nat.reduceEqDiff]; rfl) | exact res_row rfl | exact res_rowdv rfl | exact res_rowdvdv rfl) ?_
        refine d_val hP hn (by decide) trivial (e_move (by simp only [St.look, St.ev, lk, mkM, blkOf, svOf, svOfCell, reduceIte, Nat.reduceAdd, Nat.reduceEqDiff, Nat.reduceMul]; rfl)) (by simp only [opTags, deref, svTag, List.flatMap_cons, List.flatMap_nil, St.look, St.ev, lk, mkM, blkOf, svOf, svOfCell, reduceIte, Nat.reduceAdd, Nat.reduceEqDiff, Nat.reduceMul]; rfl) ?_
        refine d_val hP hn (by decide) trivial (e_extract (by simp only [St.look, St.ev, lk, mkM, blkOf, svOf, svOfCell, reduceIte, Nat.reduceAdd, Nat.reduceEqDiff, Nat.reduceMul]; rfl) rfl) (by simp only [opTags, deref, svTag, List.flatMap_cons, List.flatMap_nil, St.look, St.ev, lk, mkM, blkOf, svOf, svOfCell, reduceIte, Nat.reduceAdd, Nat.reduceEqDiff, Nat.reduceMul]; rfl) ?_
        refine d_val hP hn (by decide) trivial (e_extract (by simp only [St.look, St.ev, lk, mkM, blkOf, svOf, svOfCell, reduceIte, Nat.reduceAdd, Nat.reduceEqDiff, Nat.reduceMul]; rfl) rfl) (by simp only [opTags, deref, svTag, List.flatMap_cons, List.flatMap_nil, St.look, St.ev, lk, mkM, blkOf, svOf, svOfCell, reduceIte, Nat.reduceAdd, Nat.reduceEqDiff, Nat.reduceMul]; rfl) ?_
        refine d_val hP hn (by decide) trivial (e_assign (by simp only [St.look, St.ev, lk, mkM, blkOf, svOf, svOfCell, reduceIte, Nat.reduceAdd, Nat.reduceEqDiff, Nat.reduceMul]; rfl)) (by simp only [opTags, deref, svTag, List.flatMap_cons, List.flatMap_nil, St.look, St.ev, lk, mkM, blkOf, svOf, svOfCell, reduceIte, Nat.reduceAdd, Nat.reduceEqDiff, Nat.reduceMul]; rfl) ?_
        refine d_val hP hn (by decide) trivial (e_assign (by simp only [St.look, St.ev, lk, mkM, blkOf, svOf, svOfCell, reduceIte, Nat.reduceAdd, Nat.reduceEqDiff, Nat.reduceMul]; rfl)) (by simp only [opTags, deref, svTag, List.flatMap_cons, List.flatMap_nil, St.look, St.ev, lk, mkM, blkOf, svOf, svOfCell, reduceIte, Nat.reduceAdd, Nat.reduceEqDiff, Nat.reduceMul]; rfl) ?_
        refine ⟨by rfl, ?_⟩
        show AWp cx _ _ _
        refine awp_seq ?_
        refine awp_seq ?_
        refine awp_reg hg ?_
        refine c_val hP hn (by decide) trivial (e_move (by simp only [St.look, St.ev, lk, mkM, blkOf, svOf, svOfCell, reduceIte, Nat.reduceAdd, Nat.reduceEqDiff, Nat.reduceMul]; rfl)) ?_
        refine c_val hP hn (by decide) trivial (e_neq (by simp only [St.look, St.ev, lk, mkM, blkOf, svOf, svOfCell, reduceIte, Nat.reduceAdd, Nat.reduceEqDiff, Nat.reduceMul]; rfl) (by simp only [St.look, St.ev, lk, mkM, blkOf, svOf, svOfCell, reduceIte, Nat.reduceAdd, Nat.reduceEqDiff, Nat.reduceMul]; rfl)) ?_
        show AWp cx _ _ _
        refine awp_cond (by simp only [St.look, St.ev, lk, mkM, blkOf, svOf, svOfCell, reduceIte, Nat.reduceAdd, Nat.reduceEqDiff, Nat.reduceMul]; rfl) (fun hc3 => ?_) (fun hc3 => ?_)
        · try simp at hc3
          refine awp_seq ?_
          refine awp_reg hg ?_
          refine c_val hP hn (by decide) trivial (e_move (by simp only [St.look, St.ev, lk, mkM, blkOf, svOf, svOfCell, reduceIte, Nat.reduceAdd, Nat.reduceEqDiff, Nat.reduceMul]; rfl)) ?_
          refine c_val hP hn (by decide) trivial (e_move (by simp only [St.look, St.ev, lk, mkM, blkOf, svOf, svOfCell, reduceIte, Nat.reduceAdd, Nat.reduceEqDiff, Nat.reduceMul]; rfl)) ?_
          refine c_val hP hn (by decide) trivial (e_assign (by simp only [St.look, St.ev, lk, mkM, blkOf, svOf, svOfCell, reduceIte, Nat.reduceAdd, Nat.reduceEqDiff, Nat.reduceMul]; rfl)) ?_
          refine c_val hP hn (by decide) trivial (e_assign (by simp only [St.look, St.ev, lk, mkM, blkOf, svOf, svOfCell, reduceIte, Nat.reduceAdd, Nat.reduceEqDiff, Nat.reduceMul]; rfl)) ?_
          refine c_val hP hn (by decide) trivial (e_assign (by simp only [St.look, St.ev, lk, mkM, blkOf, svOf, svOfCell, reduceIte, Nat.reduceAdd, Nat.reduceEqDiff, Nat.reduceMul]; rfl)) ?_
          show AWp cx _ _ _
          refine awp_ret ?_
          rw [show runR y m l = runFrom y m l 0 by simp only [runR]; rw [if_neg (by simp [hc0]), if_neg (by simp [hc1])], run_bad hin hφ0.2.2 hc3]
          exact end_row3 (.inr rfl) (s1 := .nils) (s2 := .dv (i64 (i : Nat))) (s3 := .dv (i64 ((afterR (stepAt y l[i]) a).2))) (by first | (simp only [lk, reduceIte, Nat.reduceEqDiff]; done) | (simp only [lk, reduceIte, Nat.reduceEqDiff]; rfl)) (by first | (simp only [lk, reduceIte, Nat.reduceEqDiff]; done) | (simp only [lk, reduceIte, Nat.reduceEqDiff]; rfl)) (by first | (simp only [lk, reduceIte, Nat.reduceEqDiff]; done) | (simp only [lk, reduceIte, Nat.reduceEqDiff]; rfl)) retOk_rK0 (.dv _ (.int _ _)) (.dv _ (.int _ _)) (.int _ _) (.int _ _)
        · try simp at hc3
          refine awp_skip ?_
          show AWp cx _ _ _
          refine awp_reg hg ?_
          refine c_val hP hn (by decide) trivial (e_move (by simp only [St.look, St.ev, lk, mkM, blkOf, svOf, svOfCell, reduceIte, Nat.reduceAdd, Nat.reduceEqDiff, Nat.reduceMul]; rfl)) ?_
          refine c_val hP hn (by decide) trivial (e_assign (by simp only [St.look, St.ev, lk, mkM, blkOf, svOf, svOfCell, reduceIte, Nat.reduceAdd, Nat.reduceEqDiff, Nat.reduceMul]; rfl)) ?_
          show AWp cx _ _ _
          refine awp_reg hg ?_
          refine c_val hP hn (by decide) trivial (e_move (by simp only [St.look, St.ev, lk, mkM, blkOf, svOf, svOfCell, reduceIte, Nat.reduceAdd, Nat.reduceEqDiff, Nat.reduceMul]; rfl)) ?_
          refine c_val hP hn (by decide) trivial (e_add (by simp only [St.look, St.ev, lk, mkM, blkOf, svOf, svOfCell, reduceIte, Nat.reduceAdd, Nat.reduceEqDiff, Nat.reduceMul]; rfl) (by simp only [St.look, St.ev, lk, mkM, blkOf, svOf, svOfCell, reduceIte, Nat.reduceAdd, Nat.reduceEqDiff, Nat.reduceMul]; rfl) (by omega) (by omega)) ?_
          refine c_val hP hn (by decide) trivial (e_assign (by simp only [St.look, St.ev, lk, mkM, blkOf, svOf, svOfCell, reduceIte, Nat.reduceAdd, Nat.reduceEqDiff, Nat.reduceMul]; rfl)) ?_
          refine ⟨(i + 1, (afterR (stepAt y l[i]) a).1), ⟨hin, (after_vm hv hφ0.2.1 hs0 hs1 hc3).1, run_next hin hφ0.2.2 hc3⟩, by simp only; omega, Le.tell hg [(3, 3), (11, 43)] (by simp [FLe, svLe, lk, mkM, isLive, tauL, doR]) (by simp [MLe, blkLe, svLe, svLes, lk, mkM, isLive, tauL, svLes_ints, svLes_self, isDvs, isDvs_map, isDvs_app, isDvs_take, isDvs_set, isDvs_repl, doR]) (by decide)⟩
      · try simp at hc2
        refine awp_exit ?_
        show AWp cx _ _ _
        refine awp_seq ?_
        refine awp_reg hg ?_
        refine c_val hP hn (by decide) trivial (e_move (by simp only [St.look, St.ev, lk, mkM, blkOf, svOf, svOfCell, reduceIte, Nat.reduceAdd, Nat.reduceEqDiff, Nat.reduceMul]; rfl)) ?_
        refine c_val hP hn (by decide) trivial (e_move (by simp only [St.look, St.ev, lk, mkM, blkOf, svOf, svOfCell, reduceIte, Nat.reduceAdd, Nat.reduceEqDiff, Nat.reduceMul]; rfl)) ?_
        refine c_val hP hn (by decide) trivial (by first | exact e_len (by simp only [St.look, St.ev, lk, mkM, blkOf, svOf, svOfCell, reduceIte, Nat.reduceAdd, Nat.reduceEqDiff, Nat.reduceMul]; rfl) il25 | exact e_lenR (by simp only [St.look, St.ev, lk, mkM, blkOf, svOf, svOfCell, reduceIte, Nat.reduceAdd, Nat.reduceEqDiff, Nat.reduceMul]; rfl) il25 | exact e_len0 (by simp only [St.look, St.ev, lk, mkM, blkOf, svOf, svOfCell, reduceIte, Nat.reduceAdd, Nat.reduceEqDiff, Nat.reduceMul]; rfl) il25) ?_
        refine c_val hP hn (by decide) trivial (e_assign (by simp only [St.look, St.ev, lk, mkM, blkOf, svOf, svOfCell, reduceIte, Nat.reduceAdd, Nat.reduceEqDiff, Nat.reduceMul]; rfl)) ?_
        refine c_val hP hn (by decide) trivial (e_assign (by simp only [St.look, St.ev, lk, mkM, blkOf, svOf, svOfCell, reduceIte, Nat.reduceAdd, Nat.reduceEqDiff, Nat.reduceMul]; rfl)) ?_
        refine c_val hP hn (by decide) trivial (e_assign (by simp only [St.look, St.ev, lk, mkM, blkOf, svOf, svOfCell, reduceIte, Nat.reduceAdd, Nat.reduceEqDiff, Nat.reduceMul]; rfl)) ?_
        show AWp cx _ _ _
        refine awp_ret ?_
        rw [show runR y m l = runFrom y m l 0 by simp only [runR]; rw [if_neg (by simp [hc0]), if_neg (by simp [hc1])], run_end (by omega) hφ0.2.2]
        exact end_row3 (.inr rfl) (by first | (simp only [lk, reduceIte, Nat.reduceEqDiff]; done) | (simp only [lk, reduceIte, Nat.reduceEqDiff]; rfl)) (by first | (simp only [lk, reduceIte, Nat.reduceEqDiff]; done) | (simp only [lk, reduceIte, Nat.reduceEqDiff]; rfl)) (by first | (simp only [lk, reduceIte, Nat.reduceEqDiff]; done) | (simp only [lk, reduceIte, Nat.reduceEqDiff]; rfl)) (retOk_rK (by first | (simp only [mkM, reduceIte, Nat.reduceEqDiff]; done) | (simp only [mkM, reduceIte, Nat.reduceEqDiff]; rfl)) rfl) (.dv _ (.int _ _)) (.dv _ (.int _ _)) (.int _ _) (.int _ _)
end Go.Ab.Try
