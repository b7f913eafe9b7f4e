/- Way3. -/
import Derived.Test.YtjlfgobbieljoaaDoorBogG11
set_option linter.all false
set_option linter.all false
namespace Go.Ab.Tryd
open Go Go.Ab Go.Proofs
abbrev rowI (L : List Int) : Blk := rowK .i64 3 L
abbrev rI (L : List Int) : R1 := rK .i64 3 L
def covers (m t : List Int) : Bool := (m.zip t).all fun p => decide (p.2 ≤ p.1)
theorem covers_no {m t : List Int} {p : Nat} (h1 : p < m.length) (h2 : p < t.length) (h : m[p] < t[p]) : covers m t = false := by
  unfold covers
  rw [List.all_eq_false]
  refine ⟨(m[p], t[p]), ?_, by simpa using h⟩
  have h3 : p < (m.zip t).length := by simp; omega
  have : (m.zip t)[p] = (m[p], t[p]) := by simp
  rw [← this]; exact List.getElem_mem h3
theorem covers_yes {m t : List Int} (h : ∀ j (h1 : j < m.length) (h2 : j < t.length), t[j] ≤ m[j]) : covers m t = true := by
  unfold covers
  refine all_yes fun j hj => ?_
  have h1 : j < m.length := by simp at hj; omega
  have h2 : j < t.length := by simp at hj; omega
  simpa using h j h1 h2
theorem f14 (y : Yd) (ls : List (List Int)) (hls : ls.length < 1000000) : ACallsF Tryd.prog 14 [dYd y, .list (ls.map ints)] (.one (.dv (i64 (filledE y ls)))) := by
  refine callsF_of Tryd.func14 rfl rfl (by rw [Tryd.ntmps14]; simp) fun cx hP hn hg => ?_
  rw [Tryd.ntmps14] at hn
  rw [startF_lk, none_mkM]
  simp only [zipSV, Nat.reduceAdd]
  refine awp_seq ?_
  refine awp_reg hg ?_
  refine c_pt hP hn (by decide) trivial (e_box (by simp only [St.look, St.ev, lk, mkM, blkOf, svOf, svOfCell, reduceIte, Nat.reduceAdd, Nat.reduceEqDiff, Nat.reduceMul]; rfl) (by simp only [cellsSV, List.map]; rfl)) rfl (by simp only [mkM, reduceIte, Nat.reduceEqDiff]; rfl) ?_
  refine c_val hP hn (by decide) trivial (e_assign (by simp only [St.look, St.ev, lk, mkM, blkOf, svOf, svOfCell, reduceIte, Nat.reduceAdd, Nat.reduceEqDiff, Nat.reduceMul]; rfl)) ?_
  show AWp cx _ _ _
  refine awp_seq ?_
  refine awp_seq ?_
  refine awp_reg hg ?_
  refine c_val hP hn (by decide) trivial (by first | exact e_loada (by simp only [St.look, St.ev, lk, mkM, blkOf, svOf, svOfCell, reduceIte, Nat.reduceAdd, Nat.reduceEqDiff, Nat.reduceMul]; rfl) sz24 ag24 (by first | exact Nat.le_refl _ | simp [DV.cells]) (by simp only [DV.cells, List.take]; rfl) | exact e_loadpa (by simp only [St.look, St.ev, lk, mkM, blkOf, svOf, svOfCell, reduceIte, Nat.reduceAdd, Nat.reduceEqDiff, Nat.reduceMul]; rfl) sz24 ag24 (by first | exact Nat.le_refl _ | simp) (by simp only [aggSV, allDv, List.drop, List.take]; rfl)) ?_
  refine c_callF hP hn (by decide) trivial (f26 y) (by simp only [List.map, St.look, St.ev, lk, mkM, blkOf, svOf, svOfCell, reduceIte, Nat.reduceAdd, Nat.reduceEqDiff, Nat.reduceMul]; rfl) (by repeat (first | exact args_nil | refine args_cons data_dv ?_)) (by first | exact res_one | exact res_two | exact res_three | exact res_rK1 (by simp only [mkM, reduceIte, Nat.reduceEqDiff]; rfl) | exact res_rK2 (by simp only [mkM, reduceIte, Nat.reduceEqDiff]; rfl) | exact res_rK3 (by simp only [mkM, reduceIte, Nat.reduceEqDiff]; rfl) | exact res_row rfl | exact res_rowdv rfl | exact res_rowdvdv rfl) ?_
  refine c_val hP hn (by decide) trivial (e_assign (by simp only [St.look, St.ev, lk, mkM, blkOf, svOf, svOfCell, reduceIte, Nat.reduceAdd, Nat.reduceEqDiff, Nat.reduceMul]; rfl)) ?_
  show AWp cx _ _ _
  refine awp_seq ?_
  refine awp_reg hg ?_
  refine c_val hP hn (by decide) trivial (e_move (by simp only [St.look, St.ev, lk, mkM, blkOf, svOf, svOfCell, reduceIte, Nat.reduceAdd, Nat.reduceEqDiff, Nat.reduceMul]; rfl)) ?_
  refine c_val hP hn (by decide) trivial (e_neq (by simp only [St.look, St.ev, lk, mkM, blkOf, svOf, svOfCell, reduceIte, Nat.reduceAdd, Nat.reduceEqDiff, Nat.reduceMul]; rfl) (by simp only [St.look, St.ev, lk, mkM, blkOf, svOf, svOfCell, reduceIte, Nat.reduceAdd, Nat.reduceEqDiff, Nat.reduceMul]; rfl)) ?_
  show AWp cx _ _ _
  refine awp_cond (by simp only [St.look, St.ev, lk, mkM, blkOf, svOf, svOfCell, reduceIte, Nat.reduceAdd, Nat.reduceEqDiff, Nat.reduceMul]; rfl) (fun hc0 => ?_) (fun hc0 => ?_)
  · try simp at hc0
    refine awp_seq ?_
    refine awp_reg hg ?_
    refine c_val hP hn (by decide) trivial (e_move (by simp only [St.look, St.ev, lk, mkM, blkOf, svOf, svOfCell, reduceIte, Nat.reduceAdd, Nat.reduceEqDiff, Nat.reduceMul]; rfl)) ?_
    refine c_val hP hn (by decide) trivial (e_assign (by simp only [St.look, St.ev, lk, mkM, blkOf, svOf, svOfCell, reduceIte, Nat.reduceAdd, Nat.reduceEqDiff, Nat.reduceMul]; rfl)) ?_
    show AWp cx _ _ _
    refine awp_ret ?_
    rw [show filledE y ls = validate y by simp [filledE, hc0]]
    exact end_dv (.inr rfl) (by simp [lk]) (.int _ _)
  · try simp at hc0
    refine awp_skip ?_
    show AWp cx _ _ _
    refine awp_seq ?_
    refine awp_seq ?_
    refine awp_reg hg ?_
    refine c_val hP hn (by decide) trivial (e_move (by simp only [St.look, St.ev, lk, mkM, blkOf, svOf, svOfCell, reduceIte, Nat.reduceAdd, Nat.reduceEqDiff, Nat.reduceMul]; rfl)) ?_
    refine c_val hP hn (by decide) trivial (by first | exact e_len (by simp only [St.look, St.ev, lk, mkM, blkOf, svOf, svOfCell, reduceIte, Nat.reduceAdd, Nat.reduceEqDiff, Nat.reduceMul]; rfl) il53 | exact e_lenR (by simp only [St.look, St.ev, lk, mkM, blkOf, svOf, svOfCell, reduceIte, Nat.reduceAdd, Nat.reduceEqDiff, Nat.reduceMul]; rfl) il53 | exact e_len0 (by simp only [St.look, St.ev, lk, mkM, blkOf, svOf, svOfCell, reduceIte, Nat.reduceAdd, Nat.reduceEqDiff, Nat.reduceMul]; rfl) il53) ?_
    refine c_val hP hn (by decide) trivial (e_move (by simp only [St.look, St.ev, lk, mkM, blkOf, svOf, svOfCell, reduceIte, Nat.reduceAdd, Nat.reduceEqDiff, Nat.reduceMul]; rfl)) ?_
    show AWp cx _ _ _
    refine awp_block ?_
    refine awp_loop (ι := Nat) (fun i => ⟨lk [(2, .pt 2 0 0), (13, .dv (.list (ls.map ints))), (14, .dv (i64 (ls.length : Int))), (15, .dv (i64 (i : Nat)))], mkM [(2, 0, some ⟨[.dv (i64 y.places), .dv (.list (y.steps.map dStp))], 0, 24, 0, false⟩)]⟩) (fun i => i ≤ ls.length ∧ ∀ j (hj : j < i) (h : j < ls.length), allIn ls[j] y.places 0 50 = true) (fun i => ls.length - i) 0 ⟨Nat.zero_le _, fun j hj => absurd hj (Nat.not_lt_zero j)⟩ (Le.tell hg [(2, 2)] (by simp [FLe, svLe, lk, mkM, isLive, tauL]) (by simp [MLe, blkLe, svLe, svLes, lk, mkM, isLive, tauL, svLes_ints, svLes_self, isDvs, isDvs_map, isDvs_app, isDvs_take, isDvs_set, isDvs_repl]) (by decide)) ?_
    intro i hφ0
    refine awp_seq ?_
    refine awp_reg hg ?_
    refine c_val hP hn (by decide) trivial (e_lss (by simp only [St.look, St.ev, lk, mkM, blkOf, svOf, svOfCell, reduceIte, Nat.reduceAdd, Nat.reduceEqDiff, Nat.reduceMul]; rfl) (by simp only [St.look, St.ev, lk, mkM, blkOf, svOf, svOfCell, reduceIte, Nat.reduceAdd, Nat.reduceEqDiff, Nat.reduceMul]; rfl)) ?_
    show AWp cx _ _ _
    refine awp_seq ?_
    refine awp_cond (by simp only [St.look, St.ev, lk, mkM, blkOf, svOf, svOfCell, reduceIte, Nat.reduceAdd, Nat.reduceEqDiff, Nat.reduceMul]; rfl) (fun hc1 => ?_) (fun hc1 => ?_)
    · try simp at hc1
      refine awp_skip ?_
      show AWp cx _ _ _
      refine awp_seq ?_
      refine awp_block ?_
      refine awp_seq ?_
      refine awp_reg hg ?_
      have hin : i < ls.length := by omega
      have hx : ls[i]? = some ls[i] := List.getElem?_eq_getElem hin
      have hpl : y.places < 1000000 := by have := validate_ok hc0; omega
      refine c_val hP hn (by decide) trivial (by first | exact e_indexN (by simp only [St.look, St.ev, lk, mkM, blkOf, svOf, svOfCell, reduceIte, Nat.reduceAdd, Nat.reduceEqDiff, Nat.reduceMul]; rfl) (by simp only [St.look, St.ev, lk, mkM, blkOf, svOf, svOfCell, reduceIte, Nat.reduceAdd, Nat.reduceEqDiff, Nat.reduceMul]; rfl) (by assumption) el53 (by exact sz25) | exact e_index (by simp only [St.look, St.ev, lk, mkM, blkOf, svOf, svOfCell, reduceIte, Nat.reduceAdd, Nat.reduceEqDiff, Nat.reduceMul]; rfl) (by simp only [St.look, St.ev, lk, mkM, blkOf, svOf, svOfCell, reduceIte, Nat.reduceAdd, Nat.reduceEqDiff, Nat.reduceMul]; rfl) (by omega) (by assumption) el53 (by exact sz25) | exact e_indexR (by simp only [St.look, St.ev, lk, mkM, blkOf, svOf, svOfCell, reduceIte, Nat.reduceAdd, Nat.reduceEqDiff, Nat.reduceMul]; rfl) (by simp only [St.look, St.ev, lk, mkM, blkOf, svOf, svOfCell, reduceIte, Nat.reduceAdd, Nat.reduceEqDiff, Nat.reduceMul]; rfl) (by omega) (by omega) el53 (by exact sz25) (by simp only [Int.toNat_natCast, Nat.zero_add, Nat.mul_one]; rfl)) ?_
      refine c_val hP hn (by decide) trivial (by first | exact e_load (by simp only [St.look, St.ev, lk, mkM, blkOf, svOf, svOfCell, reduceIte, Nat.reduceAdd, Nat.reduceEqDiff, Nat.reduceMul]; rfl) sz25 ag25 (by rfl) | exact e_loadp (by simp only [St.look, St.ev, lk, mkM, blkOf, svOf, svOfCell, reduceIte, Nat.reduceAdd, Nat.reduceEqDiff, Nat.reduceMul]; rfl) sz25 ag25 (by first | rfl | assumption)) ?_
      refine c_val hP hn (by decide) trivial (e_assign (by simp only [St.look, St.ev, lk, mkM, blkOf, svOf, svOfCell, reduceIte, Nat.reduceAdd, Nat.reduceEqDiff, Nat.reduceMul]; rfl)) ?_
      show AWp cx _ _ _
      refine awp_seq ?_
      refine awp_reg hg ?_
      refine c_val hP hn (by decide) trivial (e_move (by simp only [St.look, St.ev, lk, mkM, blkOf, svOf, svOfCell, reduceIte, Nat.reduceAdd, Nat.reduceEqDiff, Nat.reduceMul]; rfl)) ?_
      refine c_val hP hn (by decide) trivial (by first | exact e_field (by simp only [St.look, St.ev, lk, mkM, blkOf, svOf, svOfCell, reduceIte, Nat.reduceAdd, Nat.reduceEqDiff, Nat.reduceMul]; rfl) fd24_0 (by simp only [DV.cells, List.drop]; rfl) | exact e_fieldp (by simp only [St.look, St.ev, lk, mkM, blkOf, svOf, svOfCell, reduceIte, Nat.reduceAdd, Nat.reduceEqDiff, Nat.reduceMul]; rfl) fd24_0 rfl) ?_
      refine c_val hP hn (by decide) trivial (by first | exact e_load (by simp only [St.look, St.ev, lk, mkM, blkOf, svOf, svOfCell, reduceIte, Nat.reduceAdd, Nat.reduceEqDiff, Nat.reduceMul]; rfl) sz3 ag3 (by rfl) | exact e_loadp (by simp only [St.look, St.ev, lk, mkM, blkOf, svOf, svOfCell, reduceIte, Nat.reduceAdd, Nat.reduceEqDiff, Nat.reduceMul]; rfl) sz3 ag3 (by first | rfl | assumption)) ?_
      refine c_callF hP hn (by decide) trivial (f27 ls[i] y.places 0 50 hpl) (by simp only [List.map, St.look, St.ev, lk, mkM, blkOf, svOf, svOfCell, reduceIte, Nat.reduceAdd, Nat.reduceEqDiff, Nat.reduceMul]; rfl) (by repeat (first | exact args_nil | refine args_cons data_dv ?_)) (by first | exact res_one | exact res_two | exact res_three | exact res_rK1 (by simp only [mkM, reduceIte, Nat.reduceEqDiff]; rfl) | exact res_rK2 (by simp only [mkM, reduceIte, Nat.reduceEqDiff]; rfl) | exact res_rK3 (by simp only [mkM, reduceIte, Nat.reduceEqDiff]; rfl) | exact res_row rfl | exact res_rowdv rfl | exact res_rowdvdv rfl) ?_
      refine c_val hP hn (by decide) trivial (e_not (by simp only [St.look, St.ev, lk, mkM, blkOf, svOf, svOfCell, reduceIte, Nat.reduceAdd, Nat.reduceEqDiff, Nat.reduceMul]; rfl)) ?_
      show AWp cx _ _ _
      refine awp_cond (by simp only [St.look, St.ev, lk, mkM, blkOf, svOf, svOfCell, reduceIte, Nat.reduceAdd, Nat.reduceEqDiff, Nat.reduceMul]; rfl) (fun hc2 => ?_) (fun hc2 => ?_)
      · try simp at hc2
        refine awp_seq ?_
        refine awp_reg hg ?_
        refine c_val hP hn (by decide) trivial (e_assign (by simp only [St.look, St.ev, lk, mkM, blkOf, svOf, svOfCell, reduceIte, Nat.reduceAdd, Nat.reduceEqDiff, Nat.reduceMul]; rfl)) ?_
        show AWp cx _ _ _
        refine awp_ret ?_
        have ea : (ls.all fun m => allIn m y.places 0 50) = false := all_no hin (by simp_all)
        rw [show filledE y ls = 1 by simp only [filledE]; rw [if_neg (by simp [hc0]), if_neg (by simp [ea])]]
        exact end_dv (.inr rfl) (by simp [lk]) (.int _ _)
      · try simp at hc2
        refine awp_skip ?_
        show AWp cx _ _ _
        refine awp_reg hg ?_
        refine c_val hP hn (by decide) trivial (e_add (by simp only [St.look, St.ev, lk, mkM, blkOf, svOf, svOfCell, reduceIte, Nat.reduceAdd, Nat.reduceEqDiff, Nat.reduceMul]; rfl) (by simp only [St.look, St.ev, lk, mkM, blkOf, svOf, svOfCell, reduceIte, Nat.reduceAdd, Nat.reduceEqDiff, Nat.reduceMul]; rfl) (by omega) (by omega)) ?_
        refine c_val hP hn (by decide) trivial (e_move (by simp only [St.look, St.ev, lk, mkM, blkOf, svOf, svOfCell, reduceIte, Nat.reduceAdd, Nat.reduceEqDiff, Nat.reduceMul]; rfl)) ?_
        refine ⟨i + 1, ⟨hin, fun j hj h => ?_⟩, by simp only; omega, Le.tell hg [(2, 2)] (by simp [FLe, svLe, lk, mkM, isLive, tauL]) (by simp [MLe, blkLe, svLe, svLes, lk, mkM, isLive, tauL, svLes_ints, svLes_self, isDvs, isDvs_map, isDvs_app, isDvs_take, isDvs_set, isDvs_repl]) (by decide)⟩
        rcases Nat.lt_or_ge j i with h1 | h1
        · exact hφ0.2 j h1 h
        · obtain rfl : j = i := by omega
          simp_all
    · try simp at hc1
      refine awp_exit ?_
      show AWp cx _ _ _
      refine awp_seq ?_
      refine awp_reg hg ?_
      refine c_val hP hn (by decide) trivial (e_assign (by simp only [St.look, St.ev, lk, mkM, blkOf, svOf, svOfCell, reduceIte, Nat.reduceAdd, Nat.reduceEqDiff, Nat.reduceMul]; rfl)) ?_
      show AWp cx _ _ _
      refine awp_ret ?_
      have ea : (ls.all fun m => allIn m y.places 0 50) = true := all_yes fun j hj => hφ0.2 j (by omega) hj
      rw [show filledE y ls = 0 by simp only [filledE]; rw [if_neg (by simp [hc0]), if_pos ea]]
      exact end_dv (.inr rfl) (by simp [lk]) (.int _ _)
theorem f18 (y : Yd) (m : List Int) : ACallsF Tryd.prog 18 [dYd y, ints m] (.one (.dv (i64 (filledE y [m])))) := by
  refine callsF_of Tryd.func18 rfl rfl (by rw [Tryd.ntmps18]; simp) fun cx hP hn hg => ?_
  rw [Tryd.ntmps18] at hn
  rw [startF_lk, none_mkM]
  simp only [zipSV, Nat.reduceAdd]
  refine awp_seq ?_
  refine awp_reg hg ?_
  refine c_pt hP hn (by decide) trivial (e_box (by simp only [St.look, St.ev, lk, mkM, blkOf, svOf, svOfCell, reduceIte, Nat.reduceAdd, Nat.reduceEqDiff, Nat.reduceMul]; rfl) (by simp only [cellsSV, List.map]; rfl)) rfl (by simp only [mkM, reduceIte, Nat.reduceEqDiff]; rfl) ?_
  refine c_val hP hn (by decide) trivial (e_assign (by simp only [St.look, St.ev, lk, mkM, blkOf, svOf, svOfCell, reduceIte, Nat.reduceAdd, Nat.reduceEqDiff, Nat.reduceMul]; rfl)) ?_
  show AWp cx _ _ _
  refine awp_seq ?_
  refine awp_seq ?_
  refine awp_reg hg ?_
  refine c_val hP hn (by decide) trivial (by first | exact e_loada (by simp only [St.look, St.ev, lk, mkM, blkOf, svOf, svOfCell, reduceIte, Nat.reduceAdd, Nat.reduceEqDiff, Nat.reduceMul]; rfl) sz24 ag24 (by first | exact Nat.le_refl _ | simp [DV.cells]) (by simp only [DV.cells, List.take]; rfl) | exact e_loadpa (by simp only [St.look, St.ev, lk, mkM, blkOf, svOf, svOfCell, reduceIte, Nat.reduceAdd, Nat.reduceEqDiff, Nat.reduceMul]; rfl) sz24 ag24 (by first | exact Nat.le_refl _ | simp) (by simp only [aggSV, allDv, List.drop, List.take]; rfl)) ?_
  refine c_callF hP hn (by decide) trivial (f31 y) (by simp only [List.map, St.look, St.ev, lk, mkM, blkOf, svOf, svOfCell, reduceIte, Nat.reduceAdd, Nat.reduceEqDiff, Nat.reduceMul]; rfl) (by repeat (first | exact args_nil | refine args_cons data_dv ?_)) (by first | exact res_one | exact res_two | exact res_three | exact res_rK1 (by simp only [mkM, reduceIte, Nat.reduceEqDiff]; rfl) | exact res_rK2 (by simp only [mkM, reduceIte, Nat.reduceEqDiff]; rfl) | exact res_rK3 (by simp only [mkM, reduceIte, Nat.reduceEqDiff]; rfl) | exact res_row rfl | exact res_rowdv rfl | exact res_rowdvdv rfl) ?_
  refine c_val hP hn (by decide) trivial (e_assign (by simp only [St.look, St.ev, lk, mkM, blkOf, svOf, svOfCell, reduceIte, Nat.reduceAdd, Nat.reduceEqDiff, Nat.reduceMul]; rfl)) ?_
  show AWp cx _ _ _
  refine awp_seq ?_
  refine awp_reg hg ?_
  refine c_val hP hn (by decide) trivial (e_move (by simp only [St.look, St.ev, lk, mkM, blkOf, svOf, svOfCell, reduceIte, Nat.reduceAdd, Nat.reduceEqDiff, Nat.reduceMul]; rfl)) ?_
  refine c_val hP hn (by decide) trivial (e_neq (by simp only [St.look, St.ev, lk, mkM, blkOf, svOf, svOfCell, reduceIte, Nat.reduceAdd, Nat.reduceEqDiff, Nat.reduceMul]; rfl) (by simp only [St.look, St.ev, lk, mkM, blkOf, svOf, svOfCell, reduceIte, Nat.reduceAdd, Nat.reduceEqDiff, Nat.reduceMul]; rfl)) ?_
  show AWp cx _ _ _
  refine awp_cond (by simp only [St.look, St.ev, lk, mkM, blkOf, svOf, svOfCell, reduceIte, Nat.reduceAdd, Nat.reduceEqDiff, Nat.reduceMul]; rfl) (fun hc0 => ?_) (fun hc0 => ?_)
  · try simp at hc0
    refine awp_seq ?_
    refine awp_reg hg ?_
    refine c_val hP hn (by decide) trivial (e_move (by simp only [St.look, St.ev, lk, mkM, blkOf, svOf, svOfCell, reduceIte, Nat.reduceAdd, Nat.reduceEqDiff, Nat.reduceMul]; rfl)) ?_
    refine c_val hP hn (by decide) trivial (e_assign (by simp only [St.look, St.ev, lk, mkM, blkOf, svOf, svOfCell, reduceIte, Nat.reduceAdd, Nat.reduceEqDiff, Nat.reduceMul]; rfl)) ?_
    show AWp cx _ _ _
    refine awp_ret ?_
    exact end_dv (.inr rfl) (by simp_all [lk, filledE]) (.int _ _)
  · try simp at hc0
    refine awp_skip ?_
    show AWp cx _ _ _
    refine awp_seq ?_
    refine awp_seq ?_
    refine awp_reg hg ?_
    refine c_val hP hn (by decide) trivial (e_move (by simp only [St.look, St.ev, lk, mkM, blkOf, svOf, svOfCell, reduceIte, Nat.reduceAdd, Nat.reduceEqDiff, Nat.reduceMul]; rfl)) ?_
    refine c_val hP hn (by decide) trivial (by first | exact e_field (by simp only [St.look, St.ev, lk, mkM, blkOf, svOf, svOfCell, reduceIte, Nat.reduceAdd, Nat.reduceEqDiff, Nat.reduceMul]; rfl) fd24_0 (by simp only [DV.cells, List.drop]; rfl) | exact e_fieldp (by simp only [St.look, St.ev, lk, mkM, blkOf, svOf, svOfCell, reduceIte, Nat.reduceAdd, Nat.reduceEqDiff, Nat.reduceMul]; rfl) fd24_0 rfl) ?_
    refine c_val hP hn (by decide) trivial (by first | exact e_load (by simp only [St.look, St.ev, lk, mkM, blkOf, svOf, svOfCell, reduceIte, Nat.reduceAdd, Nat.reduceEqDiff, Nat.reduceMul]; rfl) sz3 ag3 (by rfl) | exact e_loadp (by simp only [St.look, St.ev, lk, mkM, blkOf, svOf, svOfCell, reduceIte, Nat.reduceAdd, Nat.reduceEqDiff, Nat.reduceMul]; rfl) sz3 ag3 (by first | rfl | assumption)) ?_
    have hpl : y.places < 1000000 := by have := validate_ok hc0; omega
    refine c_callF hP hn (by decide) trivial (f19 m y.places 0 50 hpl) (by simp only [List.map, St.look, St.ev, lk, mkM, blkOf, svOf, svOfCell, reduceIte, Nat.reduceAdd, Nat.reduceEqDiff, Nat.reduceMul]; rfl) (by repeat (first | exact args_nil | refine args_cons data_dv ?_)) (by first | exact res_one | exact res_two | exact res_three | exact res_rK1 (by simp only [mkM, reduceIte, Nat.reduceEqDiff]; rfl) | exact res_rK2 (by simp only [mkM, reduceIte, Nat.reduceEqDiff]; rfl) | exact res_rK3 (by simp only [mkM, reduceIte, Nat.reduceEqDiff]; rfl) | exact res_row rfl | exact res_rowdv rfl | exact res_rowdvdv rfl) ?_
    refine c_val hP hn (by decide) trivial (e_not (by simp only [St.look, St.ev, lk, mkM, blkOf, svOf, svOfCell, reduceIte, Nat.reduceAdd, Nat.reduceEqDiff, Nat.reduceMul]; rfl)) ?_
    show AWp cx _ _ _
    refine awp_cond (by simp only [St.look, St.ev, lk, mkM, blkOf, svOf, svOfCell, reduceIte, Nat.reduceAdd, Nat.reduceEqDiff, Nat.reduceMul]; rfl) (fun hc1 => ?_) (fun hc1 => ?_)
    · try simp at hc1
      refine awp_seq ?_
      refine awp_reg hg ?_
      refine c_val hP hn (by decide) trivial (e_assign (by simp only [St.look, St.ev, lk, mkM, blkOf, svOf, svOfCell, reduceIte, Nat.reduceAdd, Nat.reduceEqDiff, Nat.reduceMul]; rfl)) ?_
      show AWp cx _ _ _
      refine awp_ret ?_
      exact end_dv (.inr rfl) (by simp_all [lk, filledE]) (.int _ _)
    · try simp at hc1
      refine awp_skip ?_
      show AWp cx _ _ _
      refine awp_seq ?_
      refine awp_reg hg ?_
      refine c_val hP hn (by decide) trivial (e_assign (by simp only [St.look, St.ev, lk, mkM, blkOf, svOf, svOfCell, reduceIte, Nat.reduceAdd, Nat.reduceEqDiff, Nat.reduceMul]; rfl)) ?_
      show AWp cx _ _ _
      refine awp_ret ?_
      exact end_dv (.inr rfl) (by simp_all [lk, filledE]) (.int _ _)
theorem f24 (y : Yd) (l : List Int) (hy : y.steps.length < 1000000) : ACallsF Tryd.prog 24 [dYd y, ints l] (.one (.dv (i64 (listedE y l)))) := by
  refine callsF_of Tryd.func24 rfl rfl (by rw [Tryd.ntmps24]; simp) fun cx hP hn hg => ?_
  rw [Tryd.ntmps24] at hn
  rw [startF_lk, none_mkM]
  simp only [zipSV, Nat.reduceAdd]
  refine awp_seq ?_
  refine awp_reg hg ?_
  refine c_pt hP hn (by decide) trivial (e_box (by simp only [St.look, St.ev, lk, mkM, blkOf, svOf, svOfCell, reduceIte, Nat.reduceAdd, Nat.reduceEqDiff, Nat.reduceMul]; rfl) (by simp only [cellsSV, List.map]; rfl)) rfl (by simp only [mkM, reduceIte, Nat.reduceEqDiff]; rfl) ?_
  refine c_val hP hn (by decide) trivial (e_assign (by simp only [St.look, St.ev, lk, mkM, blkOf, svOf, svOfCell, reduceIte, Nat.reduceAdd, Nat.reduceEqDiff, Nat.reduceMul]; rfl)) ?_
  show AWp cx _ _ _
  refine awp_seq ?_
  refine awp_seq ?_
  refine awp_reg hg ?_
  refine c_val hP hn (by decide) trivial (e_move (by simp only [St.look, St.ev, lk, mkM, blkOf, svOf, svOfCell, reduceIte, Nat.reduceAdd, Nat.reduceEqDiff, Nat.reduceMul]; rfl)) ?_
  refine c_val hP hn (by decide) trivial (by first | exact e_len (by simp only [St.look, St.ev, lk, mkM, blkOf, svOf, svOfCell, reduceIte, Nat.reduceAdd, Nat.reduceEqDiff, Nat.reduceMul]; rfl) il25 | exact e_lenR (by simp only [St.look, St.ev, lk, mkM, blkOf, svOf, svOfCell, reduceIte, Nat.reduceAdd, Nat.reduceEqDiff, Nat.reduceMul]; rfl) il25 | exact e_len0 (by simp only [St.look, St.ev, lk, mkM, blkOf, svOf, svOfCell, reduceIte, Nat.reduceAdd, Nat.reduceEqDiff, Nat.reduceMul]; rfl) il25) ?_
  refine c_val hP hn (by decide) trivial (e_gtr (by simp only [St.look, St.ev, lk, mkM, blkOf, svOf, svOfCell, reduceIte, Nat.reduceAdd, Nat.reduceEqDiff, Nat.reduceMul]; rfl) (by simp only [St.look, St.ev, lk, mkM, blkOf, svOf, svOfCell, reduceIte, Nat.reduceAdd, Nat.reduceEqDiff, Nat.reduceMul]; rfl)) ?_
  show AWp cx _ _ _
  refine awp_cond (by simp only [St.look, St.ev, lk, mkM, blkOf, svOf, svOfCell, reduceIte, Nat.reduceAdd, Nat.reduceEqDiff, Nat.reduceMul]; rfl) (fun hc0 => ?_) (fun hc0 => ?_)
  · try simp at hc0
    refine awp_seq ?_
    refine awp_reg hg ?_
    refine c_val hP hn (by decide) trivial (e_assign (by simp only [St.look, St.ev, lk, mkM, blkOf, svOf, svOfCell, reduceIte, Nat.reduceAdd, Nat.reduceEqDiff, Nat.reduceMul]; rfl)) ?_
    show AWp cx _ _ _
    refine awp_ret ?_
    rw [show listedE y l = 3 by simp only [listedE]; rw [if_pos (by omega)]]
    exact end_dv (.inr rfl) (by simp [lk]) (.int _ _)
  · try simp at hc0
    refine awp_skip ?_
    show AWp cx _ _ _
    refine awp_seq ?_
    refine awp_seq ?_
    refine awp_reg hg ?_
    refine c_val hP hn (by decide) trivial (e_move (by simp only [St.look, St.ev, lk, mkM, blkOf, svOf, svOfCell, reduceIte, Nat.reduceAdd, Nat.reduceEqDiff, Nat.reduceMul]; rfl)) ?_
    refine c_val hP hn (by decide) trivial (by first | exact e_len (by simp only [St.look, St.ev, lk, mkM, blkOf, svOf, svOfCell, reduceIte, Nat.reduceAdd, Nat.reduceEqDiff, Nat.reduceMul]; rfl) il25 | exact e_lenR (by simp only [St.look, St.ev, lk, mkM, blkOf, svOf, svOfCell, reduceIte, Nat.reduceAdd, Nat.reduceEqDiff, Nat.reduceMul]; rfl) il25 | exact e_len0 (by simp only [St.look, St.ev, lk, mkM, blkOf, svOf, svOfCell, reduceIte, Nat.reduceAdd, Nat.reduceEqDiff, Nat.reduceMul]; rfl) il25) ?_
    refine c_val hP hn (by decide) trivial (e_move (by simp only [St.look, St.ev, lk, mkM, blkOf, svOf, svOfCell, reduceIte, Nat.reduceAdd, Nat.reduceEqDiff, Nat.reduceMul]; rfl)) ?_
    show AWp cx _ _ _
    refine awp_block ?_
    refine awp_loop (ι := Nat) (fun i => ⟨lk [(2, .pt 2 0 0), (10, .dv (ints l)), (11, .dv (i64 (l.length : Int))), (12, .dv (i64 (i : Nat)))], mkM [(2, 0, some ⟨[.dv (i64 y.places), .dv (.list (y.steps.map dStp))], 0, 24, 0, false⟩)]⟩) (fun i => i ≤ l.length ∧ ∀ j (hj : j < i) (h : j < l.length), within l[j] 0 ((y.steps.length : Int) - 1) = true) (fun i => l.length - i) 0 ⟨Nat.zero_le _, fun j hj => absurd hj (Nat.not_lt_zero j)⟩ (Le.tell hg [(2, 2)] (by simp [FLe, svLe, lk, mkM, isLive, tauL]) (by simp [MLe, blkLe, svLe, svLes, lk, mkM, isLive, tauL, svLes_ints, svLes_self, isDvs, isDvs_map, isDvs_app, isDvs_take, isDvs_set, isDvs_repl]) (by decide)) ?_
    intro i hφ0
    refine awp_seq ?_
    refine awp_reg hg ?_
    refine c_val hP hn (by decide) trivial (e_lss (by simp only [St.look, St.ev, lk, mkM, blkOf, svOf, svOfCell, reduceIte, Nat.reduceAdd, Nat.reduceEqDiff, Nat.reduceMul]; rfl) (by simp only [St.look, St.ev, lk, mkM, blkOf, svOf, svOfCell, reduceIte, Nat.reduceAdd, Nat.reduceEqDiff, Nat.reduceMul]; rfl)) ?_
    show AWp cx _ _ _
    refine awp_seq ?_
    refine awp_cond (by simp only [St.look, St.ev, lk, mkM, blkOf, svOf, svOfCell, reduceIte, Nat.reduceAdd, Nat.reduceEqDiff, Nat.reduceMul]; rfl) (fun hc1 => ?_) (fun hc1 => ?_)
    · try simp at hc1
      refine awp_skip ?_
      show AWp cx _ _ _
      refine awp_seq ?_
      refine awp_block ?_
      refine awp_seq ?_
      refine awp_reg hg ?_
      have hin : i < l.length := by omega
      have hx : l[i]? = some l[i] := List.getElem?_eq_getElem hin
      refine c_val hP hn (by decide) trivial (by first | exact e_indexN (by simp only [St.look, St.ev, lk, mkM, blkOf, svOf, svOfCell, reduceIte, Nat.reduceAdd, Nat.reduceEqDiff, Nat.reduceMul]; rfl) (by simp only [St.look, St.ev, lk, mkM, blkOf, svOf, svOfCell, reduceIte, Nat.reduceAdd, Nat.reduceEqDiff, Nat.reduceMul]; rfl) (by assumption) el25 (by exact sz3) | exact e_index (by simp only [St.look, St.ev, lk, mkM, blkOf, svOf, svOfCell, reduceIte, Nat.reduceAdd, Nat.reduceEqDiff, Nat.reduceMul]; rfl) (by simp only [St.look, St.ev, lk, mkM, blkOf, svOf, svOfCell, reduceIte, Nat.reduceAdd, Nat.reduceEqDiff, Nat.reduceMul]; rfl) (by omega) (by assumption) el25 (by exact sz3) | exact e_indexR (by simp only [St.look, St.ev, lk, mkM, blkOf, svOf, svOfCell, reduceIte, Nat.reduceAdd, Nat.reduceEqDiff, Nat.reduceMul]; rfl) (by simp only [St.look, St.ev, lk, mkM, blkOf, svOf, svOfCell, reduceIte, Nat.reduceAdd, Nat.reduceEqDiff, Nat.reduceMul]; rfl) (by omega) (by omega) el25 (by exact sz3) (by simp only [Int.toNat_natCast, Nat.zero_add, Nat.mul_one]; rfl)) ?_
      refine c_val hP hn (by decide) trivial (by first | exact e_load (by simp only [St.look, St.ev, lk, mkM, blkOf, svOf, svOfCell, reduceIte, Nat.reduceAdd, Nat.reduceEqDiff, Nat.reduceMul]; rfl) sz3 ag3 (by rfl) | exact e_loadp (by simp only [St.look, St.ev, lk, mkM, blkOf, svOf, svOfCell, reduceIte, Nat.reduceAdd, Nat.reduceEqDiff, Nat.reduceMul]; rfl) sz3 ag3 (by first | rfl | assumption)) ?_
      refine c_val hP hn (by decide) trivial (e_assign (by simp only [St.look, St.ev, lk, mkM, blkOf, svOf, svOfCell, reduceIte, Nat.reduceAdd, Nat.reduceEqDiff, Nat.reduceMul]; rfl)) ?_
      show AWp cx _ _ _
      refine awp_seq ?_
      refine awp_reg hg ?_
      refine c_val hP hn (by decide) trivial (e_move (by simp only [St.look, St.ev, lk, mkM, blkOf, svOf, svOfCell, reduceIte, Nat.reduceAdd, Nat.reduceEqDiff, Nat.reduceMul]; rfl)) ?_
      refine c_val hP hn (by decide) trivial (by first | exact e_field (by simp only [St.look, St.ev, lk, mkM, blkOf, svOf, svOfCell, reduceIte, Nat.reduceAdd, Nat.reduceEqDiff, Nat.reduceMul]; rfl) fd24_1 (by simp only [DV.cells, List.drop]; rfl) | exact e_fieldp (by simp only [St.look, St.ev, lk, mkM, blkOf, svOf, svOfCell, reduceIte, Nat.reduceAdd, Nat.reduceEqDiff, Nat.reduceMul]; rfl) fd24_1 rfl) ?_
      refine c_val hP hn (by decide) trivial (by first | exact e_load (by simp only [St.look, St.ev, lk, mkM, blkOf, svOf, svOfCell, reduceIte, Nat.reduceAdd, Nat.reduceEqDiff, Nat.reduceMul]; rfl) sz22 ag22 (by rfl) | exact e_loadp (by simp only [St.look, St.ev, lk, mkM, blkOf, svOf, svOfCell, reduceIte, Nat.reduceAdd, Nat.reduceEqDiff, Nat.reduceMul]; rfl) sz22 ag22 (by first | rfl | assumption)) ?_
      refine c_val hP hn (by decide) trivial (by first | exact e_len (by simp only [St.look, St.ev, lk, mkM, blkOf, svOf, svOfCell, reduceIte, Nat.reduceAdd, Nat.reduceEqDiff, Nat.reduceMul]; rfl) il22 | exact e_lenR (by simp only [St.look, St.ev, lk, mkM, blkOf, svOf, svOfCell, reduceIte, Nat.reduceAdd, Nat.reduceEqDiff, Nat.reduceMul]; rfl) il22 | exact e_len0 (by simp only [St.look, St.ev, lk, mkM, blkOf, svOf, svOfCell, reduceIte, Nat.reduceAdd, Nat.reduceEqDiff, Nat.reduceMul]; rfl) il22) ?_
      refine c_val hP hn (by decide) trivial (e_sub (by simp only [St.look, St.ev, lk, mkM, blkOf, svOf, svOfCell, reduceIte, Nat.reduceAdd, Nat.reduceEqDiff, Nat.reduceMul]; rfl) (by simp only [St.look, St.ev, lk, mkM, blkOf, svOf, svOfCell, reduceIte, Nat.reduceAdd, Nat.reduceEqDiff, Nat.reduceMul]; rfl) (by omega) (by omega)) ?_
      refine c_callF hP hn (by decide) trivial (f15 l[i] 0 ((y.steps.length : Int) - 1)) (by simp only [List.map, St.look, St.ev, lk, mkM, blkOf, svOf, svOfCell, reduceIte, Nat.reduceAdd, Nat.reduceEqDiff, Nat.reduceMul]; rfl) (by repeat (first | exact args_nil | refine args_cons data_dv ?_)) (by first | exact res_one | exact res_two | exact res_three | exact res_rK1 (by simp only [mkM, reduceIte, Nat.reduceEqDiff]; rfl) | exact res_rK2 (by simp only [mkM, reduceIte, Nat.reduceEqDiff]; rfl) | exact res_rK3 (by simp only [mkM, reduceIte, Nat.reduceEqDiff]; rfl) | exact res_row rfl | exact res_rowdv rfl | exact res_rowdvdv rfl) ?_
      refine c_val hP hn (by decide) trivial (e_not (by simp only [St.look, St.ev, lk, mkM, blkOf, svOf, svOfCell, reduceIte, Nat.reduceAdd, Nat.reduceEqDiff, Nat.reduceMul]; rfl)) ?_
      show AWp cx _ _ _
      refine awp_cond (by simp only [St.look, St.ev, lk, mkM, blkOf, svOf, svOfCell, reduceIte, Nat.reduceAdd, Nat.reduceEqDiff, Nat.reduceMul]; rfl) (fun hc2 => ?_) (fun hc2 => ?_)
      · try simp at hc2
        refine awp_seq ?_
        refine awp_reg hg ?_
        refine c_val hP hn (by decide) trivial (e_assign (by simp only [St.look, St.ev, lk, mkM, blkOf, svOf, svOfCell, reduceIte, Nat.reduceAdd, Nat.reduceEqDiff, Nat.reduceMul]; rfl)) ?_
        show AWp cx _ _ _
        refine awp_ret ?_
        have ea : (l.all fun n => within n 0 ((y.steps.length : Int) - 1)) = false := all_no hin (by simp_all)
        rw [show listedE y l = 4 by simp only [listedE]; rw [if_neg (by omega), if_neg (by simp [ea])]]
        exact end_dv (.inr rfl) (by simp [lk]) (.int _ _)
      · try simp at hc2
        refine awp_skip ?_
        show AWp cx _ _ _
        refine awp_reg hg ?_
        refine c_val hP hn (by decide) trivial (e_add (by simp only [St.look, St.ev, lk, mkM, blkOf, svOf, svOfCell, reduceIte, Nat.reduceAdd, Nat.reduceEqDiff, Nat.reduceMul]; rfl) (by simp only [St.look, St.ev, lk, mkM, blkOf, svOf, svOfCell, reduceIte, Nat.reduceAdd, Nat.reduceEqDiff, Nat.reduceMul]; rfl) (by omega) (by omega)) ?_
        refine c_val hP hn (by decide) trivial (e_move (by simp only [St.look, St.ev, lk, mkM, blkOf, svOf, svOfCell, reduceIte, Nat.reduceAdd, Nat.reduceEqDiff, Nat.reduceMul]; rfl)) ?_
        refine ⟨i + 1, ⟨hin, fun j hj h => ?_⟩, by simp only; omega, Le.tell hg [(2, 2)] (by simp [FLe, svLe, lk, mkM, isLive, tauL]) (by simp [MLe, blkLe, svLe, svLes, lk, mkM, isLive, tauL, svLes_ints, svLes_self, isDvs, isDvs_map, isDvs_app, isDvs_take, isDvs_set, isDvs_repl]) (by decide)⟩
        rcases Nat.lt_or_ge j i with h1 | h1
        · exact hφ0.2 j h1 h
        · obtain rfl : j = i := by omega
          simp_all
    · try simp at hc1
      refine awp_exit ?_
      show AWp cx _ _ _
      refine awp_seq ?_
      refine awp_reg hg ?_
      refine c_val hP hn (by decide) trivial (e_assign (by simp only [St.look, St.ev, lk, mkM, blkOf, svOf, svOfCell, reduceIte, Nat.reduceAdd, Nat.reduceEqDiff, Nat.reduceMul]; rfl)) ?_
      show AWp cx _ _ _
      refine awp_ret ?_
      have ea : (l.all fun n => within n 0 ((y.steps.length : Int) - 1)) = true := all_yes fun j hj => hφ0.2 j (by omega) hj
      rw [show listedE y l = 0 by simp only [listedE]; rw [if_neg (by omega), if_pos ea]]
      exact end_dv (.inr rfl) (by simp [lk]) (.int _ _)
theorem f37 (s : Stp) (m : List Int) (ht : s.take.length ≤ m.length) (hm : m.length < 1000000) : ACallsF Tryd.prog 37 [dStp s, ints m] (.one (.dv (.bool (covers m s.take)))) := by
  refine callsF_of Tryd.func37 rfl rfl (by rw [Tryd.ntmps37]; simp) fun cx hP hn hg => ?_
  rw [Tryd.ntmps37] at hn
  rw [startF_lk, none_mkM]
  simp only [zipSV, Nat.reduceAdd]
  refine awp_seq ?_
  refine awp_reg hg ?_
  refine c_pt hP hn (by decide) trivial (e_box (by simp only [St.look, St.ev, lk, mkM, blkOf, svOf, svOfCell, reduceIte, Nat.reduceAdd, Nat.reduceEqDiff, Nat.reduceMul]; rfl) (by simp only [cellsSV, List.map]; rfl)) rfl (by simp only [mkM, reduceIte, Nat.reduceEqDiff]; rfl) ?_
  refine c_val hP hn (by decide) trivial (e_assign (by simp only [St.look, St.ev, lk, mkM, blkOf, svOf, svOfCell, reduceIte, Nat.reduceAdd, Nat.reduceEqDiff, Nat.reduceMul]; rfl)) ?_
  show AWp cx _ _ _
  refine awp_seq ?_
  refine awp_seq ?_
  refine awp_reg hg ?_
  refine c_val hP hn (by decide) trivial (by first | exact e_field (by simp only [St.look, St.ev, lk, mkM, blkOf, svOf, svOfCell, reduceIte, Nat.reduceAdd, Nat.reduceEqDiff, Nat.reduceMul]; rfl) fd39_0 (by simp only [DV.cells, List.drop]; rfl) | exact e_fieldp (by simp only [St.look, St.ev, lk, mkM, blkOf, svOf, svOfCell, reduceIte, Nat.reduceAdd, Nat.reduceEqDiff, Nat.reduceMul]; rfl) fd39_0 rfl) ?_
  refine c_val hP hn (by decide) trivial (by first | exact e_load (by simp only [St.look, St.ev, lk, mkM, blkOf, svOf, svOfCell, reduceIte, Nat.reduceAdd, Nat.reduceEqDiff, Nat.reduceMul]; rfl) sz25 ag25 (by rfl) | exact e_loadp (by simp only [St.look, St.ev, lk, mkM, blkOf, svOf, svOfCell, reduceIte, Nat.reduceAdd, Nat.reduceEqDiff, Nat.reduceMul]; rfl) sz25 ag25 (by first | rfl | assumption)) ?_
  refine c_val hP hn (by decide) trivial (by first | exact e_len (by simp only [St.look, St.ev, lk, mkM, blkOf, svOf, svOfCell, reduceIte, Nat.reduceAdd, Nat.reduceEqDiff, Nat.reduceMul]; rfl) il25 | exact e_lenR (by simp only [St.look, St.ev, lk, mkM, blkOf, svOf, svOfCell, reduceIte, Nat.reduceAdd, Nat.reduceEqDiff, Nat.reduceMul]; rfl) il25 | exact e_len0 (by simp only [St.look, St.ev, lk, mkM, blkOf, svOf, svOfCell, reduceIte, Nat.reduceAdd, Nat.reduceEqDiff, Nat.reduceMul]; rfl) il25) ?_
  refine c_val hP hn (by decide) trivial (e_move (by simp only [St.look, St.ev, lk, mkM, blkOf, svOf, svOfCell, reduceIte, Nat.reduceAdd, Nat.reduceEqDiff, Nat.reduceMul]; rfl)) ?_
  show AWp cx _ _ _
  refine awp_block ?_
  refine awp_loop (ι := Nat) (fun i => ⟨lk [(1, .dv (ints m)), (8, .dv (ints s.take)), (9, .dv (i64 (s.take.length : Int))), (10, .dv (i64 (i : Nat)))], mkM []⟩) (fun i => i ≤ s.take.length ∧ ∀ j (hj : j < i) (h : j < s.take.length), s.take[j] ≤ m[j]) (fun i => s.take.length - i) 0 ⟨Nat.zero_le _, fun j hj => absurd hj (Nat.not_lt_zero j)⟩ (Le.tell hg [] (by simp [FLe, svLe, lk, mkM, isLive, tauL]) (by simp [MLe, blkLe, svLe, svLes, lk, mkM, isLive, tauL, svLes_ints, svLes_self, isDvs, isDvs_map, isDvs_app, isDvs_take, isDvs_set, isDvs_repl]) (by decide)) ?_
  intro i hφ0
  refine awp_seq ?_
  refine awp_reg hg ?_
  refine c_val hP hn (by decide) trivial (e_lss (by simp only [St.look, St.ev, lk, mkM, blkOf, svOf, svOfCell, reduceIte, Nat.reduceAdd, Nat.reduceEqDiff, Nat.reduceMul]; rfl) (by simp only [St.look, St.ev, lk, mkM, blkOf, svOf, svOfCell, reduceIte, Nat.reduceAdd, Nat.reduceEqDiff, Nat.reduceMul]; rfl)) ?_
  show AWp cx _ _ _
  refine awp_seq ?_
  refine awp_cond (by simp only [St.look, St.ev, lk, mkM, blkOf, svOf, svOfCell, reduceIte, Nat.reduceAdd, Nat.reduceEqDiff, Nat.reduceMul]; rfl) (fun hc0 => ?_) (fun hc0 => ?_)
  · try simp at hc0
    refine awp_skip ?_
    show AWp cx _ _ _
    refine awp_seq ?_
    refine awp_block ?_
    refine awp_seq ?_
    refine awp_reg hg ?_
    have hin : i < s.take.length := by omega
    have hx : s.take[i]? = some s.take[i] := List.getElem?_eq_getElem hin
    have him : i < m.length := by omega
    have hxm : m[i]? = some m[i] := List.getElem?_eq_getElem him
    refine c_val hP hn (by decide) trivial (e_move (by simp only [St.look, St.ev, lk, mkM, blkOf, svOf, svOfCell, reduceIte, Nat.reduceAdd, Nat.reduceEqDiff, Nat.reduceMul]; rfl)) ?_
    refine c_val hP hn (by decide) trivial (by first | exact e_indexN (by simp only [St.look, St.ev, lk, mkM, blkOf, svOf, svOfCell, reduceIte, Nat.reduceAdd, Nat.reduceEqDiff, Nat.reduceMul]; rfl) (by simp only [St.look, St.ev, lk, mkM, blkOf, svOf, svOfCell, reduceIte, Nat.reduceAdd, Nat.reduceEqDiff, Nat.reduceMul]; rfl) (by assumption) el25 (by exact sz3) | exact e_index (by simp only [St.look, St.ev, lk, mkM, blkOf, svOf, svOfCell, reduceIte, Nat.reduceAdd, Nat.reduceEqDiff, Nat.reduceMul]; rfl) (by simp only [St.look, St.ev, lk, mkM, blkOf, svOf, svOfCell, reduceIte, Nat.reduceAdd, Nat.reduceEqDiff, Nat.reduceMul]; rfl) (by omega) (by assumption) el25 (by exact sz3) | exact e_indexR (by simp only [St.look, St.ev, lk, mkM, blkOf, svOf, svOfCell, reduceIte, Nat.reduceAdd, Nat.reduceEqDiff, Nat.reduceMul]; rfl) (by simp only [St.look, St.ev, lk, mkM, blkOf, svOf, svOfCell, reduceIte, Nat.reduceAdd, Nat.reduceEqDiff, Nat.reduceMul]; rfl) (by omega) (by omega) el25 (by exact sz3) (by simp only [Int.toNat_natCast, Nat.zero_add, Nat.mul_one]; rfl)) ?_
    refine c_val hP hn (by decide) trivial (by first | exact e_load (by simp only [St.look, St.ev, lk, mkM, blkOf, svOf, svOfCell, reduceIte, Nat.reduceAdd, Nat.reduceEqDiff, Nat.reduceMul]; rfl) sz3 ag3 (by rfl) | exact e_loadp (by simp only [St.look, St.ev, lk, mkM, blkOf, svOf, svOfCell, reduceIte, Nat.reduceAdd, Nat.reduceEqDiff, Nat.reduceMul]; rfl) sz3 ag3 (by first | rfl | assumption)) ?_
    refine c_val hP hn (by decide) trivial (e_assign (by simp only [St.look, St.ev, lk, mkM, blkOf, svOf, svOfCell, reduceIte, Nat.reduceAdd, Nat.reduceEqDiff, Nat.reduceMul]; rfl)) ?_
    refine c_val hP hn (by decide) trivial (e_assign (by simp only [St.look, St.ev, lk, mkM, blkOf, svOf, svOfCell, reduceIte, Nat.reduceAdd, Nat.reduceEqDiff, Nat.reduceMul]; rfl)) ?_
    show AWp cx _ _ _
    refine awp_seq ?_
    refine awp_reg hg ?_
    refine c_val hP hn (by decide) trivial (e_move (by simp only [St.look, St.ev, lk, mkM, blkOf, svOf, svOfCell, reduceIte, Nat.reduceAdd, Nat.reduceEqDiff, Nat.reduceMul]; rfl)) ?_
    refine c_val hP hn (by decide) trivial (e_move (by simp only [St.look, St.ev, lk, mkM, blkOf, svOf, svOfCell, reduceIte, Nat.reduceAdd, Nat.reduceEqDiff, Nat.reduceMul]; rfl)) ?_
    refine c_val hP hn (by decide) trivial (by first | exact e_indexN (by simp only [St.look, St.ev, lk, mkM, blkOf, svOf, svOfCell, reduceIte, Nat.reduceAdd, Nat.reduceEqDiff, Nat.reduceMul]; rfl) (by simp only [St.look, St.ev, lk, mkM, blkOf, svOf, svOfCell, reduceIte, Nat.reduceAdd, Nat.reduceEqDiff, Nat.reduceMul]; rfl) (by assumption) el25 (by exact sz3) | exact e_index (by simp only [St.look, St.ev, lk, mkM, blkOf, svOf, svOfCell, reduceIte, Nat.reduceAdd, Nat.reduceEqDiff, Nat.reduceMul]; rfl) (by simp only [St.look, St.ev, lk, mkM, blkOf, svOf, svOfCell, reduceIte, Nat.reduceAdd, Nat.reduceEqDiff, Nat.reduceMul]; rfl) (by omega) (by assumption) el25 (by exact sz3) | exact e_indexR (by simp only [St.look, St.ev, lk, mkM, blkOf, svOf, svOfCell, reduceIte, Nat.reduceAdd, Nat.reduceEqDiff, Nat.reduceMul]; rfl) (by simp only [St.look, St.ev, lk, mkM, blkOf, svOf, svOfCell, reduceIte, Nat.reduceAdd, Nat.reduceEqDiff, Nat.reduceMul]; rfl) (by omega) (by omega) el25 (by exact sz3) (by simp only [Int.toNat_natCast, Nat.zero_add, Nat.mul_one]; rfl)) ?_
    refine c_val hP hn (by decide) trivial (by first | exact e_load (by simp only [St.look, St.ev, lk, mkM, blkOf, svOf, svOfCell, reduceIte, Nat.reduceAdd, Nat.reduceEqDiff, Nat.reduceMul]; rfl) sz3 ag3 (by rfl) | exact e_loadp (by simp only [St.look, St.ev, lk, mkM, blkOf, svOf, svOfCell, reduceIte, Nat.reduceAdd, Nat.reduceEqDiff, Nat.reduceMul]; rfl) sz3 ag3 (by first | rfl | assumption)) ?_
    refine c_val hP hn (by decide) trivial (e_move (by simp only [St.look, St.ev, lk, mkM, blkOf, svOf, svOfCell, reduceIte, Nat.reduceAdd, Nat.reduceEqDiff, Nat.reduceMul]; rfl)) ?_
    refine c_val hP hn (by decide) trivial (e_lss (by simp only [St.look, St.ev, lk, mkM, blkOf, svOf, svOfCell, reduceIte, Nat.reduceAdd, Nat.reduceEqDiff, Nat.reduceMul]; rfl) (by simp only [St.look, St.ev, lk, mkM, blkOf, svOf, svOfCell, reduceIte, Nat.reduceAdd, Nat.reduceEqDiff, Nat.reduceMul]; rfl)) ?_
    show AWp cx _ _ _
    refine awp_cond (by simp only [St.look, St.ev, lk, mkM, blkOf, svOf, svOfCell, reduceIte, Nat.reduceAdd, Nat.reduceEqDiff, Nat.reduceMul]; rfl) (fun hc1 => ?_) (fun hc1 => ?_)
    · try simp at hc1
      refine awp_seq ?_
      refine awp_reg hg ?_
      refine c_val hP hn (by decide) trivial (e_assign (by simp only [St.look, St.ev, lk, mkM, blkOf, svOf, svOfCell, reduceIte, Nat.reduceAdd, Nat.reduceEqDiff, Nat.reduceMul]; rfl)) ?_
      show AWp cx _ _ _
      refine awp_ret ?_
      rw [covers_no him hin (by simpa using hc1)]
      exact end_dv (.inr rfl) (by simp [lk]) (.bool _)
    · try simp at hc1
      refine awp_skip ?_
      show AWp cx _ _ _
      refine awp_reg hg ?_
      refine c_val hP hn (by decide) trivial (e_add (by simp only [St.look, St.ev, lk, mkM, blkOf, svOf, svOfCell, reduceIte, Nat.reduceAdd, Nat.reduceEqDiff, Nat.reduceMul]; rfl) (by simp only [St.look, St.ev, lk, mkM, blkOf, svOf, svOfCell, reduceIte, Nat.reduceAdd, Nat.reduceEqDiff, Nat.reduceMul]; rfl) (by omega) (by omega)) ?_
      refine c_val hP hn (by decide) trivial (e_move (by simp only [St.look, St.ev, lk, mkM, blkOf, svOf, svOfCell, reduceIte, Nat.reduceAdd, Nat.reduceEqDiff, Nat.reduceMul]; rfl)) ?_
      refine ⟨i + 1, ⟨hin, fun j hj h => ?_⟩, by simp only; omega, Le.tell hg [] (by simp [FLe, svLe, lk, mkM, isLive, tauL]) (by simp [MLe, blkLe, svLe, svLes, lk, mkM, isLive, tauL, svLes_ints, svLes_self, isDvs, isDvs_map, isDvs_app, isDvs_take, isDvs_set, isDvs_repl]) (by decide)⟩
      rcases Nat.lt_or_ge j i with h1 | h1
      · exact hφ0.2 j h1 h
      · obtain rfl : j = i := by omega
        simp_all
  · try simp at hc0
    refine awp_exit ?_
    show AWp cx _ _ _
    refine awp_seq ?_
    refine awp_reg hg ?_
    refine c_val hP hn (by decide) trivial (e_assign (by simp only [St.look, St.ev, lk, mkM, blkOf, svOf, svOfCell, reduceIte, Nat.reduceAdd, Nat.reduceEqDiff, Nat.reduceMul]; rfl)) ?_
    show AWp cx _ _ _
    refine awp_ret ?_
    rw [covers_yes fun j h1 h2 => hφ0.2 j (by omega) h2]
    exact end_dv (.inr rfl) (by simp [lk]) (.bool _)
theorem f32 (y : Yd) (m : List Int) (s : Int) (st : Stp) (h0 : 0 ≤ s) (hs : y.steps[s.toNat]? = some st) (hm : (m.length : Int) = y.places) (ht : (st.take.length : Int) = y.places) (hp : y.places < 1000000) :
    ACallsF Tryd.prog 32 [dYd y, ints m, i64 s] (.one (.dv (.bool (covers m st.take)))) := by
  refine callsF_of Tryd.func32 rfl rfl (by rw [Tryd.ntmps32]; simp) fun cx hP hn hg => ?_
  rw [Tryd.ntmps32] at hn
  rw [startF_lk, none_mkM]
  simp only [zipSV, Nat.reduceAdd]
  refine awp_seq ?_
  refine awp_reg hg ?_
  refine c_pt hP hn (by decide) trivial (e_box (by simp only [St.look, St.ev, lk, mkM, blkOf, svOf, svOfCell, reduceIte, Nat.reduceAdd, Nat.reduceEqDiff, Nat.reduceMul]; rfl) (by simp only [cellsSV, List.map]; rfl)) rfl (by simp only [mkM, reduceIte, Nat.reduceEqDiff]; rfl) ?_
  refine c_val hP hn (by decide) trivial (e_assign (by simp only [St.look, St.ev, lk, mkM, blkOf, svOf, svOfCell, reduceIte, Nat.reduceAdd, Nat.reduceEqDiff, Nat.reduceMul]; rfl)) ?_
  show AWp cx _ _ _
  refine awp_seq ?_
  refine awp_seq ?_
  refine awp_reg hg ?_
  refine c_val hP hn (by decide) trivial (e_assign (by simp only [St.look, St.ev, lk, mkM, blkOf, svOf, svOfCell, reduceIte, Nat.reduceAdd, Nat.reduceEqDiff, Nat.reduceMul]; rfl)) ?_
  show AWp cx _ _ _
  refine awp_block ?_
  refine awp_loop (ι := Nat) (fun i => ⟨lk [(3, .pt 3 0 0), (1, .dv (ints m)), (2, .dv (i64 s)), (7, .dv (i64 (i : Nat)))], mkM [(3, 0, some ⟨[.dv (i64 y.places), .dv (.list (y.steps.map dStp))], 0, 24, 0, false⟩)]⟩) (fun i => i ≤ st.take.length ∧ ∀ j (hj : j < i) (h : j < st.take.length), st.take[j] ≤ m[j]) (fun i => st.take.length - i) 0 ⟨Nat.zero_le _, fun j hj => absurd hj (Nat.not_lt_zero j)⟩ (Le.tell hg [(3, 3)] (by simp [FLe, svLe, lk, mkM, isLive, tauL]) (by simp [MLe, blkLe, svLe, svLes, lk, mkM, isLive, tauL, svLes_ints, svLes_self, isDvs, isDvs_map, isDvs_app, isDvs_take, isDvs_set, isDvs_repl]) (by decide)) ?_
  intro i hφ0
  refine awp_seq ?_
  refine awp_seq ?_
  refine awp_reg hg ?_
  refine c_val hP hn (by decide) trivial (e_move (by simp only [St.look, St.ev, lk, mkM, blkOf, svOf, svOfCell, reduceIte, Nat.reduceAdd, Nat.reduceEqDiff, Nat.reduceMul]; rfl)) ?_
  refine c_val hP hn (by decide) trivial (by first | exact e_field (by simp only [St.look, St.ev, lk, mkM, blkOf, svOf, svOfCell, reduceIte, Nat.reduceAdd, Nat.reduceEqDiff, Nat.reduceMul]; rfl) fd24_0 (by simp only [DV.cells, List.drop]; rfl) | exact e_fieldp (by simp only [St.look, St.ev, lk, mkM, blkOf, svOf, svOfCell, reduceIte, Nat.reduceAdd, Nat.reduceEqDiff, Nat.reduceMul]; rfl) fd24_0 rfl) ?_
  refine c_val hP hn (by decide) trivial (by first | exact e_load (by simp only [St.look, St.ev, lk, mkM, blkOf, svOf, svOfCell, reduceIte, Nat.reduceAdd, Nat.reduceEqDiff, Nat.reduceMul]; rfl) sz3 ag3 (by rfl) | exact e_loadp (by simp only [St.look, St.ev, lk, mkM, blkOf, svOf, svOfCell, reduceIte, Nat.reduceAdd, Nat.reduceEqDiff, Nat.reduceMul]; rfl) sz3 ag3 (by first | rfl | assumption)) ?_
  refine c_val hP hn (by decide) trivial (e_lss (by simp only [St.look, St.ev, lk, mkM, blkOf, svOf, svOfCell, reduceIte, Nat.reduceAdd, Nat.reduceEqDiff, Nat.reduceMul]; rfl) (by simp only [St.look, St.ev, lk, mkM, blkOf, svOf, svOfCell, reduceIte, Nat.reduceAdd, Nat.reduceEqDiff, Nat.reduceMul]; rfl)) ?_
  show AWp cx _ _ _
  refine awp_cond (by simp only [St.look, St.ev, lk, mkM, blkOf, svOf, svOfCell, reduceIte, Nat.reduceAdd, Nat.reduceEqDiff, Nat.reduceMul]; rfl) (fun hc0 => ?_) (fun hc0 => ?_)
  · try simp at hc0
    refine awp_skip ?_
    show AWp cx _ _ _
    refine awp_seq ?_
    refine awp_block ?_
    refine awp_seq ?_
    refine awp_drw hg hP mixed (by decide) ?_
    have hin : i < st.take.length := by omega
    have hx : st.take[i]? = some st.take[i] := List.getElem?_eq_getElem hin
    have him : i < m.length := by omega
    have hxm : m[i]? = some m[i] := List.getElem?_eq_getElem him
    refine d_val hP hn (by decide) trivial (e_move (by simp only [St.look, St.ev, lk, mkM, blkOf, svOf, svOfCell, reduceIte, Nat.reduceAdd, Nat.reduceEqDiff, Nat.reduceMul]; rfl)) (by simp only [opTags, deref, svTag, List.flatMap_cons, List.flatMap_nil, St.look, St.ev, lk, mkM, blkOf, svOf, svOfCell, reduceIte, Nat.reduceAdd, Nat.reduceEqDiff, Nat.reduceMul]; rfl) ?_
    refine d_val hP hn (by decide) trivial (e_move (by simp only [St.look, St.ev, lk, mkM, blkOf, svOf, svOfCell, reduceIte, Nat.reduceAdd, Nat.reduceEqDiff, Nat.reduceMul]; rfl)) (by simp only [opTags, deref, svTag, List.flatMap_cons, List.flatMap_nil, St.look, St.ev, lk, mkM, blkOf, svOf, svOfCell, reduceIte, Nat.reduceAdd, Nat.reduceEqDiff, Nat.reduceMul]; rfl) ?_
    refine d_val hP hn (by decide) trivial (by first | exact e_indexN (by simp only [St.look, St.ev, lk, mkM, blkOf, svOf, svOfCell, reduceIte, Nat.reduceAdd, Nat.reduceEqDiff, Nat.reduceMul]; rfl) (by simp only [St.look, St.ev, lk, mkM, blkOf, svOf, svOfCell, reduceIte, Nat.reduceAdd, Nat.reduceEqDiff, Nat.reduceMul]; rfl) (by assumption) el25 (by exact sz3) | exact e_index (by simp only [St.look, St.ev, lk, mkM, blkOf, svOf, svOfCell, reduceIte, Nat.reduceAdd, Nat.reduceEqDiff, Nat.reduceMul]; rfl) (by simp only [St.look, St.ev, lk, mkM, blkOf, svOf, svOfCell, reduceIte, Nat.reduceAdd, Nat.reduceEqDiff, Nat.reduceMul]; rfl) (by omega) (by assumption) el25 (by exact sz3) | exact e_indexR (by simp only [St.look, St.ev, lk, mkM, blkOf, svOf, svOfCell, reduceIte, Nat.reduceAdd, Nat.reduceEqDiff, Nat.reduceMul]; rfl) (by simp only [St.look, St.ev, lk, mkM, blkOf, svOf, svOfCell, reduceIte, Nat.reduceAdd, Nat.reduceEqDiff, Nat.reduceMul]; rfl) (by omega) (by omega) el25 (by exact sz3) (by simp only [Int.toNat_natCast, Nat.zero_add, Nat.mul_one]; rfl)) (by simp only [opTags, deref, svTag, List.flatMap_cons, List.flatMap_nil, St.look, St.ev, lk, mkM, blkOf, svOf, svOfCell, reduceIte, Nat.reduceAdd, Nat.reduceEqDiff, Nat.reduceMul]; rfl) ?_
    refine d_val hP hn (by decide) trivial (by first | exact e_load (by simp only [St.look, St.ev, lk, mkM, blkOf, svOf, svOfCell, reduceIte, Nat.reduceAdd, Nat.reduceEqDiff, Nat.reduceMul]; rfl) sz3 ag3 (by rfl) | exact e_loadp (by simp only [St.look, St.ev, lk, mkM, blkOf, svOf, svOfCell, reduceIte, Nat.reduceAdd, Nat.reduceEqDiff, Nat.reduceMul]; rfl) sz3 ag3 (by first | rfl | assumption)) (by simp only [opTags, deref, svTag, List.flatMap_cons, List.flatMap_nil, St.look, St.ev, lk, mkM, blkOf, svOf, svOfCell, reduceIte, Nat.reduceAdd, Nat.reduceEqDiff, Nat.reduceMul]; rfl) ?_
    refine d_val hP hn (by decide) trivial (by first | exact e_field (by simp only [St.look, St.ev, lk, mkM, blkOf, svOf, svOfCell, reduceIte, Nat.reduceAdd, Nat.reduceEqDiff, Nat.reduceMul]; rfl) fd24_1 (by simp only [DV.cells, List.drop]; rfl) | exact e_fieldp (by simp only [St.look, St.ev, lk, mkM, blkOf, svOf, svOfCell, reduceIte, Nat.reduceAdd, Nat.reduceEqDiff, Nat.reduceMul]; rfl) fd24_1 rfl) (by simp only [opTags, deref, svTag, List.flatMap_cons, List.flatMap_nil, St.look, St.ev, lk, mkM, blkOf, svOf, svOfCell, reduceIte, Nat.reduceAdd, Nat.reduceEqDiff, Nat.reduceMul]; rfl) ?_
    refine d_val hP hn (by decide) trivial (by first | exact e_load (by simp only [St.look, St.ev, lk, mkM, blkOf, svOf, svOfCell, reduceIte, Nat.reduceAdd, Nat.reduceEqDiff, Nat.reduceMul]; rfl) sz22 ag22 (by rfl) | exact e_loadp (by simp only [St.look, St.ev, lk, mkM, blkOf, svOf, svOfCell, reduceIte, Nat.reduceAdd, Nat.reduceEqDiff, Nat.reduceMul]; rfl) sz22 ag22 (by first | rfl | assumption)) (by simp only [opTags, deref, svTag, List.flatMap_cons, List.flatMap_nil, St.look, St.ev, lk, mkM, blkOf, svOf, svOfCell, reduceIte, Nat.reduceAdd, Nat.reduceEqDiff, Nat.reduceMul]; rfl) ?_
    refine d_val hP hn (by decide) trivial (e_move (by simp only [St.look, St.ev, lk, mkM, blkOf, svOf, svOfCell, reduceIte, Nat.reduceAdd, Nat.reduceEqDiff, Nat.reduceMul]; rfl)) (by simp only [opTags, deref, svTag, List.flatMap_cons, List.flatMap_nil, St.look, St.ev, lk, mkM, blkOf, svOf, svOfCell, reduceIte, Nat.reduceAdd, Nat.reduceEqDiff, Nat.reduceMul]; rfl) ?_
    refine d_val hP hn (by decide) trivial (by first | exact e_indexN (by simp only [St.look, St.ev, lk, mkM, blkOf, svOf, svOfCell, reduceIte, Nat.reduceAdd, Nat.reduceEqDiff, Nat.reduceMul]; rfl) (by simp only [St.look, St.ev, lk, mkM, blkOf, svOf, svOfCell, reduceIte, Nat.reduceAdd, Nat.reduceEqDiff, Nat.reduceMul]; rfl) (by assumption) el22 (by exact sz39) | exact e_index (by simp only [St.look, St.ev, lk, mkM, blkOf, svOf, svOfCell, reduceIte, Nat.reduceAdd, Nat.reduceEqDiff, Nat.reduceMul]; rfl) (by simp only [St.look, St.ev, lk, mkM, blkOf, svOf, svOfCell, reduceIte, Nat.reduceAdd, Nat.reduceEqDiff, Nat.reduceMul]; rfl) (by omega) (by assumption) el22 (by exact sz39) | exact e_indexR (by simp only [St.look, St.ev, lk, mkM, blkOf, svOf, svOfCell, reduceIte, Nat.reduceAdd, Nat.reduceEqDiff, Nat.reduceMul]; rfl) (by simp only [St.look, St.ev, lk, mkM, blkOf, svOf, svOfCell, reduceIte, Nat.reduceAdd, Nat.reduceEqDiff, Nat.reduceMul]; rfl) (by omega) (by omega) el22 (by exact sz39) (by simp only [Int.toNat_natCast, Nat.zero_add, Nat.mul_one]; rfl)) (by simp only [opTags, deref, svTag, List.flatMap_cons, List.flatMap_nil, St.look, St.ev, lk, mkM, blkOf, svOf, svOfCell, reduceIte, Nat.reduceAdd, Nat.reduceEqDiff, Nat.reduceMul]; rfl) ?_
    refine d_val hP hn (by decide) trivial (by first | exact e_field (by simp only [St.look, St.ev, lk, mkM, blkOf, svOf, svOfCell, reduceIte, Nat.reduceAdd, Nat.reduceEqDiff, Nat.reduceMul]; rfl) fd39_0 (by simp only [DV.cells, List.drop]; rfl) | exact e_fieldp (by simp only [St.look, St.ev, lk, mkM, blkOf, svOf, svOfCell, reduceIte, Nat.reduceAdd, Nat.reduceEqDiff, Nat.reduceMul]; rfl) fd39_0 rfl) (by simp only [opTags, deref, svTag, List.flatMap_cons, List.flatMap_nil, St.look, St.ev, lk, mkM, blkOf, svOf, svOfCell, reduceIte, Nat.reduceAdd, Nat.reduceEqDiff, Nat.reduceMul]; rfl) ?_
    refine d_val hP hn (by decide) trivial (by first | exact e_load (by simp only [St.look, St.ev, lk, mkM, blkOf, svOf, svOfCell, reduceIte, Nat.reduceAdd, Nat.reduceEqDiff, Nat.reduceMul]; rfl) sz25 ag25 (by rfl) | exact e_loadp (by simp only [St.look, St.ev, lk, mkM, blkOf, svOf, svOfCell, reduceIte, Nat.reduceAdd, Nat.reduceEqDiff, Nat.reduceMul]; rfl) sz25 ag25 (by first | rfl | assumption)) (by simp only [opTags, deref, svTag, List.flatMap_cons, List.flatMap_nil, St.look, St.ev, lk, mkM, blkOf, svOf, svOfCell, reduceIte, Nat.reduceAdd, Nat.reduceEqDiff, Nat.reduceMul]; rfl) ?_
    refine d_val hP hn (by decide) trivial (e_move (by simp only [St.look, St.ev, lk, mkM, blkOf, svOf, svOfCell, reduceIte, Nat.reduceAdd, Nat.reduceEqDiff, Nat.reduceMul]; rfl)) (by simp only [opTags, deref, svTag, List.flatMap_cons, List.flatMap_nil, St.look, St.ev, lk, mkM, blkOf, svOf, svOfCell, reduceIte, Nat.reduceAdd, Nat.reduceEqDiff, Nat.reduceMul]; rfl) ?_
    refine d_val hP hn (by decide) trivial (by first | exact e_indexN (by simp only [St.look, St.ev, lk, mkM, blkOf, svOf, svOfCell, reduceIte, Nat.reduceAdd, Nat.reduceEqDiff, Nat.reduceMul]; rfl) (by simp only [St.look, St.ev, lk, mkM, blkOf, svOf, svOfCell, reduceIte, Nat.reduceAdd, Nat.reduceEqDiff, Nat.reduceMul]; rfl) (by assumption) el25 (by exact sz3) | exact e_index (by simp only [St.look, St.ev, lk, mkM, blkOf, svOf, svOfCell, reduceIte, Nat.reduceAdd, Nat.reduceEqDiff, Nat.reduceMul]; rfl) (by simp only [St.look, St.ev, lk, mkM, blkOf, svOf, svOfCell, reduceIte, Nat.reduceAdd, Nat.reduceEqDiff, Nat.reduceMul]; rfl) (by omega) (by assumption) el25 (by exact sz3) | exact e_indexR (by simp only [St.look, St.ev, lk, mkM, blkOf, svOf, svOfCell, reduceIte, Nat.reduceAdd, Nat.reduceEqDiff, Nat.reduceMul]; rfl) (by simp only [St.look, St.ev, lk, mkM, blkOf, svOf, svOfCell, reduceIte, Nat.reduceAdd, Nat.reduceEqDiff, Nat.reduceMul]; rfl) (by omega) (by omega) el25 (by exact sz3) (by simp only [Int.toNat_natCast, Nat.zero_add, Nat.mul_one]; rfl)) (by simp only [opTags, deref, svTag, List.flatMap_cons, List.flatMap_nil, St.look, St.ev, lk, mkM, blkOf, svOf, svOfCell, reduceIte, Nat.reduceAdd, Nat.reduceEqDiff, Nat.reduceMul]; rfl) ?_
    refine d_val hP hn (by decide) trivial (by first | exact e_load (by simp only [St.look, St.ev, lk, mkM, blkOf, svOf, svOfCell, reduceIte, Nat.reduceAdd, Nat.reduceEqDiff, Nat.reduceMul]; rfl) sz3 ag3 (by rfl) | exact e_loadp (by simp only [St.look, St.ev, lk, mkM, blkOf, svOf, svOfCell, reduceIte, Nat.reduceAdd, Nat.reduceEqDiff, Nat.reduceMul]; rfl) sz3 ag3 (by first | rfl | assumption)) (by simp only [opTags, deref, svTag, List.flatMap_cons, List.flatMap_nil, St.look, St.ev, lk, mkM, blkOf, svOf, svOfCell, reduceIte, Nat.reduceAdd, Nat.reduceEqDiff, Nat.reduceMul]; rfl) ?_
    refine d_val hP hn (by decide) trivial (e_lss (by simp only [St.look, St.ev, lk, mkM, blkOf, svOf, svOfCell, reduceIte, Nat.reduceAdd, Nat.reduceEqDiff, Nat.reduceMul]; rfl) (by simp only [St.look, St.ev, lk, mkM, blkOf, svOf, svOfCell, reduceIte, Nat.reduceAdd, Nat.reduceEqDiff, Nat.reduceMul]; rfl)) (by simp only [opTags, deref, svTag, List.flatMap_cons, List.flatMap_nil, St.look, St.ev, lk, mkM, blkOf, svOf, svOfCell, reduceIte, Nat.reduceAdd, Nat.reduceEqDiff, Nat.reduceMul]; rfl) ?_
    refine ⟨by rfl, ?_⟩
    show AWp cx _ _ _
    refine awp_cond (by simp only [St.look, St.ev, lk, mkM, blkOf, svOf, svOfCell, reduceIte, Nat.reduceAdd, Nat.reduceEqDiff, Nat.reduceMul]; rfl) (fun hc1 => ?_) (fun hc1 => ?_)
    · try simp at hc1
      refine awp_seq ?_
      refine awp_reg hg ?_
      refine c_val hP hn (by decide) trivial (e_assign (by simp only [St.look, St.ev, lk, mkM, blkOf, svOf, svOfCell, reduceIte, Nat.reduceAdd, Nat.reduceEqDiff, Nat.reduceMul]; rfl)) ?_
      show AWp cx _ _ _
      refine awp_ret ?_
      rw [covers_no him hin (by simpa using hc1)]
      exact end_dv (.inr rfl) (by simp [lk]) (.bool _)
    · try simp at hc1
      refine awp_skip ?_
      show AWp cx _ _ _
      refine awp_reg hg ?_
      refine c_val hP hn (by decide) trivial (e_move (by simp only [St.look, St.ev, lk, mkM, blkOf, svOf, svOfCell, reduceIte, Nat.reduceAdd, Nat.reduceEqDiff, Nat.reduceMul]; rfl)) ?_
      refine c_val hP hn (by decide) trivial (e_add (by simp only [St.look, St.ev, lk, mkM, blkOf, svOf, svOfCell, reduceIte, Nat.reduceAdd, Nat.reduceEqDiff, Nat.reduceMul]; rfl) (by simp only [St.look, St.ev, lk, mkM, blkOf, svOf, svOfCell, reduceIte, Nat.reduceAdd, Nat.reduceEqDiff, Nat.reduceMul]; rfl) (by omega) (by omega)) ?_
      refine c_val hP hn (by decide) trivial (e_assign (by simp only [St.look, St.ev, lk, mkM, blkOf, svOf, svOfCell, reduceIte, Nat.reduceAdd, Nat.reduceEqDiff, Nat.reduceMul]; rfl)) ?_
      refine ⟨i + 1, ⟨hin, fun j hj h => ?_⟩, by simp only; omega, Le.tell hg [(3, 3)] (by simp [FLe, svLe, lk, mkM, isLive, tauL]) (by simp [MLe, blkLe, svLe, svLes, lk, mkM, isLive, tauL, svLes_ints, svLes_self, isDvs, isDvs_map, isDvs_app, isDvs_take, isDvs_set, isDvs_repl]) (by decide)⟩
      rcases Nat.lt_or_ge j i with h1 | h1
      · exact hφ0.2 j h1 h
      · obtain rfl : j = i := by omega
        simp_all
  · try simp at hc0
    refine awp_exit ?_
    show AWp cx _ _ _
    refine awp_seq ?_
    refine awp_reg hg ?_
    refine c_val hP hn (by decide) trivial (e_assign (by simp only [St.look, St.ev, lk, mkM, blkOf, svOf, svOfCell, reduceIte, Nat.reduceAdd, Nat.reduceEqDiff, Nat.reduceMul]; rfl)) ?_
    show AWp cx _ _ _
    refine awp_ret ?_
    rw [covers_yes fun j h1 h2 => hφ0.2 j (by omega) h2]
    exact end_dv (.inr rfl) (by simp [lk]) (.bool _)
end Go.Ab.Tryd
