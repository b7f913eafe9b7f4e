/- The functions of the dry laws, part 29. The walks are written by wip/gen/gw.py. -/
import Derived.Test.YtjlfgobbieljoaaDry27
import Derived.Test.YtjlfgobbieljoaaDryL4
import Derived.Test.YtjlfgobbieljoaaDryT
set_option linter.all false
namespace Go.Ab.Try
open Go Go.Ab Go.Proofs
structure Shr (y : Yd) : Prop where
  n : y.steps.length ≤ 100
  r : ∀ s ∈ y.steps, s.take.length ≤ 100 ∧ s.give.length ≤ 100
theorem Shr.of {y : Yd} (h : Long y = false) : Shr y := by
  simp only [Long, Bool.or_eq_false_iff, decide_eq_false_iff_not, List.any_eq_false, Bool.or_eq_true, decide_eq_true_eq, not_or] at h
  exact ⟨by omega, fun s hs => by have := h.2 s hs; omega⟩
theorem Shr.valid {y : Yd} (h : VYd y) : Shr y := ⟨by have := (validate_ok h).2.2.1; omega, fun s hs => by have := turn_len6 h s hs; omega⟩
set_option maxHeartbeats 4000000 in
theorem f41 (y : Yd) (sh : Shr y) : ACallsF Try.prog 41 [dYd y, dYd y] (.one (.dv (.bool true))) := by
  have hn100 := sh.n
  refine callsF_of Try.func41 rfl rfl (by rw [Try.ntmps41]; simp) fun cx hP hn hg => ?_
  rw [Try.ntmps41] at hn
  rw [startF_lk, none_mkM]
  simp only [List.nil_append, List.append_nil, List.cons_append, zipSV, Nat.reduceAdd]
  refine awp_seq ?_
  refine rg ?_
  refine qp m_box ?_
  refine qp m_box ?_
  refine qv m_as ?_
  show AWp cx _ _ _
  refine awp_seq ?_
  refine awp_seq ?_
  refine rg ?_
  refine qv (m_fdp fd24_0) ?_
  refine qv (m_ldp sz3 ag3) ?_
  refine qv (m_fdp fd24_0) ?_
  refine qv (m_ldp sz3 ag3) ?_
  refine qv m_neq ?_
  refine qx m_mv (fun hg11 => ?_) (fun hg11 => ?_)
  · exact absurd hg11 (by simp)
  refine qv (m_fdp fd24_1) ?_
  refine qv (m_ldp sz22 ag22) ?_
  refine qv (m_len il22) ?_
  refine qv (m_fdp fd24_1) ?_
  refine qv (m_ldp sz22 ag22) ?_
  refine qv (m_len il22) ?_
  refine qv m_neq ?_
  refine qv m_pk ?_
  show AWp cx _ _ _
  refine cdF (hb := by simp) (ht := ?_)
  refine awp_skip ?_
  show AWp cx _ _ _
  refine awp_seq ?_
  refine awp_seq ?_
  refine rg ?_
  refine qv m_as ?_
  show AWp cx _ _ _
  refine awp_block ?_
  refine awp_loop (ι := Nat) (fun i => ⟨lk [(2, .pt 2 0 0), (3, .pt 3 0 0), (5, .dv (i64 (i : Nat)))], mkM [(2, 0, some ⟨[.dv (i64 (y.places)), .dv (.list ((y.steps).map dStp))], 0, 24, 0, false⟩), (3, 0, some ⟨[.dv (i64 (y.places)), .dv (.list ((y.steps).map dStp))], 0, 24, 0, false⟩)]⟩) (fun i => i ≤ y.steps.length) (fun i => y.steps.length - i) 0 (by simp) (tl [(2, 2), (3, 3)]) ?_
  intro i hφ0
  refine awp_seq ?_
  refine awp_seq ?_
  refine rg ?_
  refine qv m_mv ?_
  refine qv (m_fdp fd24_1) ?_
  refine qv (m_ldp sz22 ag22) ?_
  refine qv (m_len il22) ?_
  refine qv m_lss ?_
  show AWp cx _ _ _
  refine cd (fun hc1 => ?_) (fun hc1 => ?_)
  · try simp at hc1
    refine awp_skip ?_
    show AWp cx _ _ _
    refine awp_seq ?_
    refine awp_block ?_
    refine awp_seq ?_
    have hin : i < y.steps.length := by omega
    obtain ⟨s, hgs⟩ : ∃ s, y.steps[i]? = some s := ⟨_, List.getElem?_eq_getElem hin⟩
    have hsm : s ∈ y.steps := List.mem_of_getElem? hgs
    obtain ⟨hst, hsg⟩ := sh.r s hsm
    refine rd mixed ?_
    refine zv (m_fdp fd24_1) ?_
    refine zv (m_ldp sz22 ag22) ?_
    refine zv m_mv ?_
    first | refine zv (m_ixN el22 sz55) ?_ | refine zv (m_ix el22 sz55) ?_
    refine zv (m_fd fd55_0) ?_
    refine zv (m_ld sz25 ag25) ?_
    refine zv (m_fdp fd24_1) ?_
    refine zv (m_ldp sz22 ag22) ?_
    refine zv m_mv ?_
    first | refine zv (m_ixN el22 sz55) ?_ | refine zv (m_ix el22 sz55) ?_
    refine zv (m_fd fd55_0) ?_
    refine zv (m_ld sz25 ag25) ?_
    refine zqF (R := []) (f78 s.take s.take (by omega)) ?_
    refine zv m_not ?_
    refine zx m_mv (fun hg41 => ?_) (fun hg41 => ?_)
    · exact absurd hg41 (by simp)
    refine zv (m_fdp fd24_1) ?_
    refine zv (m_ldp sz22 ag22) ?_
    refine zv m_mv ?_
    first | refine zv (m_ixN el22 sz55) ?_ | refine zv (m_ix el22 sz55) ?_
    refine zv (m_fd fd55_1) ?_
    refine zv (m_ld sz25 ag25) ?_
    refine zv (m_fdp fd24_1) ?_
    refine zv (m_ldp sz22 ag22) ?_
    refine zv m_mv ?_
    first | refine zv (m_ixN el22 sz55) ?_ | refine zv (m_ix el22 sz55) ?_
    refine zv (m_fd fd55_1) ?_
    refine zv (m_ld sz25 ag25) ?_
    refine zqF (R := []) (f78 s.give s.give (by omega)) ?_
    refine zv m_not ?_
    refine zv m_pk ?_
    refine ⟨by rfl, ?_⟩
    show AWp cx _ _ _
    refine cdF (hb := by simp) (ht := ?_)
    refine awp_skip ?_
    show AWp cx _ _ _
    refine rg ?_
    refine qv m_mv ?_
    refine qv m_add ?_
    refine qv m_as ?_
    exact ⟨i + 1, hin, (by simp only; omega), (tl [(2, 2), (3, 3)])⟩
  · try simp at hc1
    refine awp_exit ?_
    show AWp cx _ _ _
    refine awp_seq ?_
    refine rg ?_
    refine qv m_as ?_
    show AWp cx _ _ _
    refine awp_ret ?_
    exact x1 (hr := (rB_))
set_option maxHeartbeats 4000000 in
theorem f38 (y : Yd) (sh : Shr y) : ACalls Try.prog 38 [dYd y] (.one (.dv (dYd y))) := by
  have hn100 := sh.n
  refine callsA_of Try.func38 rfl rfl (by rw [Try.ntmps38]; simp) fun cx hP hn hg => ?_
  rw [Try.ntmps38] at hn
  rw [startF_lk, none_mkM]
  simp only [List.nil_append, List.append_nil, List.cons_append, zipSV, Nat.reduceAdd]
  refine awp_seq ?_
  refine rg ?_
  refine qp m_box ?_
  refine qp (m_al ze24) ?_
  show AWp cx _ _ _
  refine awp_seq ?_
  refine rg ?_
  refine qv (m_fdp fd24_0) ?_
  refine qv (m_ldp sz3 ag3) ?_
  refine qv (m_bld pl24 ze24) ?_
  refine qp (m_al ze24) ?_
  refine qs (m_st sz24) ?_
  show AWp cx _ _ _
  refine awp_seq ?_
  refine awp_seq ?_
  refine rg ?_
  refine qv m_as ?_
  show AWp cx _ _ _
  refine awp_block ?_
  refine awp_loop (ι := Nat) (fun i => ⟨lk [(1, .pt 1 0 0), (2, .pt 2 0 0), (3, .pt 3 0 0), (4, .dv (i64 (i : Nat)))], mkM [(1, 0, some ⟨[.dv (i64 (y.places)), .dv (.list ((y.steps).map dStp))], 0, 24, 0, false⟩), (2, 0, some ⟨[.dv (i64 0), .nils], 0, 24, 0, false⟩), (3, 0, some ⟨[.dv (i64 y.places), .sl 35 0 0 i], 0, 24, 0, false⟩), (35, 0, some (rowP (y.steps.take i)))]⟩) (fun i => i ≤ y.steps.length) (fun i => y.steps.length - i) 0 (by simp) (tl [(1, 1), (2, 2), (3, 3)] (hF := by simp [FLe, svLe, lk, mkM, isLive, tauL, rowP_nil, rowP_esz, rowP_elem, rowP_st, rowP_row]) (hM := by simp [MLe, blkLe, svLe, svLes, lk, mkM, isLive, tauL, svLes_ints, svLes_self, isDvs, isDvs_map, isDvs_app, isDvs_take, isDvs_set, isDvs_repl, rowP_nil, rowP_esz, rowP_elem, rowP_st, rowP_row])) ?_
  intro i hφ0
  refine awp_seq ?_
  refine awp_seq ?_
  refine rg ?_
  refine qv m_mv ?_
  refine qv (m_fdp fd24_1) ?_
  refine qv (m_ldp sz22 ag22) ?_
  refine qv (m_len il22) ?_
  refine qv m_lss ?_
  show AWp cx _ _ _
  refine cd (fun hc0 => ?_) (fun hc0 => ?_)
  · try simp at hc0
    refine awp_skip ?_
    show AWp cx _ _ _
    refine awp_seq ?_
    refine awp_block ?_
    refine rd mixed ?_
    have hin : i < y.steps.length := by omega
    obtain ⟨s, hgs⟩ : ∃ s, y.steps[i]? = some s := ⟨_, List.getElem?_eq_getElem hin⟩
    have hsm : s ∈ y.steps := List.mem_of_getElem? hgs
    obtain ⟨hst, hsg⟩ := sh.r s hsm
    have htt := take_snoc hgs
    have hpl : (rowP (y.steps.take i)).cells.length = i * 2 := by rw [rowP_len, List.length_take]; omega
    refine zv (m_fdp fd24_1) ?_
    refine zv (m_ldp sz22 ag22) ?_
    refine zr (m_bsl el25 ze3 sz3) ?_
    refine zv (m_fdp fd24_1) ?_
    refine zv (m_ldp sz22 ag22) ?_
    refine zv m_mv ?_
    first | refine zv (m_ixN el22 sz55) ?_ | refine zv (m_ix el22 sz55) ?_
    refine zv (m_fd fd55_0) ?_
    refine zv (m_ld sz25 ag25) ?_
    refine za1 (m_app1 el25 el25 ze3 sz3 by3) ?_
    refine zr (m_bsl el25 ze3 sz3) ?_
    refine zv (m_fdp fd24_1) ?_
    refine zv (m_ldp sz22 ag22) ?_
    refine zv m_mv ?_
    first | refine zv (m_ixN el22 sz55) ?_ | refine zv (m_ix el22 sz55) ?_
    refine zv (m_fd fd55_1) ?_
    refine zv (m_ld sz25 ag25) ?_
    refine za1 (m_app1 el25 el25 ze3 sz3 by3) ?_
    refine zv (m_bld pl55 ze55) ?_
    refine zr (m_bsl el22 ze55 sz55) ?_
    first | refine za0 (m_app0 el22 el22 ze55 sz55 by55 (hln := hpl)) ?_ | refine za1 (m_app1 el22 el22 ze55 sz55 by55 (hln := hpl)) ?_
    refine zv (m_fdp fd24_1) ?_
    refine zs (m_st sz22) ?_
    refine ⟨by rfl, ?_⟩
    show AWp cx _ _ _
    refine awp_frz 24 ?_
    refine awp_frz 32 ?_
    refine awp_sinkB 35 (cs := (rowP (y.steps.take i ++ [s])).cells) (by simp only [mkM, reduceIte, Nat.reduceEqDiff] <;> rfl) ?_ hg ?_
    · rw [rowP_snoc]
      exact sinkC_app (sinkC_refl _) ⟨.inr ⟨_, rfl, data_ints (L := s.take) (by simp only [mkM, reduceIte, Nat.reduceEqDiff] <;> rfl) rfl rfl rfl rfl (fun _ => trivial)⟩, .inr ⟨_, rfl, data_ints (L := s.give) (by simp only [mkM, reduceIte, Nat.reduceEqDiff] <;> rfl) rfl rfl rfl rfl (fun _ => trivial)⟩, trivial⟩
    refine rg ?_
    refine qv m_mv ?_
    refine qv m_add ?_
    refine qv m_as ?_
    exact ⟨i + 1, hin, (by simp only; omega), (tl [(1, 1), (2, 2), (3, 3), (35, 35)] (hF := by simp [FLe, svLe, lk, mkM, isLive, tauL, htt, rowP_esz, rowP_elem, rowP_st, rowP_row, rowP_dvs]) (hM := by simp [MLe, blkLe, svLe, svLes, lk, mkM, isLive, tauL, svLes_ints, svLes_self, isDvs, isDvs_map, isDvs_app, isDvs_take, isDvs_set, isDvs_repl, htt, rowP_esz, rowP_elem, rowP_st, rowP_row, rowP_dvs]))⟩
  · try simp at hc0
    refine awp_exit ?_
    show AWp cx _ _ _
    refine awp_seq ?_
    refine rg ?_
    refine qv (m_ldpa sz24 ag24) ?_
    refine qs (m_st sz24) ?_
    show AWp cx _ _ _
    refine awp_ret ?_
    have hse : y.steps.take i = y.steps := List.take_of_length_le (by omega)
    refine end_cell (.inr rfl) (s1 := .agg [.dv (i64 y.places), .sl 35 0 0 i]) (by simp only [loadSV, sz24, ag24, St.look, St.ev, lk, mkM, blkOf, svOf, svOfCell, reduceIte, Nat.reduceAdd, Nat.reduceEqDiff, Nat.reduceMul]; rfl) (data_agg (args_cons (.dv _ trivial) (args_cons (data_rowP (L := y.steps) (by simp only [mkM, reduceIte, Nat.reduceEqDiff, hse] <;> rfl) trivial (by omega) (fun _ => trivial)) args_nil)))
theorem f40 (y : Yd) : ACalls Try.prog 40 [dYd y] (.many [.dv (dYd (turnR y).1), .dv (i64 (turnR y).2)]) := by
  refine callsA_of Try.func40 rfl rfl (by rw [Try.ntmps40]; simp) fun cx hP hn hg => ?_
  rw [Try.ntmps40] at hn
  rw [startF_lk, none_mkM]
  simp only [List.nil_append, List.append_nil, List.cons_append, zipSV, Nat.reduceAdd]
  refine awp_seq ?_
  refine rg ?_
  refine qp m_box ?_
  refine qp (m_al ze24) ?_
  refine qv m_as ?_
  show AWp cx _ _ _
  refine awp_seq ?_
  refine awp_seq ?_
  refine rg ?_
  refine qv (m_ldpa sz24 ag24) ?_
  refine qqF (f29 y) ?_
  refine qv m_as ?_
  show AWp cx _ _ _
  refine awp_seq ?_
  refine rg ?_
  refine qv m_mv ?_
  refine qv m_neq ?_
  show AWp cx _ _ _
  refine cd (fun hc0 => ?_) (fun hc0 => ?_)
  · skip
    have h0 : validate y ≠ 0 := by simpa using hc0
    refine awp_seq ?_
    refine rg ?_
    refine qv (m_bld pl24 ze24) ?_
    refine qv m_mv ?_
    refine qs (m_st sz24) ?_
    refine qv m_as ?_
    show AWp cx _ _ _
    refine awp_ret ?_
    rw [turn_bad h0]
    exact x2d (rv := [.cell 2 24, .tmp 3]) (s0 := .agg [.dv (i64 0), .nils]) (s1 := .dv (i64 (validate y))) (.inr rfl) (by simp only [resSV, loadSV, St.look, St.ev, lk, mkM, blkOf, svOf, svOfCell, reduceIte, Nat.reduceAdd, Nat.reduceEqDiff, Nat.reduceMul, sz24, ag24]; rfl) (.agg _ _ rfl fun j s c hs hd => by match j, hs, hd with | 0, hs, hd => cases hs; cases hd; exact retOk_dv (.dv _ trivial) | 1, hs, hd => cases hs; cases hd; exact .nils) (retOk_dv (.dv _ trivial))
  · skip
    have h0 : validate y = 0 := by simpa using hc0
    obtain ⟨v1, v2, v3, v4⟩ := validate_ok h0
    have hs := turn_len6 h0
    refine awp_skip ?_
    show AWp cx _ _ _
    refine awp_seq ?_
    refine rg ?_
    refine qv (m_ldpa sz24 ag24) ?_
    refine qqA (f77 y (by omega) hs) ?_
    refine qs (m_st sz24) ?_
    refine qv m_as ?_
    show AWp cx _ _ _
    refine awp_ret ?_
    rw [turn_ok h0]
    exact x2d (rv := [.cell 2 24, .tmp 3]) (s0 := .dv (dYd (turnY y))) (s1 := .dv (i64 0)) (.inr rfl) (by simp only [resSV, loadSV, St.look, St.ev, lk, mkM, blkOf, svOf, svOfCell, reduceIte, Nat.reduceAdd, Nat.reduceEqDiff, Nat.reduceMul, sz24, ag24]; rfl) (retOk_dv (.dv _ trivial)) (retOk_dv (.dv _ trivial))
end Go.Ab.Try
