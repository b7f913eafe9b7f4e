/- The functions of the dry laws, part 31. The walks are written by wip/gen/gw.py. -/
import Derived.Test.YtjlfgobbieljoaaDry30
import Derived.Test.YtjlfgobbieljoaaDryX0
import Derived.Test.YtjlfgobbieljoaaDryX1
import Derived.Test.YtjlfgobbieljoaaDryX2
import Derived.Test.YtjlfgobbieljoaaDryX3
import Derived.Test.YtjlfgobbieljoaaDryX4
import Derived.Test.YtjlfgobbieljoaaDryX5
import Derived.Test.YtjlfgobbieljoaaDryX6
import Derived.Test.YtjlfgobbieljoaaDryT
set_option linter.all false
namespace Go.Ab.Try
open Go Go.Ab Go.Proofs
theorem f39b (y : Yd) (h : validate y ≠ 0) : ACalls Try.prog 39 [dYd y] (.many [.dv (dYd ⟨0, []⟩), .dv (i64 (validate y))]) := by
  have e := f39 y
  rw [turn_bad h] at e
  exact e
theorem f40b (y : Yd) (h : validate y ≠ 0) : ACalls Try.prog 40 [dYd y] (.many [.dv (dYd ⟨0, []⟩), .dv (i64 (validate y))]) := by
  have e := f40 y
  rw [turn_bad h] at e
  exact e
theorem shr_nil : Shr ⟨0, []⟩ := ⟨by simp, by simp⟩
theorem run_none {y : Yd} {m l : List Int} (h : validate y ≠ 0) : (runR y m l).2.2 ≠ 0 := fun e => h (runR_ok e).1
set_option maxHeartbeats 8000000 in
theorem f10_bad (y : Yd) (hb : validate y ≠ 0) (x : Pr) (l : List Int) : ACallsF Try.prog 10 [dYd y, dPr x, ints l] (.one (.dv (.bool true))) := by
  have hrn := run_none (m := x.m) (l := l) hb
  refine callsF_of Try.func10 rfl rfl (by rw [Try.ntmps10]; simp) fun cx hP hn hg => ?_
  rw [Try.ntmps10] at hn
  rw [startF_lk, none_mkM]
  simp only [List.nil_append, List.append_nil, List.cons_append, zipSV, Nat.reduceAdd]
  refine awp_seq ?_
  refine rg ?_
  refine qp m_box ?_
  refine qp m_box ?_
  refine qv m_as ?_
  show AWp cx _ _ _
  refine awp_seq ?_
  refine awp_seq ?_
  refine rg ?_
  refine qv (m_ldpa sz24 ag24) ?_
  refine qqF (f16 y) ?_
  refine qx m_mv (fun hg29 => ?_) (fun hg29 => ?_)
  · skip
    refine qk ?_
    refine qk ?_
    refine qk ?_
    refine qv m_pk ?_
    refine qv m_mv ?_
    refine qk ?_
    refine qk ?_
    refine qk ?_
    refine qv m_pk ?_
    refine qv m_mv ?_
    refine qk ?_
    refine qk ?_
    refine qv m_pk ?_
    show AWp cx _ _ _
    refine cdT (hb := by first | rfl | simp | simp_all) (ht := ?_)
    refine awp_seq ?_
    refine rg ?_
    refine qqF (f18) ?_
    refine qv m_as ?_
    show AWp cx _ _ _
    refine awp_ret ?_
    exact x1 (hr := (rB_))
  · skip
    refine qv (m_fdp fd43_0) ?_
    refine qv (m_ldp sz25 ag25) ?_
    refine qqF (f17 x.m) ?_
    refine qv m_pk ?_
    refine qx m_mv (fun hg34 => ?_) (fun hg34 => ?_)
    · try simp at hg34
      refine qk ?_
      refine qk ?_
      refine qk ?_
      refine qv m_pk ?_
      refine qv m_mv ?_
      refine qk ?_
      refine qk ?_
      refine qv m_pk ?_
      show AWp cx _ _ _
      refine cdT (hb := by first | rfl | simp | simp_all) (ht := ?_)
      refine awp_seq ?_
      refine rg ?_
      refine qqF (f18) ?_
      refine qv m_as ?_
      show AWp cx _ _ _
      refine awp_ret ?_
      exact x1 (hr := (rB_))
    · try simp at hg34
      refine qv (m_fdp fd43_1) ?_
      refine qv (m_ldp sz25 ag25) ?_
      refine qqF (f17 x.goal) ?_
      refine qv m_pk ?_
      refine qx m_mv (fun hg39 => ?_) (fun hg39 => ?_)
      · try simp at hg39
        refine qk ?_
        refine qk ?_
        refine qv m_pk ?_
        show AWp cx _ _ _
        refine cdT (hb := by first | rfl | simp | simp_all) (ht := ?_)
        refine awp_seq ?_
        refine rg ?_
        refine qqF (f18) ?_
        refine qv m_as ?_
        show AWp cx _ _ _
        refine awp_ret ?_
        exact x1 (hr := (rB_))
      · try simp at hg39
        refine qv m_mv ?_
        refine qqF (f17 l) ?_
        refine qv m_pk ?_
        show AWp cx _ _ _
        refine cd (fun hc0 => ?_) (fun hc0 => ?_)
        · skip
          refine awp_seq ?_
          refine rg ?_
          refine qqF (f18) ?_
          refine qv m_as ?_
          show AWp cx _ _ _
          refine awp_ret ?_
          exact x1 (hr := (rB_))
        · skip
          have sh := Shr.of (y := y) (by simpa using hg29)
          refine awp_skip ?_
          show AWp cx _ _ _
          refine awp_seq ?_
          refine rg ?_
          refine qv (m_ldpa sz24 ag24) ?_
          refine qqA (f38 y sh) ?_
          refine qp (m_al ze24) ?_
          refine qs (m_st sz24) ?_
          show AWp cx _ _ _
          refine awp_seq ?_
          refine rg ?_
          refine qv (m_ldpa sz24 ag24) ?_
          refine qqA (f39b y hb) ?_
          refine qv m_mv ?_
          refine qv m_ext ?_
          refine qv m_ext ?_
          refine qp (m_al ze24) ?_
          refine qs (m_st sz24) ?_
          refine qv m_as ?_
          show AWp cx _ _ _
          refine awp_seq ?_
          refine rg ?_
          refine qv (m_ldpa sz24 ag24) ?_
          refine qqA (f40b y hb) ?_
          refine qv m_mv ?_
          refine qv m_ext ?_
          refine qv m_ext ?_
          refine qp (m_al ze24) ?_
          refine qs (m_st sz24) ?_
          refine qv m_as ?_
          show AWp cx _ _ _
          refine awp_seq ?_
          refine awp_seq ?_
          refine rg ?_
          refine qv (m_ldpa sz24 ag24) ?_
          refine qv (m_ldpa sz24 ag24) ?_
          refine qqF (f41 (⟨0, []⟩ : Yd) shr_nil) ?_
          refine qv m_not ?_
          refine qx m_mv (fun hg60 => ?_) (fun hg60 => ?_)
          · exact absurd hg60 (by simp [])
          refine qv m_mv ?_
          refine qv m_mv ?_
          refine qv m_neq ?_
          refine qv m_pk ?_
          show AWp cx _ _ _
          refine cdF (hb := by simp) (ht := ?_)
          refine awp_skip ?_
          show AWp cx _ _ _
          refine awp_seq ?_
          refine rg ?_
          refine qv (m_ldpa sz24 ag24) ?_
          refine qv (m_fdp fd43_1) ?_
          refine qv (m_ldp sz25 ag25) ?_
          refine qqF (f42 y x.goal) ?_
          refine qv m_mv ?_
          refine qv m_ext ?_
          refine qv m_ext ?_
          refine qv m_as ?_
          refine qv m_as ?_
          show AWp cx _ _ _
          refine awp_seq ?_
          refine rg ?_
          refine qv (m_ldpa sz24 ag24) ?_
          refine qv (m_fdp fd43_1) ?_
          refine qv (m_ldp sz25 ag25) ?_
          refine qqF (f43 (⟨0, []⟩ : Yd) x.goal) ?_
          refine qv m_mv ?_
          refine qv m_ext ?_
          refine qv m_ext ?_
          refine qv m_as ?_
          refine qv m_as ?_
          show AWp cx _ _ _
          refine awp_seq ?_
          refine rg ?_
          refine qv m_mv ?_
          refine qv m_neq ?_
          refine qx m_mv (fun hg81 => ?_) (fun hg81 => ?_)
          rotate_left
          · exact absurd hg81 (by simp [hb])
          refine qk ?_
          refine qk ?_
          refine qk ?_
          refine qk ?_
          refine qk ?_
          refine qk ?_
          refine qk ?_
          refine qk ?_
          refine qv m_pk ?_
          refine qv m_as ?_
          show AWp cx _ _ _
          refine awp_seq ?_
          refine rg ?_
          refine qv (m_ldpa sz24 ag24) ?_
          refine qv (m_fdp fd43_0) ?_
          refine qv (m_ldp sz25 ag25) ?_
          refine qv m_mv ?_
          refine qqF (f19 y x.m l) ?_
          refine qv m_mv ?_
          refine qv m_ext ?_
          refine qv m_ext ?_
          refine qv m_ext ?_
          refine qv m_as ?_
          refine qv m_as ?_
          refine qv m_as ?_
          show AWp cx _ _ _
          refine awp_seq ?_
          refine awp_seq ?_
          refine rg ?_
          refine qv m_mv ?_
          refine qv m_eql ?_
          show AWp cx _ _ _
          refine cdF (hb := by simp [hrn]) (ht := ?_)
          refine awp_skip ?_
          show AWp cx _ _ _
          refine awp_seq ?_
          refine awp_seq ?_
          refine rg ?_
          refine qv m_as ?_
          show AWp cx _ _ _
          refine awp_block ?_
          refine awp_loop (ι := Nat) (fun i => ⟨lk [(3, .pt 3 0 0), (7, .pt 7 0 0), (8, .pt 8 0 0), (16, .dv (.bool true)), (25, .dv (i64 0))], mkM [(3, 0, some ⟨[.dv (i64 (y.places)), .dv (.list ((y.steps).map dStp))], 0, 24, 0, false⟩), (7, 0, some ⟨[.dv (i64 (y.places)), .dv (.list ((y.steps).map dStp))], 0, 24, 0, false⟩), (8, 0, some ⟨[.dv (i64 (((⟨0, []⟩ : Yd)).places)), .dv (.list ((((⟨0, []⟩ : Yd)).steps).map dStp))], 0, 24, 0, false⟩)]⟩) (fun i => True) (fun i => 0) 0 (by simp) (tl [(3, 3), (7, 7), (8, 8)] (hF := by simp [FLe, svLe, lk, mkM, isLive, tauL, hb]) (hM := by simp [MLe, blkLe, svLe, svLes, lk, mkM, isLive, tauL, svLes_ints, svLes_self, isDvs, isDvs_map, isDvs_app, isDvs_take, isDvs_set, isDvs_repl, hb])) ?_
          intro i hφ1
          refine awp_seq ?_
          refine awp_seq ?_
          refine rg ?_
          refine qv m_mv ?_
          refine qv (m_fdp fd24_1) ?_
          refine qv (m_ldp sz22 ag22) ?_
          refine qv (m_len (L := ([] : List Stp)) (F := dStp) il22) ?_
          refine qv m_lss ?_
          show AWp cx _ _ _
          refine cdF (hb := by simp) (ht := ?_)
          refine awp_exit ?_
          show AWp cx _ _ _
          refine awp_seq ?_
          refine rg ?_
          refine qv m_mv ?_
          refine qx m_mv (fun hg162 => ?_) (fun hg162 => ?_)
          rotate_left
          · exact absurd hg162 (by simp [])
          refine qv (m_ldpa sz24 ag24) ?_
          refine qv (m_ldpa sz24 ag24) ?_
          refine qqF (f41 y sh) ?_
          refine qv m_pk ?_
          refine qx m_mv (fun hg167 => ?_) (fun hg167 => ?_)
          rotate_left
          · exact absurd hg167 (by simp [])
          refine qqF (f18) ?_
          refine qv m_pk ?_
          refine qv m_as ?_
          show AWp cx _ _ _
          refine awp_ret ?_
          exact x1 (hr := (rB_))
theorem f10 (y : Yd) (x : Pr) (l : List Int) : ACallsF Try.prog 10 [dYd y, dPr x, ints l] (.one (.dv (.bool true))) := by
  by_cases h : validate y = 0
  · have hl := (validate_ok h).2.2.1
    cases y with
    | mk pl st =>
      match st, h, hl with
      | [], h, _ => exact f10_0 pl h x l
      | [a], h, _ => exact f10_1 pl a h x l
      | [a, b], h, _ => exact f10_2 pl a b h x l
      | [a, b, c], h, _ => exact f10_3 pl a b c h x l
      | [a, b, c, d], h, _ => exact f10_4 pl a b c d h x l
      | [a, b, c, d, e], h, _ => exact f10_5 pl a b c d e h x l
      | [a, b, c, d, e, f], h, _ => exact f10_6 pl a b c d e f h x l
      | a :: b :: c :: d :: e :: f :: g :: r, _, hl => exact absurd hl (by simp)
  · exact f10_bad y h x l
end Go.Ab.Try
