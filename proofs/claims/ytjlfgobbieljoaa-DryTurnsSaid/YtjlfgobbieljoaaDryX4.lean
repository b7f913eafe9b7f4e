/- The functions of the dry laws, part X4. The walks are written by wip/gen/gw.py. -/
import Derived.Test.YtjlfgobbieljoaaDry30
import Derived.Test.YtjlfgobbieljoaaAb46
import Derived.Test.YtjlfgobbieljoaaDryT
set_option linter.all false
namespace Go.Ab.Try
open Go Go.Ab Go.Proofs
set_option maxHeartbeats 4000000 in
theorem f39_4 (pl : Int) (s0 s1 s2 s3 : Stp) (hv : VYd (⟨pl, [s0, s1, s2, s3]⟩ : Yd)) : ACallsG Try.prog 39 [.dv (dYd (⟨pl, [s0, s1, s2, s3]⟩ : Yd))] (mkB []) ⟨[.agg [.dv (i64 pl), .sl 100000 0 0 4], .dv (i64 0)], mkB [(100000, ⟨[.sl 100001 0 0 s0.give.length, .sl 100002 0 0 s0.take.length, .sl 100003 0 0 s1.give.length, .sl 100004 0 0 s1.take.length, .sl 100005 0 0 s2.give.length, .sl 100006 0 0 s2.take.length, .sl 100007 0 0 s3.give.length, .sl 100008 0 0 s3.take.length], 2, 55, 0, true⟩), (100001, rowI s0.give), (100002, rowI s0.take), (100003, rowI s1.give), (100004, rowI s1.take), (100005, rowI s2.give), (100006, rowI s2.take), (100007, rowI s3.give), (100008, rowI s3.take)]⟩ := by
  have hv0 : validate (⟨pl, [s0, s1, s2, s3]⟩ : Yd) = 0 := hv
  have h6 := turn_len6 hv
  have hg0 : ([s0, s1, s2, s3] : List Stp)[0]? = some s0 := rfl
  obtain ⟨ht0, hh0⟩ := h6 s0 (by simp)
  have hg1 : ([s0, s1, s2, s3] : List Stp)[1]? = some s1 := rfl
  obtain ⟨ht1, hh1⟩ := h6 s1 (by simp)
  have hg2 : ([s0, s1, s2, s3] : List Stp)[2]? = some s2 := rfl
  obtain ⟨ht2, hh2⟩ := h6 s2 (by simp)
  have hg3 : ([s0, s1, s2, s3] : List Stp)[3]? = some s3 := rfl
  obtain ⟨ht3, hh3⟩ := h6 s3 (by simp)
  refine callsG_of Try.func39 rfl rfl (by rw [Try.ntmps39]; simp) fun cx hP hn hg => ?_
  rw [Try.ntmps39] at hn
  refine startG ?_
  refine awp_seq ?_
  refine rg ?_
  refine qp m_box ?_
  refine qp (m_al ze24) ?_
  refine qv m_as ?_
  show AWp cx _ _ _
  refine awp_seq ?_
  refine awp_seq ?_
  refine rg ?_
  refine qv (m_ldpa sz24 ag24) ?_
  refine qqF (f28 (⟨pl, [s0, s1, s2, s3]⟩ : Yd)) ?_
  refine qv m_as ?_
  show AWp cx _ _ _
  refine awp_seq ?_
  refine rg ?_
  refine qv m_mv ?_
  refine qv m_neq ?_
  show AWp cx _ _ _
  refine cdF (hb := by simp [hv0]) (ht := ?_)
  refine awp_skip ?_
  show AWp cx _ _ _
  refine awp_seq ?_
  refine rg ?_
  refine qv (m_fdp fd24_0) ?_
  refine qv (m_ldp sz3 ag3) ?_
  refine qv (m_bld pl24 ze24) ?_
  refine qp (m_al ze24) ?_
  refine qs (m_st sz24) ?_
  show AWp cx _ _ _
  refine awp_seq ?_
  refine awp_seq ?_
  refine rg ?_
  refine qv (m_fdp fd24_1) ?_
  refine qv (m_ldp sz22 ag22) ?_
  refine qv (m_len (L := ([s0, s1, s2, s3] : List Stp)) (F := dStp) il22) ?_
  refine qv m_mv ?_
  show AWp cx _ _ _
  refine awp_block ?_
  refine awp_ul ?_
  refine ul_un (S0 := ⟨lk [(2, .pt 2 0 0), (5, .pt 5 0 0), (18, .dv (.list (([s0, s1, s2, s3] : List Stp).map dStp))), (19, .dv (i64 ((4 : Nat) : Int))), (20, .dv (i64 ((0 : Nat) : Int)))], mkM [(1, 0, some ⟨[.dv (i64 pl), .dv (.list (([s0, s1, s2, s3] : List Stp).map dStp))], 0, 24, 0, false⟩), (2, 0, some ⟨[.dv (i64 0), .nils], 0, 24, 0, false⟩), (5, 0, some ⟨[.dv (i64 pl), .nils], 0, 24, 0, false⟩)]⟩) (tl [(1, 1), (2, 2), (5, 5)]) ?_
  refine awp_seq ?_
  refine rg ?_
  refine qv m_lss ?_
  show AWp cx _ _ _
  refine awp_seq ?_
  refine cdT (hb := (by decide)) (ht := ?_)
  refine awp_skip ?_
  show AWp cx _ _ _
  refine awp_seq ?_
  refine awp_block ?_
  refine awp_seq ?_
  refine rg ?_
  first | refine qv (m_ixN el22 sz55) ?_ | refine qv (m_ix el22 sz55) ?_
  refine qv (m_lda sz55 ag55) ?_
  refine qp (m_al ze55) ?_
  refine qs (m_st sz55) ?_
  show AWp cx _ _ _
  refine rd mixed ?_
  refine zv (m_fdp fd24_1) ?_
  first | refine zv (m_ldI sz22 ag22) ?_ | refine zv (m_ldp sz22 ag22) ?_
  refine zv (m_fdp fd55_1) ?_
  refine zv (m_ldp sz25 ag25) ?_
  refine zqF (R := []) (f76 s0.give (by omega)) ?_
  refine zv (m_fdp fd55_0) ?_
  refine zv (m_ldp sz25 ag25) ?_
  refine zqF (R := []) (f76 s0.take (by omega)) ?_
  refine zv (m_bld pl55 ze55) ?_
  refine zr (m_bsl el22 ze55 sz55) ?_
  refine za0 (m_app0 el22 el22 ze55 sz55 by55) ?_
  refine zv (m_fdp fd24_1) ?_
  first | refine zs (m_stI sz22) ?_ | refine zs (m_st sz22) ?_
  refine ⟨by kernel_rfl, ?_⟩
  show AWp cx _ _ _
  refine rg ?_
  refine qv m_add ?_
  refine qv m_mv ?_
  show ALoop cx _ _ _
  refine ul_un (S0 := ⟨lk [(2, .pt 2 0 0), (5, .pt 5 0 0), (18, .dv (.list (([s0, s1, s2, s3] : List Stp).map dStp))), (19, .dv (i64 ((4 : Nat) : Int))), (20, .dv (i64 ((1 : Nat) : Int)))], mkM [(1, 0, some ⟨[.dv (i64 pl), .dv (.list (([s0, s1, s2, s3] : List Stp).map dStp))], 0, 24, 0, false⟩), (2, 0, some ⟨[.dv (i64 0), .nils], 0, 24, 0, false⟩), (5, 0, some ⟨[.dv (i64 pl), .sl 34 0 0 1], 0, 24, 0, false⟩), (34, 0, some ⟨[.sl 200001 0 0 s0.give.length, .sl 200002 0 0 s0.take.length], 2, 55, 0, true⟩), (200001, 0, some (rowI s0.give)), (200002, 0, some (rowI s0.take))]⟩) (tl [(1, 1), (2, 2), (5, 5), (34, 34), (200001, 28), (200002, 31)]) ?_
  refine awp_seq ?_
  refine rg ?_
  refine qv m_lss ?_
  show AWp cx _ _ _
  refine awp_seq ?_
  refine cdT (hb := (by decide)) (ht := ?_)
  refine awp_skip ?_
  show AWp cx _ _ _
  refine awp_seq ?_
  refine awp_block ?_
  refine awp_seq ?_
  refine rg ?_
  first | refine qv (m_ixN el22 sz55) ?_ | refine qv (m_ix el22 sz55) ?_
  refine qv (m_lda sz55 ag55) ?_
  refine qp (m_al ze55) ?_
  refine qs (m_st sz55) ?_
  show AWp cx _ _ _
  refine rd mixed ?_
  refine zv (m_fdp fd24_1) ?_
  first | refine zv (m_ldI sz22 ag22) ?_ | refine zv (m_ldp sz22 ag22) ?_
  refine zv (m_fdp fd55_1) ?_
  refine zv (m_ldp sz25 ag25) ?_
  refine zqF (R := []) (f76 s1.give (by omega)) ?_
  refine zv (m_fdp fd55_0) ?_
  refine zv (m_ldp sz25 ag25) ?_
  refine zqF (R := []) (f76 s1.take (by omega)) ?_
  refine zv (m_bld pl55 ze55) ?_
  refine zr (m_bsl el22 ze55 sz55) ?_
  refine za1 (m_app1 el22 el22 ze55 sz55 by55 (hln := rfl)) ?_
  refine zv (m_fdp fd24_1) ?_
  first | refine zs (m_stI sz22) ?_ | refine zs (m_st sz22) ?_
  refine ⟨by kernel_rfl, ?_⟩
  show AWp cx _ _ _
  refine rg ?_
  refine qv m_add ?_
  refine qv m_mv ?_
  show ALoop cx _ _ _
  refine ul_un (S0 := ⟨lk [(2, .pt 2 0 0), (5, .pt 5 0 0), (18, .dv (.list (([s0, s1, s2, s3] : List Stp).map dStp))), (19, .dv (i64 ((4 : Nat) : Int))), (20, .dv (i64 ((2 : Nat) : Int)))], mkM [(1, 0, some ⟨[.dv (i64 pl), .dv (.list (([s0, s1, s2, s3] : List Stp).map dStp))], 0, 24, 0, false⟩), (2, 0, some ⟨[.dv (i64 0), .nils], 0, 24, 0, false⟩), (5, 0, some ⟨[.dv (i64 pl), .sl 34 0 0 2], 0, 24, 0, false⟩), (34, 0, some ⟨[.sl 200001 0 0 s0.give.length, .sl 200002 0 0 s0.take.length, .sl 200003 0 0 s1.give.length, .sl 200004 0 0 s1.take.length], 2, 55, 0, true⟩), (200001, 0, some (rowI s0.give)), (200002, 0, some (rowI s0.take)), (200003, 0, some (rowI s1.give)), (200004, 0, some (rowI s1.take))]⟩) (tl [(1, 1), (2, 2), (5, 5), (34, 34), (200001, 200001), (200002, 200002), (200003, 28), (200004, 31)]) ?_
  refine awp_seq ?_
  refine rg ?_
  refine qv m_lss ?_
  show AWp cx _ _ _
  refine awp_seq ?_
  refine cdT (hb := (by decide)) (ht := ?_)
  refine awp_skip ?_
  show AWp cx _ _ _
  refine awp_seq ?_
  refine awp_block ?_
  refine awp_seq ?_
  refine rg ?_
  first | refine qv (m_ixN el22 sz55) ?_ | refine qv (m_ix el22 sz55) ?_
  refine qv (m_lda sz55 ag55) ?_
  refine qp (m_al ze55) ?_
  refine qs (m_st sz55) ?_
  show AWp cx _ _ _
  refine rd mixed ?_
  refine zv (m_fdp fd24_1) ?_
  first | refine zv (m_ldI sz22 ag22) ?_ | refine zv (m_ldp sz22 ag22) ?_
  refine zv (m_fdp fd55_1) ?_
  refine zv (m_ldp sz25 ag25) ?_
  refine zqF (R := []) (f76 s2.give (by omega)) ?_
  refine zv (m_fdp fd55_0) ?_
  refine zv (m_ldp sz25 ag25) ?_
  refine zqF (R := []) (f76 s2.take (by omega)) ?_
  refine zv (m_bld pl55 ze55) ?_
  refine zr (m_bsl el22 ze55 sz55) ?_
  refine za1 (m_app1 el22 el22 ze55 sz55 by55 (hln := rfl)) ?_
  refine zv (m_fdp fd24_1) ?_
  first | refine zs (m_stI sz22) ?_ | refine zs (m_st sz22) ?_
  refine ⟨by kernel_rfl, ?_⟩
  show AWp cx _ _ _
  refine rg ?_
  refine qv m_add ?_
  refine qv m_mv ?_
  show ALoop cx _ _ _
  refine ul_un (S0 := ⟨lk [(2, .pt 2 0 0), (5, .pt 5 0 0), (18, .dv (.list (([s0, s1, s2, s3] : List Stp).map dStp))), (19, .dv (i64 ((4 : Nat) : Int))), (20, .dv (i64 ((3 : Nat) : Int)))], mkM [(1, 0, some ⟨[.dv (i64 pl), .dv (.list (([s0, s1, s2, s3] : List Stp).map dStp))], 0, 24, 0, false⟩), (2, 0, some ⟨[.dv (i64 0), .nils], 0, 24, 0, false⟩), (5, 0, some ⟨[.dv (i64 pl), .sl 34 0 0 3], 0, 24, 0, false⟩), (34, 0, some ⟨[.sl 200001 0 0 s0.give.length, .sl 200002 0 0 s0.take.length, .sl 200003 0 0 s1.give.length, .sl 200004 0 0 s1.take.length, .sl 200005 0 0 s2.give.length, .sl 200006 0 0 s2.take.length], 2, 55, 0, true⟩), (200001, 0, some (rowI s0.give)), (200002, 0, some (rowI s0.take)), (200003, 0, some (rowI s1.give)), (200004, 0, some (rowI s1.take)), (200005, 0, some (rowI s2.give)), (200006, 0, some (rowI s2.take))]⟩) (tl [(1, 1), (2, 2), (5, 5), (34, 34), (200001, 200001), (200002, 200002), (200003, 200003), (200004, 200004), (200005, 28), (200006, 31)]) ?_
  refine awp_seq ?_
  refine rg ?_
  refine qv m_lss ?_
  show AWp cx _ _ _
  refine awp_seq ?_
  refine cdT (hb := (by decide)) (ht := ?_)
  refine awp_skip ?_
  show AWp cx _ _ _
  refine awp_seq ?_
  refine awp_block ?_
  refine awp_seq ?_
  refine rg ?_
  first | refine qv (m_ixN el22 sz55) ?_ | refine qv (m_ix el22 sz55) ?_
  refine qv (m_lda sz55 ag55) ?_
  refine qp (m_al ze55) ?_
  refine qs (m_st sz55) ?_
  show AWp cx _ _ _
  refine rd mixed ?_
  refine zv (m_fdp fd24_1) ?_
  first | refine zv (m_ldI sz22 ag22) ?_ | refine zv (m_ldp sz22 ag22) ?_
  refine zv (m_fdp fd55_1) ?_
  refine zv (m_ldp sz25 ag25) ?_
  refine zqF (R := []) (f76 s3.give (by omega)) ?_
  refine zv (m_fdp fd55_0) ?_
  refine zv (m_ldp sz25 ag25) ?_
  refine zqF (R := []) (f76 s3.take (by omega)) ?_
  refine zv (m_bld pl55 ze55) ?_
  refine zr (m_bsl el22 ze55 sz55) ?_
  refine za1 (m_app1 el22 el22 ze55 sz55 by55 (hln := rfl)) ?_
  refine zv (m_fdp fd24_1) ?_
  first | refine zs (m_stI sz22) ?_ | refine zs (m_st sz22) ?_
  refine ⟨by kernel_rfl, ?_⟩
  show AWp cx _ _ _
  refine rg ?_
  refine qv m_add ?_
  refine qv m_mv ?_
  show ALoop cx _ _ _
  refine ul_un (S0 := ⟨lk [(2, .pt 2 0 0), (5, .pt 5 0 0), (18, .dv (.list (([s0, s1, s2, s3] : List Stp).map dStp))), (19, .dv (i64 ((4 : Nat) : Int))), (20, .dv (i64 ((4 : Nat) : Int)))], mkM [(1, 0, some ⟨[.dv (i64 pl), .dv (.list (([s0, s1, s2, s3] : List Stp).map dStp))], 0, 24, 0, false⟩), (2, 0, some ⟨[.dv (i64 0), .nils], 0, 24, 0, false⟩), (5, 0, some ⟨[.dv (i64 pl), .sl 34 0 0 4], 0, 24, 0, false⟩), (34, 0, some ⟨[.sl 200001 0 0 s0.give.length, .sl 200002 0 0 s0.take.length, .sl 200003 0 0 s1.give.length, .sl 200004 0 0 s1.take.length, .sl 200005 0 0 s2.give.length, .sl 200006 0 0 s2.take.length, .sl 200007 0 0 s3.give.length, .sl 200008 0 0 s3.take.length], 2, 55, 0, true⟩), (200001, 0, some (rowI s0.give)), (200002, 0, some (rowI s0.take)), (200003, 0, some (rowI s1.give)), (200004, 0, some (rowI s1.take)), (200005, 0, some (rowI s2.give)), (200006, 0, some (rowI s2.take)), (200007, 0, some (rowI s3.give)), (200008, 0, some (rowI s3.take))]⟩) (tl [(1, 1), (2, 2), (5, 5), (34, 34), (200001, 200001), (200002, 200002), (200003, 200003), (200004, 200004), (200005, 200005), (200006, 200006), (200007, 28), (200008, 31)]) ?_
  refine awp_seq ?_
  refine rg ?_
  refine qv m_lss ?_
  show AWp cx _ _ _
  refine awp_seq ?_
  refine cdF (hb := (by decide)) (ht := ?_)
  refine awp_exit ?_
  show AWp cx _ _ _
  refine awp_seq ?_
  refine rg ?_
  first | refine qv (m_ldI sz24 ag24) ?_ | refine qv (m_ldpa sz24 ag24) ?_
  first | refine qs (m_stI sz24) ?_ | refine qs (m_st sz24) ?_
  refine qv m_as ?_
  show AWp cx _ _ _
  refine awp_ret ?_
  exact xg [(100000, 34), (100001, 200001), (100002, 200002), (100003, 200003), (100004, 200004), (100005, 200005), (100006, 200006), (100007, 200007), (100008, 200008)] (rv := [.cell 2 24, .tmp 3]) (ss := [.agg [.dv (i64 pl), .sl 34 0 0 4], .dv (i64 0)]) (hs := by simp only [resSV, loadSV, St.look, St.ev, lk, mkM, blkOf, svOf, svOfCell, reduceIte, Nat.reduceAdd, Nat.reduceEqDiff, Nat.reduceMul, sz24, ag24]; rfl)
set_option maxHeartbeats 8000000 in
theorem f10_4 (pl : Int) (s0 s1 s2 s3 : Stp) (hv : VYd (⟨pl, [s0, s1, s2, s3]⟩ : Yd)) (x : Pr) (l : List Int) : ACallsF Try.prog 10 [dYd (⟨pl, [s0, s1, s2, s3]⟩ : Yd), dPr x, ints l] (.one (.dv (.bool true))) := by
  have h6 := turn_len6 hv
  have hts := turn_sets hv x.goal
  have hg0 : ([s0, s1, s2, s3] : List Stp)[0]? = some s0 := rfl
  obtain ⟨ht0, hh0⟩ := h6 s0 (by simp)
  have hg1 : ([s0, s1, s2, s3] : List Stp)[1]? = some s1 := rfl
  obtain ⟨ht1, hh1⟩ := h6 s1 (by simp)
  have hg2 : ([s0, s1, s2, s3] : List Stp)[2]? = some s2 := rfl
  obtain ⟨ht2, hh2⟩ := h6 s2 (by simp)
  have hg3 : ([s0, s1, s2, s3] : List Stp)[3]? = some s3 := rfl
  obtain ⟨ht3, hh3⟩ := h6 s3 (by simp)
  refine callsF_of Try.func10 rfl rfl (by rw [Try.ntmps10]; simp) fun cx hP hn hg => ?_
  rw [Try.ntmps10] at hn
  rw [startF_lk, none_mkM]
  simp only [List.nil_append, List.append_nil, List.cons_append, zipSV, Nat.reduceAdd]
  refine awp_seq ?_
  refine rg ?_
  refine qp m_box ?_
  refine qp m_box ?_
  refine qv m_as ?_
  show AWp cx _ _ _
  refine awp_seq ?_
  refine awp_seq ?_
  refine rg ?_
  refine qv (m_ldpa sz24 ag24) ?_
  refine qqF (f16 (⟨pl, [s0, s1, s2, s3]⟩ : Yd)) ?_
  refine qx m_mv (fun hg29 => ?_) (fun hg29 => ?_)
  · try simp at hg29
    refine qk ?_
    refine qk ?_
    refine qk ?_
    refine qv m_pk ?_
    refine qv m_mv ?_
    refine qk ?_
    refine qk ?_
    refine qk ?_
    refine qv m_pk ?_
    refine qv m_mv ?_
    refine qk ?_
    refine qk ?_
    refine qv m_pk ?_
    show AWp cx _ _ _
    refine cdT (hb := by first | rfl | simp | simp_all) (ht := ?_)
    refine awp_seq ?_
    refine rg ?_
    refine qqF (f18) ?_
    refine qv m_as ?_
    show AWp cx _ _ _
    refine awp_ret ?_
    exact x1 (hr := (rB_))
  · try simp at hg29
    refine qv (m_fdp fd43_0) ?_
    refine qv (m_ldp sz25 ag25) ?_
    refine qqF (f17 x.m) ?_
    refine qv m_pk ?_
    refine qx m_mv (fun hg34 => ?_) (fun hg34 => ?_)
    · try simp at hg34
      refine qk ?_
      refine qk ?_
      refine qk ?_
      refine qv m_pk ?_
      refine qv m_mv ?_
      refine qk ?_
      refine qk ?_
      refine qv m_pk ?_
      show AWp cx _ _ _
      refine cdT (hb := by first | rfl | simp | simp_all) (ht := ?_)
      refine awp_seq ?_
      refine rg ?_
      refine qqF (f18) ?_
      refine qv m_as ?_
      show AWp cx _ _ _
      refine awp_ret ?_
      exact x1 (hr := (rB_))
    · try simp at hg34
      refine qv (m_fdp fd43_1) ?_
      refine qv (m_ldp sz25 ag25) ?_
      refine qqF (f17 x.goal) ?_
      refine qv m_pk ?_
      refine qx m_mv (fun hg39 => ?_) (fun hg39 => ?_)
      · try simp at hg39
        refine qk ?_
        refine qk ?_
        refine qv m_pk ?_
        show AWp cx _ _ _
        refine cdT (hb := by first | rfl | simp | simp_all) (ht := ?_)
        refine awp_seq ?_
        refine rg ?_
        refine qqF (f18) ?_
        refine qv m_as ?_
        show AWp cx _ _ _
        refine awp_ret ?_
        exact x1 (hr := (rB_))
      · try simp at hg39
        refine qv m_mv ?_
        refine qqF (f17 l) ?_
        refine qv m_pk ?_
        show AWp cx _ _ _
        refine cd (fun hc0 => ?_) (fun hc0 => ?_)
        · skip
          refine awp_seq ?_
          refine rg ?_
          refine qqF (f18) ?_
          refine qv m_as ?_
          show AWp cx _ _ _
          refine awp_ret ?_
          exact x1 (hr := (rB_))
        · skip
          have hl100 : l.length ≤ 100 := by have := of_decide_eq_false hc0; omega
          refine awp_skip ?_
          show AWp cx _ _ _
          refine awp_seq ?_
          refine rg ?_
          refine qv (m_ldpa sz24 ag24) ?_
          refine qqA (f38 (⟨pl, [s0, s1, s2, s3]⟩ : Yd) (Shr.valid hv)) ?_
          refine qp (m_al ze24) ?_
          refine qs (m_st sz24) ?_
          show AWp cx _ _ _
          refine awp_seq ?_
          refine rg ?_
          refine qv (m_ldpa sz24 ag24) ?_
          refine qqG (f39_4 pl s0 s1 s2 s3 hv) [] [] [148000, 148001, 148002, 148003, 148004, 148005, 148006, 148007, 148008] ?_
          refine qv m_mv ?_
          refine qv m_ext ?_
          refine qv m_ext ?_
          refine qp (m_al ze24) ?_
          refine qs (m_st sz24) ?_
          refine qv m_as ?_
          show AWp cx _ _ _
          refine awp_seq ?_
          refine AWp.le (tl [(3, 3), (4, 4), (7, 7), (8, 8), (148000, 148000), (148001, 148001), (148002, 148002), (148003, 148003), (148004, 148004), (148005, 148005), (148006, 148006), (148007, 148007), (148008, 148008)] (l := [(2, .dv (ints (l))), (3, .pt 3 0 0), (4, .pt 4 0 0), (7, .pt 7 0 0), (8, .pt 8 0 0), (9, .dv (i64 (0)))]) (m := [(3, 0, some ⟨[.dv (i64 (((⟨pl, [s0, s1, s2, s3]⟩ : Yd)).places)), .dv (.list ((((⟨pl, [s0, s1, s2, s3]⟩ : Yd)).steps).map dStp))], 0, 24, 0, false⟩), (4, 0, some ⟨[.dv (ints (x.m)), .dv (ints (x.goal))], 0, 43, 0, false⟩), (7, 0, some ⟨[.dv (i64 (((⟨pl, [s0, s1, s2, s3]⟩ : Yd)).places)), .dv (.list ((((⟨pl, [s0, s1, s2, s3]⟩ : Yd)).steps).map dStp))], 0, 24, 0, false⟩), (8, 0, some ⟨[.dv (i64 pl), .sl 148000 0 0 4], 0, 24, 0, false⟩), (148000, 0, some ⟨[.sl 148001 0 0 s0.give.length, .sl 148002 0 0 s0.take.length, .sl 148003 0 0 s1.give.length, .sl 148004 0 0 s1.take.length, .sl 148005 0 0 s2.give.length, .sl 148006 0 0 s2.take.length, .sl 148007 0 0 s3.give.length, .sl 148008 0 0 s3.take.length], 2, 55, 0, true⟩), (148001, 0, some (rowI s0.give)), (148002, 0, some (rowI s0.take)), (148003, 0, some (rowI s1.give)), (148004, 0, some (rowI s1.take)), (148005, 0, some (rowI s2.give)), (148006, 0, some (rowI s2.take)), (148007, 0, some (rowI s3.give)), (148008, 0, some (rowI s3.take))])) ?_
          refine rg ?_
          refine qv (m_ldpa sz24 ag24) ?_
          refine qqA (f40v (⟨pl, [s0, s1, s2, s3]⟩ : Yd) hv) ?_
          refine qv m_mv ?_
          refine qv m_ext ?_
          refine qv m_ext ?_
          refine qp (m_al ze24) ?_
          refine qs (m_st sz24) ?_
          refine qv m_as ?_
          show AWp cx _ _ _
          refine awp_seq ?_
          refine awp_seq ?_
          refine rg ?_
          first | refine qv (m_ldI sz24 ag24) ?_ | refine qv (m_ldpa sz24 ag24) ?_
          refine qv (m_ldpa sz24 ag24) ?_
          refine qqF (f41 (turnY (⟨pl, [s0, s1, s2, s3]⟩ : Yd)) (Shr.valid (turn_valid hv))) ?_ (ha := (args_cons (data_agg (args_cons data_dv (args_cons (data_cells (blk := ⟨[.sl 148001 0 0 s0.give.length, .sl 148002 0 0 s0.take.length, .sl 148003 0 0 s1.give.length, .sl 148004 0 0 s1.take.length, .sl 148005 0 0 s2.give.length, .sl 148006 0 0 s2.take.length, .sl 148007 0 0 s3.give.length, .sl 148008 0 0 s3.take.length], 2, 55, 0, true⟩) (l := [dStp (turnS s0), dStp (turnS s1), dStp (turnS s2), dStp (turnS s3)]) (by simp only [mkM, reduceIte, Nat.reduceEqDiff] <;> rfl) trivial rfl (by simp [DV.cells]) (args_cons (data_ints (L := s0.give) (by simp only [mkM, reduceIte, Nat.reduceEqDiff] <;> rfl) trivial (by first | rfl | omega | (simp; done) | (simp; omega)) rfl rfl (fun _ => trivial)) (args_cons (data_ints (L := s0.take) (by simp only [mkM, reduceIte, Nat.reduceEqDiff] <;> rfl) trivial (by first | rfl | omega | (simp; done) | (simp; omega)) rfl rfl (fun _ => trivial)) (args_cons (data_ints (L := s1.give) (by simp only [mkM, reduceIte, Nat.reduceEqDiff] <;> rfl) trivial (by first | rfl | omega | (simp; done) | (simp; omega)) rfl rfl (fun _ => trivial)) (args_cons (data_ints (L := s1.take) (by simp only [mkM, reduceIte, Nat.reduceEqDiff] <;> rfl) trivial (by first | rfl | omega | (simp; done) | (simp; omega)) rfl rfl (fun _ => trivial)) (args_cons (data_ints (L := s2.give) (by simp only [mkM, reduceIte, Nat.reduceEqDiff] <;> rfl) trivial (by first | rfl | omega | (simp; done) | (simp; omega)) rfl rfl (fun _ => trivial)) (args_cons (data_ints (L := s2.take) (by simp only [mkM, reduceIte, Nat.reduceEqDiff] <;> rfl) trivial (by first | rfl | omega | (simp; done) | (simp; omega)) rfl rfl (fun _ => trivial)) (args_cons (data_ints (L := s3.give) (by simp only [mkM, reduceIte, Nat.reduceEqDiff] <;> rfl) trivial (by first | rfl | omega | (simp; done) | (simp; omega)) rfl rfl (fun _ => trivial)) (args_cons (data_ints (L := s3.take) (by simp only [mkM, reduceIte, Nat.reduceEqDiff] <;> rfl) trivial (by first | rfl | omega | (simp; done) | (simp; omega)) rfl rfl (fun _ => trivial)) args_nil))))))))) args_nil))) (args_cons data_dv args_nil)))
          refine qv m_not ?_
          refine qx m_mv (fun hg60 => ?_) (fun hg60 => ?_)
          · exact absurd hg60 (by simp [])
          refine qv m_mv ?_
          refine qv m_mv ?_
          refine qv m_neq ?_
          refine qv m_pk ?_
          show AWp cx _ _ _
          refine cdF (hb := by simp) (ht := ?_)
          refine awp_skip ?_
          show AWp cx _ _ _
          refine awp_seq ?_
          refine rg ?_
          refine qv (m_ldpa sz24 ag24) ?_
          refine qv (m_fdp fd43_1) ?_
          refine qv (m_ldp sz25 ag25) ?_
          refine qqF (f42 (⟨pl, [s0, s1, s2, s3]⟩ : Yd) x.goal) ?_
          refine qv m_mv ?_
          refine qv m_ext ?_
          refine qv m_ext ?_
          refine qv m_as ?_
          refine qv m_as ?_
          show AWp cx _ _ _
          refine awp_seq ?_
          refine rg ?_
          first | refine qv (m_ldI sz24 ag24) ?_ | refine qv (m_ldpa sz24 ag24) ?_
          refine qv (m_fdp fd43_1) ?_
          refine qv (m_ldp sz25 ag25) ?_
          refine qqF (f43 (turnY (⟨pl, [s0, s1, s2, s3]⟩ : Yd)) x.goal) ?_ (ha := (args_cons (data_agg (args_cons data_dv (args_cons (data_cells (blk := ⟨[.sl 148001 0 0 s0.give.length, .sl 148002 0 0 s0.take.length, .sl 148003 0 0 s1.give.length, .sl 148004 0 0 s1.take.length, .sl 148005 0 0 s2.give.length, .sl 148006 0 0 s2.take.length, .sl 148007 0 0 s3.give.length, .sl 148008 0 0 s3.take.length], 2, 55, 0, true⟩) (l := [dStp (turnS s0), dStp (turnS s1), dStp (turnS s2), dStp (turnS s3)]) (by simp only [mkM, reduceIte, Nat.reduceEqDiff] <;> rfl) trivial rfl (by simp [DV.cells]) (args_cons (data_ints (L := s0.give) (by simp only [mkM, reduceIte, Nat.reduceEqDiff] <;> rfl) trivial (by first | rfl | omega | (simp; done) | (simp; omega)) rfl rfl (fun _ => trivial)) (args_cons (data_ints (L := s0.take) (by simp only [mkM, reduceIte, Nat.reduceEqDiff] <;> rfl) trivial (by first | rfl | omega | (simp; done) | (simp; omega)) rfl rfl (fun _ => trivial)) (args_cons (data_ints (L := s1.give) (by simp only [mkM, reduceIte, Nat.reduceEqDiff] <;> rfl) trivial (by first | rfl | omega | (simp; done) | (simp; omega)) rfl rfl (fun _ => trivial)) (args_cons (data_ints (L := s1.take) (by simp only [mkM, reduceIte, Nat.reduceEqDiff] <;> rfl) trivial (by first | rfl | omega | (simp; done) | (simp; omega)) rfl rfl (fun _ => trivial)) (args_cons (data_ints (L := s2.give) (by simp only [mkM, reduceIte, Nat.reduceEqDiff] <;> rfl) trivial (by first | rfl | omega | (simp; done) | (simp; omega)) rfl rfl (fun _ => trivial)) (args_cons (data_ints (L := s2.take) (by simp only [mkM, reduceIte, Nat.reduceEqDiff] <;> rfl) trivial (by first | rfl | omega | (simp; done) | (simp; omega)) rfl rfl (fun _ => trivial)) (args_cons (data_ints (L := s3.give) (by simp only [mkM, reduceIte, Nat.reduceEqDiff] <;> rfl) trivial (by first | rfl | omega | (simp; done) | (simp; omega)) rfl rfl (fun _ => trivial)) (args_cons (data_ints (L := s3.take) (by simp only [mkM, reduceIte, Nat.reduceEqDiff] <;> rfl) trivial (by first | rfl | omega | (simp; done) | (simp; omega)) rfl rfl (fun _ => trivial)) args_nil))))))))) args_nil))) (args_cons data_dv args_nil)))
          refine qv m_mv ?_
          refine qv m_ext ?_
          refine qv m_ext ?_
          refine qv m_as ?_
          refine qv m_as ?_
          show AWp cx _ _ _
          refine awp_seq ?_
          refine rg ?_
          refine qv m_mv ?_
          refine qv m_neq ?_
          refine qx m_mv (fun hg81 => ?_) (fun hg81 => ?_)
          · exact absurd hg81 (by simp [])
          refine qv m_mv ?_
          refine qv m_mv ?_
          refine qv m_eql ?_
          refine qx m_mv (fun hg85 => ?_) (fun hg85 => ?_)
          rotate_left
          · exact absurd hg85 (by simp [hts])
          refine qv m_mv ?_
          refine qv m_mv ?_
          refine qv (m_beq ib4) ?_
          refine qv m_pk ?_
          refine qv m_pk ?_
          refine qv m_as ?_
          show AWp cx _ _ _
          refine awp_seq ?_
          refine rg ?_
          refine qv (m_ldpa sz24 ag24) ?_
          refine qv (m_fdp fd43_0) ?_
          refine qv (m_ldp sz25 ag25) ?_
          refine qv m_mv ?_
          refine qqF (f19 (⟨pl, [s0, s1, s2, s3]⟩ : Yd) x.m l) ?_
          refine qv m_mv ?_
          refine qv m_ext ?_
          refine qv m_ext ?_
          refine qv m_ext ?_
          refine qv m_as ?_
          refine qv m_as ?_
          refine qv m_as ?_
          show AWp cx _ _ _
          refine awp_join (⟨lk [(3, .pt 3 0 0), (7, .pt 7 0 0), (8, .pt 8 0 0), (16, .dv (.bool (true)))], mkM [(3, 0, some ⟨[.dv (i64 (((⟨pl, [s0, s1, s2, s3]⟩ : Yd)).places)), .dv (.list ((((⟨pl, [s0, s1, s2, s3]⟩ : Yd)).steps).map dStp))], 0, 24, 0, false⟩), (7, 0, some ⟨[.dv (i64 (((⟨pl, [s0, s1, s2, s3]⟩ : Yd)).places)), .dv (.list ((((⟨pl, [s0, s1, s2, s3]⟩ : Yd)).steps).map dStp))], 0, 24, 0, false⟩), (8, 0, some ⟨[.dv (i64 pl), .sl 148000 0 0 4], 0, 24, 0, false⟩), (148000, 0, some ⟨[.sl 148001 0 0 s0.give.length, .sl 148002 0 0 s0.take.length, .sl 148003 0 0 s1.give.length, .sl 148004 0 0 s1.take.length, .sl 148005 0 0 s2.give.length, .sl 148006 0 0 s2.take.length, .sl 148007 0 0 s3.give.length, .sl 148008 0 0 s3.take.length], 2, 55, 0, true⟩), (148001, 0, some (rowI s0.give)), (148002, 0, some (rowI s0.take)), (148003, 0, some (rowI s1.give)), (148004, 0, some (rowI s1.take)), (148005, 0, some (rowI s2.give)), (148006, 0, some (rowI s2.take)), (148007, 0, some (rowI s3.give)), (148008, 0, some (rowI s3.take))]⟩ : St) ?_ (fun hJ100 => ?_)
          · show AWp cx _ _ _
            refine awp_seq ?_
            refine awp_seq ?_
            refine rg ?_
            refine qv m_as ?_
            show AWp cx _ _ _
            refine awp_block ?_
            refine awp_ul ?_
            refine ul_un (S0 := ⟨lk [(3, .pt 3 0 0), (7, .pt 7 0 0), (8, .pt 8 0 0), (16, .dv (.bool true)), (25, .dv (i64 ((0 : Nat) : Int)))], mkM [(3, 0, some ⟨[.dv (i64 pl), .dv (.list (([s0, s1, s2, s3] : List Stp).map dStp))], 0, 24, 0, false⟩), (7, 0, some ⟨[.dv (i64 pl), .dv (.list (([s0, s1, s2, s3] : List Stp).map dStp))], 0, 24, 0, false⟩), (8, 0, some ⟨[.dv (i64 pl), .sl 148000 0 0 4], 0, 24, 0, false⟩), (148000, 0, some ⟨[.sl 148001 0 0 s0.give.length, .sl 148002 0 0 s0.take.length, .sl 148003 0 0 s1.give.length, .sl 148004 0 0 s1.take.length, .sl 148005 0 0 s2.give.length, .sl 148006 0 0 s2.take.length, .sl 148007 0 0 s3.give.length, .sl 148008 0 0 s3.take.length], 2, 55, 0, true⟩), (148001, 0, some (rowI s0.give)), (148002, 0, some (rowI s0.take)), (148003, 0, some (rowI s1.give)), (148004, 0, some (rowI s1.take)), (148005, 0, some (rowI s2.give)), (148006, 0, some (rowI s2.take)), (148007, 0, some (rowI s3.give)), (148008, 0, some (rowI s3.take))]⟩) (tl [(3, 3), (7, 7), (8, 8), (148000, 148000), (148001, 148001), (148002, 148002), (148003, 148003), (148004, 148004), (148005, 148005), (148006, 148006), (148007, 148007), (148008, 148008)]) ?_
            refine awp_seq ?_
            refine awp_seq ?_
            refine rg ?_
            refine qv m_mv ?_
            refine qv (m_fdp fd24_1) ?_
            first | refine qv (m_ldI sz22 ag22) ?_ | refine qv (m_ldp sz22 ag22) ?_
            first | refine qv (m_len il22) ?_ | refine qv (m_lenR il22) ?_ | refine qv (m_len0 il22) ?_
            refine qv m_lss ?_
            show AWp cx _ _ _
            refine cdT (hb := (by decide)) (ht := ?_)
            refine awp_skip ?_
            show AWp cx _ _ _
            refine awp_seq ?_
            refine awp_block ?_
            refine awp_seq ?_
            refine rg ?_
            refine qv m_as ?_
            show AWp cx _ _ _
            refine awp_block ?_
            refine awp_loop (ι := List Int × Nat) (fun s => ⟨lk [(3, .pt 3 0 0), (7, .pt 7 0 0), (8, .pt 8 0 0), (16, .dv (.bool (true))), (25, .dv (i64 ((0 : Nat) : Int))), (26, .dv (i64 (s.2 : Nat)))], mkM [(3, 0, some ⟨[.dv (i64 (pl)), .dv (.list ((([s0, s1, s2, s3] : List Stp)).map dStp))], 0, 24, 0, false⟩), (7, 0, some ⟨[.dv (i64 (pl)), .dv (.list ((([s0, s1, s2, s3] : List Stp)).map dStp))], 0, 24, 0, false⟩), (8, 0, some ⟨[.dv (i64 pl), .sl 148000 0 0 4], 0, 24, 0, false⟩), (148000, 0, some ⟨[.sl 148001 0 0 s0.give.length, .sl 148002 0 0 s0.take.length, .sl 148003 0 0 s1.give.length, .sl 148004 0 0 s1.take.length, .sl 148005 0 0 s2.give.length, .sl 148006 0 0 s2.take.length, .sl 148007 0 0 s3.give.length, .sl 148008 0 0 s3.take.length], 2, 55, 0, true⟩), (148001, 0, some (rowI s.1)), (148002, 0, some (rowI s0.take)), (148003, 0, some (rowI s1.give)), (148004, 0, some (rowI s1.take)), (148005, 0, some (rowI s2.give)), (148006, 0, some (rowI s2.take)), (148007, 0, some (rowI s3.give)), (148008, 0, some (rowI s3.take))]⟩) (fun s => s.1.length = s0.give.length ∧ s.2 ≤ s0.give.length) (fun s => s0.give.length - s.2) (s0.give, 0) ⟨rfl, by omega⟩ (tl [(3, 3), (7, 7), (8, 8), (148000, 148000), (148001, 148001), (148002, 148002), (148003, 148003), (148004, 148004), (148005, 148005), (148006, 148006), (148007, 148007), (148008, 148008)]) ?_
            intro ⟨r0, p⟩ hφ2
            dsimp only at hφ2 ⊢
            refine awp_seq ?_
            refine awp_seq ?_
            refine rg ?_
            refine qv m_mv ?_
            refine qv (m_fdp fd24_1) ?_
            first | refine qv (m_ldI sz22 ag22) ?_ | refine qv (m_ldp sz22 ag22) ?_
            refine qv m_mv ?_
            first | refine qv (m_ixN el22 sz55) ?_ | refine qv (m_ix el22 sz55) ?_ | refine qv (m_ixR el22 sz55) ?_
            first | refine qv (m_fd fd55_0) ?_ | refine qv (m_fdp fd55_0) ?_
            first | refine qv (m_ld sz25 ag25) ?_ | refine qv (m_ldp sz25 ag25) ?_
            first | refine qv (m_len il25) ?_ | refine qv (m_lenR il25) ?_ | refine qv (m_len0 il25) ?_
            refine qv m_lss ?_
            show AWp cx _ _ _
            refine cd (fun hc5 => ?_) (fun hc5 => ?_)
            · try simp at hc5
              have hrr := hφ2.1
              have hpl := hφ2.2
              refine awp_skip ?_
              show AWp cx _ _ _
              refine awp_seq ?_
              refine awp_block ?_
              refine rg ?_
              refine qv (m_fdp fd24_1) ?_
              first | refine qv (m_ldI sz22 ag22) ?_ | refine qv (m_ldp sz22 ag22) ?_
              refine qv m_mv ?_
              first | refine qv (m_ixN el22 sz55) ?_ | refine qv (m_ix el22 sz55) ?_ | refine qv (m_ixR el22 sz55) ?_
              first | refine qv (m_fd fd55_0) ?_ | refine qv (m_fdp fd55_0) ?_
              first | refine qv (m_ld sz25 ag25) ?_ | refine qv (m_ldp sz25 ag25) ?_
              refine qv m_mv ?_
              first | refine qv (m_ixN el25 sz3) ?_ | refine qv (m_ix el25 sz3) ?_ | refine qv (m_ixR el25 sz3) ?_
              refine qs (m_stI sz3) ?_
              show AWp cx _ _ _
              refine rg ?_
              refine qv m_mv ?_
              refine qv m_add ?_
              refine qv m_as ?_
              exact ⟨(r0.set p (-1), p + 1), ⟨by simp; omega, by simp only; omega⟩, (by simp only; omega), (tl [(3, 3), (7, 7), (8, 8), (148000, 148000), (148001, 148001), (148002, 148002), (148003, 148003), (148004, 148004), (148005, 148005), (148006, 148006), (148007, 148007), (148008, 148008)] (hF := by simp [FLe, svLe, lk, mkM, isLive, tauL, hφ2]) (hM := by simp [MLe, blkLe, svLe, svLes, lk, mkM, isLive, tauL, svLes_ints, svLes_self, isDvs, isDvs_map, isDvs_app, isDvs_take, isDvs_set, isDvs_repl, hφ2]))⟩
            · try simp at hc5
              have hp0 := hφ2.1
              refine awp_exit ?_
              show AWp cx _ _ _
              refine rg ?_
              refine qv m_mv ?_
              refine qv m_add ?_
              refine qv m_as ?_
              show ALoop cx _ _ _
              refine ul_un (S0 := ⟨lk [(3, .pt 3 0 0), (7, .pt 7 0 0), (8, .pt 8 0 0), (16, .dv (.bool true)), (25, .dv (i64 ((1 : Nat) : Int)))], mkM [(3, 0, some ⟨[.dv (i64 pl), .dv (.list (([s0, s1, s2, s3] : List Stp).map dStp))], 0, 24, 0, false⟩), (7, 0, some ⟨[.dv (i64 pl), .dv (.list (([s0, s1, s2, s3] : List Stp).map dStp))], 0, 24, 0, false⟩), (8, 0, some ⟨[.dv (i64 pl), .sl 148000 0 0 4], 0, 24, 0, false⟩), (148000, 0, some ⟨[.sl 148001 0 0 s0.give.length, .sl 148002 0 0 s0.take.length, .sl 148003 0 0 s1.give.length, .sl 148004 0 0 s1.take.length, .sl 148005 0 0 s2.give.length, .sl 148006 0 0 s2.take.length, .sl 148007 0 0 s3.give.length, .sl 148008 0 0 s3.take.length], 2, 55, 0, true⟩), (148001, 0, some (rowI r0)), (148002, 0, some (rowI s0.take)), (148003, 0, some (rowI s1.give)), (148004, 0, some (rowI s1.take)), (148005, 0, some (rowI s2.give)), (148006, 0, some (rowI s2.take)), (148007, 0, some (rowI s3.give)), (148008, 0, some (rowI s3.take))]⟩) (tl [(3, 3), (7, 7), (8, 8), (148000, 148000), (148001, 148001), (148002, 148002), (148003, 148003), (148004, 148004), (148005, 148005), (148006, 148006), (148007, 148007), (148008, 148008)]) ?_
              refine awp_seq ?_
              refine awp_seq ?_
              refine rg ?_
              refine qv m_mv ?_
              refine qv (m_fdp fd24_1) ?_
              first | refine qv (m_ldI sz22 ag22) ?_ | refine qv (m_ldp sz22 ag22) ?_
              first | refine qv (m_len il22) ?_ | refine qv (m_lenR il22) ?_ | refine qv (m_len0 il22) ?_
              refine qv m_lss ?_
              show AWp cx _ _ _
              refine cdT (hb := (by decide)) (ht := ?_)
              refine awp_skip ?_
              show AWp cx _ _ _
              refine awp_seq ?_
              refine awp_block ?_
              refine awp_seq ?_
              refine rg ?_
              refine qv m_as ?_
              show AWp cx _ _ _
              refine awp_block ?_
              refine awp_loop (ι := List Int × Nat) (fun s => ⟨lk [(3, .pt 3 0 0), (7, .pt 7 0 0), (8, .pt 8 0 0), (16, .dv (.bool (true))), (25, .dv (i64 ((1 : Nat) : Int))), (26, .dv (i64 (s.2 : Nat)))], mkM [(3, 0, some ⟨[.dv (i64 (pl)), .dv (.list ((([s0, s1, s2, s3] : List Stp)).map dStp))], 0, 24, 0, false⟩), (7, 0, some ⟨[.dv (i64 (pl)), .dv (.list ((([s0, s1, s2, s3] : List Stp)).map dStp))], 0, 24, 0, false⟩), (8, 0, some ⟨[.dv (i64 pl), .sl 148000 0 0 4], 0, 24, 0, false⟩), (148000, 0, some ⟨[.sl 148001 0 0 s0.give.length, .sl 148002 0 0 s0.take.length, .sl 148003 0 0 s1.give.length, .sl 148004 0 0 s1.take.length, .sl 148005 0 0 s2.give.length, .sl 148006 0 0 s2.take.length, .sl 148007 0 0 s3.give.length, .sl 148008 0 0 s3.take.length], 2, 55, 0, true⟩), (148001, 0, some (rowI r0)), (148002, 0, some (rowI s0.take)), (148003, 0, some (rowI s.1)), (148004, 0, some (rowI s1.take)), (148005, 0, some (rowI s2.give)), (148006, 0, some (rowI s2.take)), (148007, 0, some (rowI s3.give)), (148008, 0, some (rowI s3.take))]⟩) (fun s => s.1.length = s1.give.length ∧ s.2 ≤ s1.give.length) (fun s => s1.give.length - s.2) (s1.give, 0) ⟨rfl, by omega⟩ (tl [(3, 3), (7, 7), (8, 8), (148000, 148000), (148001, 148001), (148002, 148002), (148003, 148003), (148004, 148004), (148005, 148005), (148006, 148006), (148007, 148007), (148008, 148008)]) ?_
              intro ⟨r1, p⟩ hφ2
              dsimp only at hφ2 ⊢
              refine awp_seq ?_
              refine awp_seq ?_
              refine rg ?_
              refine qv m_mv ?_
              refine qv (m_fdp fd24_1) ?_
              first | refine qv (m_ldI sz22 ag22) ?_ | refine qv (m_ldp sz22 ag22) ?_
              refine qv m_mv ?_
              first | refine qv (m_ixN el22 sz55) ?_ | refine qv (m_ix el22 sz55) ?_ | refine qv (m_ixR el22 sz55) ?_
              first | refine qv (m_fd fd55_0) ?_ | refine qv (m_fdp fd55_0) ?_
              first | refine qv (m_ld sz25 ag25) ?_ | refine qv (m_ldp sz25 ag25) ?_
              first | refine qv (m_len il25) ?_ | refine qv (m_lenR il25) ?_ | refine qv (m_len0 il25) ?_
              refine qv m_lss ?_
              show AWp cx _ _ _
              refine cd (fun hc5 => ?_) (fun hc5 => ?_)
              · try simp at hc5
                have hrr := hφ2.1
                have hpl := hφ2.2
                refine awp_skip ?_
                show AWp cx _ _ _
                refine awp_seq ?_
                refine awp_block ?_
                refine rg ?_
                refine qv (m_fdp fd24_1) ?_
                first | refine qv (m_ldI sz22 ag22) ?_ | refine qv (m_ldp sz22 ag22) ?_
                refine qv m_mv ?_
                first | refine qv (m_ixN el22 sz55) ?_ | refine qv (m_ix el22 sz55) ?_ | refine qv (m_ixR el22 sz55) ?_
                first | refine qv (m_fd fd55_0) ?_ | refine qv (m_fdp fd55_0) ?_
                first | refine qv (m_ld sz25 ag25) ?_ | refine qv (m_ldp sz25 ag25) ?_
                refine qv m_mv ?_
                first | refine qv (m_ixN el25 sz3) ?_ | refine qv (m_ix el25 sz3) ?_ | refine qv (m_ixR el25 sz3) ?_
                refine qs (m_stI sz3) ?_
                show AWp cx _ _ _
                refine rg ?_
                refine qv m_mv ?_
                refine qv m_add ?_
                refine qv m_as ?_
                exact ⟨(r1.set p (-1), p + 1), ⟨by simp; omega, by simp only; omega⟩, (by simp only; omega), (tl [(3, 3), (7, 7), (8, 8), (148000, 148000), (148001, 148001), (148002, 148002), (148003, 148003), (148004, 148004), (148005, 148005), (148006, 148006), (148007, 148007), (148008, 148008)] (hF := by simp [FLe, svLe, lk, mkM, isLive, tauL, hφ2]) (hM := by simp [MLe, blkLe, svLe, svLes, lk, mkM, isLive, tauL, svLes_ints, svLes_self, isDvs, isDvs_map, isDvs_app, isDvs_take, isDvs_set, isDvs_repl, hφ2]))⟩
              · try simp at hc5
                have hp1 := hφ2.1
                refine awp_exit ?_
                show AWp cx _ _ _
                refine rg ?_
                refine qv m_mv ?_
                refine qv m_add ?_
                refine qv m_as ?_
                show ALoop cx _ _ _
                refine ul_un (S0 := ⟨lk [(3, .pt 3 0 0), (7, .pt 7 0 0), (8, .pt 8 0 0), (16, .dv (.bool true)), (25, .dv (i64 ((2 : Nat) : Int)))], mkM [(3, 0, some ⟨[.dv (i64 pl), .dv (.list (([s0, s1, s2, s3] : List Stp).map dStp))], 0, 24, 0, false⟩), (7, 0, some ⟨[.dv (i64 pl), .dv (.list (([s0, s1, s2, s3] : List Stp).map dStp))], 0, 24, 0, false⟩), (8, 0, some ⟨[.dv (i64 pl), .sl 148000 0 0 4], 0, 24, 0, false⟩), (148000, 0, some ⟨[.sl 148001 0 0 s0.give.length, .sl 148002 0 0 s0.take.length, .sl 148003 0 0 s1.give.length, .sl 148004 0 0 s1.take.length, .sl 148005 0 0 s2.give.length, .sl 148006 0 0 s2.take.length, .sl 148007 0 0 s3.give.length, .sl 148008 0 0 s3.take.length], 2, 55, 0, true⟩), (148001, 0, some (rowI r0)), (148002, 0, some (rowI s0.take)), (148003, 0, some (rowI r1)), (148004, 0, some (rowI s1.take)), (148005, 0, some (rowI s2.give)), (148006, 0, some (rowI s2.take)), (148007, 0, some (rowI s3.give)), (148008, 0, some (rowI s3.take))]⟩) (tl [(3, 3), (7, 7), (8, 8), (148000, 148000), (148001, 148001), (148002, 148002), (148003, 148003), (148004, 148004), (148005, 148005), (148006, 148006), (148007, 148007), (148008, 148008)]) ?_
                refine awp_seq ?_
                refine awp_seq ?_
                refine rg ?_
                refine qv m_mv ?_
                refine qv (m_fdp fd24_1) ?_
                first | refine qv (m_ldI sz22 ag22) ?_ | refine qv (m_ldp sz22 ag22) ?_
                first | refine qv (m_len il22) ?_ | refine qv (m_lenR il22) ?_ | refine qv (m_len0 il22) ?_
                refine qv m_lss ?_
                show AWp cx _ _ _
                refine cdT (hb := (by decide)) (ht := ?_)
                refine awp_skip ?_
                show AWp cx _ _ _
                refine awp_seq ?_
                refine awp_block ?_
                refine awp_seq ?_
                refine rg ?_
                refine qv m_as ?_
                show AWp cx _ _ _
                refine awp_block ?_
                refine awp_loop (ι := List Int × Nat) (fun s => ⟨lk [(3, .pt 3 0 0), (7, .pt 7 0 0), (8, .pt 8 0 0), (16, .dv (.bool (true))), (25, .dv (i64 ((2 : Nat) : Int))), (26, .dv (i64 (s.2 : Nat)))], mkM [(3, 0, some ⟨[.dv (i64 (pl)), .dv (.list ((([s0, s1, s2, s3] : List Stp)).map dStp))], 0, 24, 0, false⟩), (7, 0, some ⟨[.dv (i64 (pl)), .dv (.list ((([s0, s1, s2, s3] : List Stp)).map dStp))], 0, 24, 0, false⟩), (8, 0, some ⟨[.dv (i64 pl), .sl 148000 0 0 4], 0, 24, 0, false⟩), (148000, 0, some ⟨[.sl 148001 0 0 s0.give.length, .sl 148002 0 0 s0.take.length, .sl 148003 0 0 s1.give.length, .sl 148004 0 0 s1.take.length, .sl 148005 0 0 s2.give.length, .sl 148006 0 0 s2.take.length, .sl 148007 0 0 s3.give.length, .sl 148008 0 0 s3.take.length], 2, 55, 0, true⟩), (148001, 0, some (rowI r0)), (148002, 0, some (rowI s0.take)), (148003, 0, some (rowI r1)), (148004, 0, some (rowI s1.take)), (148005, 0, some (rowI s.1)), (148006, 0, some (rowI s2.take)), (148007, 0, some (rowI s3.give)), (148008, 0, some (rowI s3.take))]⟩) (fun s => s.1.length = s2.give.length ∧ s.2 ≤ s2.give.length) (fun s => s2.give.length - s.2) (s2.give, 0) ⟨rfl, by omega⟩ (tl [(3, 3), (7, 7), (8, 8), (148000, 148000), (148001, 148001), (148002, 148002), (148003, 148003), (148004, 148004), (148005, 148005), (148006, 148006), (148007, 148007), (148008, 148008)]) ?_
                intro ⟨r2, p⟩ hφ2
                dsimp only at hφ2 ⊢
                refine awp_seq ?_
                refine awp_seq ?_
                refine rg ?_
                refine qv m_mv ?_
                refine qv (m_fdp fd24_1) ?_
                first | refine qv (m_ldI sz22 ag22) ?_ | refine qv (m_ldp sz22 ag22) ?_
                refine qv m_mv ?_
                first | refine qv (m_ixN el22 sz55) ?_ | refine qv (m_ix el22 sz55) ?_ | refine qv (m_ixR el22 sz55) ?_
                first | refine qv (m_fd fd55_0) ?_ | refine qv (m_fdp fd55_0) ?_
                first | refine qv (m_ld sz25 ag25) ?_ | refine qv (m_ldp sz25 ag25) ?_
                first | refine qv (m_len il25) ?_ | refine qv (m_lenR il25) ?_ | refine qv (m_len0 il25) ?_
                refine qv m_lss ?_
                show AWp cx _ _ _
                refine cd (fun hc5 => ?_) (fun hc5 => ?_)
                · try simp at hc5
                  have hrr := hφ2.1
                  have hpl := hφ2.2
                  refine awp_skip ?_
                  show AWp cx _ _ _
                  refine awp_seq ?_
                  refine awp_block ?_
                  refine rg ?_
                  refine qv (m_fdp fd24_1) ?_
                  first | refine qv (m_ldI sz22 ag22) ?_ | refine qv (m_ldp sz22 ag22) ?_
                  refine qv m_mv ?_
                  first | refine qv (m_ixN el22 sz55) ?_ | refine qv (m_ix el22 sz55) ?_ | refine qv (m_ixR el22 sz55) ?_
                  first | refine qv (m_fd fd55_0) ?_ | refine qv (m_fdp fd55_0) ?_
                  first | refine qv (m_ld sz25 ag25) ?_ | refine qv (m_ldp sz25 ag25) ?_
                  refine qv m_mv ?_
                  first | refine qv (m_ixN el25 sz3) ?_ | refine qv (m_ix el25 sz3) ?_ | refine qv (m_ixR el25 sz3) ?_
                  refine qs (m_stI sz3) ?_
                  show AWp cx _ _ _
                  refine rg ?_
                  refine qv m_mv ?_
                  refine qv m_add ?_
                  refine qv m_as ?_
                  exact ⟨(r2.set p (-1), p + 1), ⟨by simp; omega, by simp only; omega⟩, (by simp only; omega), (tl [(3, 3), (7, 7), (8, 8), (148000, 148000), (148001, 148001), (148002, 148002), (148003, 148003), (148004, 148004), (148005, 148005), (148006, 148006), (148007, 148007), (148008, 148008)] (hF := by simp [FLe, svLe, lk, mkM, isLive, tauL, hφ2]) (hM := by simp [MLe, blkLe, svLe, svLes, lk, mkM, isLive, tauL, svLes_ints, svLes_self, isDvs, isDvs_map, isDvs_app, isDvs_take, isDvs_set, isDvs_repl, hφ2]))⟩
                · try simp at hc5
                  have hp2 := hφ2.1
                  refine awp_exit ?_
                  show AWp cx _ _ _
                  refine rg ?_
                  refine qv m_mv ?_
                  refine qv m_add ?_
                  refine qv m_as ?_
                  show ALoop cx _ _ _
                  refine ul_un (S0 := ⟨lk [(3, .pt 3 0 0), (7, .pt 7 0 0), (8, .pt 8 0 0), (16, .dv (.bool true)), (25, .dv (i64 ((3 : Nat) : Int)))], mkM [(3, 0, some ⟨[.dv (i64 pl), .dv (.list (([s0, s1, s2, s3] : List Stp).map dStp))], 0, 24, 0, false⟩), (7, 0, some ⟨[.dv (i64 pl), .dv (.list (([s0, s1, s2, s3] : List Stp).map dStp))], 0, 24, 0, false⟩), (8, 0, some ⟨[.dv (i64 pl), .sl 148000 0 0 4], 0, 24, 0, false⟩), (148000, 0, some ⟨[.sl 148001 0 0 s0.give.length, .sl 148002 0 0 s0.take.length, .sl 148003 0 0 s1.give.length, .sl 148004 0 0 s1.take.length, .sl 148005 0 0 s2.give.length, .sl 148006 0 0 s2.take.length, .sl 148007 0 0 s3.give.length, .sl 148008 0 0 s3.take.length], 2, 55, 0, true⟩), (148001, 0, some (rowI r0)), (148002, 0, some (rowI s0.take)), (148003, 0, some (rowI r1)), (148004, 0, some (rowI s1.take)), (148005, 0, some (rowI r2)), (148006, 0, some (rowI s2.take)), (148007, 0, some (rowI s3.give)), (148008, 0, some (rowI s3.take))]⟩) (tl [(3, 3), (7, 7), (8, 8), (148000, 148000), (148001, 148001), (148002, 148002), (148003, 148003), (148004, 148004), (148005, 148005), (148006, 148006), (148007, 148007), (148008, 148008)]) ?_
                  refine awp_seq ?_
                  refine awp_seq ?_
                  refine rg ?_
                  refine qv m_mv ?_
                  refine qv (m_fdp fd24_1) ?_
                  first | refine qv (m_ldI sz22 ag22) ?_ | refine qv (m_ldp sz22 ag22) ?_
                  first | refine qv (m_len il22) ?_ | refine qv (m_lenR il22) ?_ | refine qv (m_len0 il22) ?_
                  refine qv m_lss ?_
                  show AWp cx _ _ _
                  refine cdT (hb := (by decide)) (ht := ?_)
                  refine awp_skip ?_
                  show AWp cx _ _ _
                  refine awp_seq ?_
                  refine awp_block ?_
                  refine awp_seq ?_
                  refine rg ?_
                  refine qv m_as ?_
                  show AWp cx _ _ _
                  refine awp_block ?_
                  refine awp_loop (ι := List Int × Nat) (fun s => ⟨lk [(3, .pt 3 0 0), (7, .pt 7 0 0), (8, .pt 8 0 0), (16, .dv (.bool (true))), (25, .dv (i64 ((3 : Nat) : Int))), (26, .dv (i64 (s.2 : Nat)))], mkM [(3, 0, some ⟨[.dv (i64 (pl)), .dv (.list ((([s0, s1, s2, s3] : List Stp)).map dStp))], 0, 24, 0, false⟩), (7, 0, some ⟨[.dv (i64 (pl)), .dv (.list ((([s0, s1, s2, s3] : List Stp)).map dStp))], 0, 24, 0, false⟩), (8, 0, some ⟨[.dv (i64 pl), .sl 148000 0 0 4], 0, 24, 0, false⟩), (148000, 0, some ⟨[.sl 148001 0 0 s0.give.length, .sl 148002 0 0 s0.take.length, .sl 148003 0 0 s1.give.length, .sl 148004 0 0 s1.take.length, .sl 148005 0 0 s2.give.length, .sl 148006 0 0 s2.take.length, .sl 148007 0 0 s3.give.length, .sl 148008 0 0 s3.take.length], 2, 55, 0, true⟩), (148001, 0, some (rowI r0)), (148002, 0, some (rowI s0.take)), (148003, 0, some (rowI r1)), (148004, 0, some (rowI s1.take)), (148005, 0, some (rowI r2)), (148006, 0, some (rowI s2.take)), (148007, 0, some (rowI s.1)), (148008, 0, some (rowI s3.take))]⟩) (fun s => s.1.length = s3.give.length ∧ s.2 ≤ s3.give.length) (fun s => s3.give.length - s.2) (s3.give, 0) ⟨rfl, by omega⟩ (tl [(3, 3), (7, 7), (8, 8), (148000, 148000), (148001, 148001), (148002, 148002), (148003, 148003), (148004, 148004), (148005, 148005), (148006, 148006), (148007, 148007), (148008, 148008)]) ?_
                  intro ⟨r3, p⟩ hφ2
                  dsimp only at hφ2 ⊢
                  refine awp_seq ?_
                  refine awp_seq ?_
                  refine rg ?_
                  refine qv m_mv ?_
                  refine qv (m_fdp fd24_1) ?_
                  first | refine qv (m_ldI sz22 ag22) ?_ | refine qv (m_ldp sz22 ag22) ?_
                  refine qv m_mv ?_
                  first | refine qv (m_ixN el22 sz55) ?_ | refine qv (m_ix el22 sz55) ?_ | refine qv (m_ixR el22 sz55) ?_
                  first | refine qv (m_fd fd55_0) ?_ | refine qv (m_fdp fd55_0) ?_
                  first | refine qv (m_ld sz25 ag25) ?_ | refine qv (m_ldp sz25 ag25) ?_
                  first | refine qv (m_len il25) ?_ | refine qv (m_lenR il25) ?_ | refine qv (m_len0 il25) ?_
                  refine qv m_lss ?_
                  show AWp cx _ _ _
                  refine cd (fun hc5 => ?_) (fun hc5 => ?_)
                  · try simp at hc5
                    have hrr := hφ2.1
                    have hpl := hφ2.2
                    refine awp_skip ?_
                    show AWp cx _ _ _
                    refine awp_seq ?_
                    refine awp_block ?_
                    refine rg ?_
                    refine qv (m_fdp fd24_1) ?_
                    first | refine qv (m_ldI sz22 ag22) ?_ | refine qv (m_ldp sz22 ag22) ?_
                    refine qv m_mv ?_
                    first | refine qv (m_ixN el22 sz55) ?_ | refine qv (m_ix el22 sz55) ?_ | refine qv (m_ixR el22 sz55) ?_
                    first | refine qv (m_fd fd55_0) ?_ | refine qv (m_fdp fd55_0) ?_
                    first | refine qv (m_ld sz25 ag25) ?_ | refine qv (m_ldp sz25 ag25) ?_
                    refine qv m_mv ?_
                    first | refine qv (m_ixN el25 sz3) ?_ | refine qv (m_ix el25 sz3) ?_ | refine qv (m_ixR el25 sz3) ?_
                    refine qs (m_stI sz3) ?_
                    show AWp cx _ _ _
                    refine rg ?_
                    refine qv m_mv ?_
                    refine qv m_add ?_
                    refine qv m_as ?_
                    exact ⟨(r3.set p (-1), p + 1), ⟨by simp; omega, by simp only; omega⟩, (by simp only; omega), (tl [(3, 3), (7, 7), (8, 8), (148000, 148000), (148001, 148001), (148002, 148002), (148003, 148003), (148004, 148004), (148005, 148005), (148006, 148006), (148007, 148007), (148008, 148008)] (hF := by simp [FLe, svLe, lk, mkM, isLive, tauL, hφ2]) (hM := by simp [MLe, blkLe, svLe, svLes, lk, mkM, isLive, tauL, svLes_ints, svLes_self, isDvs, isDvs_map, isDvs_app, isDvs_take, isDvs_set, isDvs_repl, hφ2]))⟩
                  · try simp at hc5
                    have hp3 := hφ2.1
                    refine awp_exit ?_
                    show AWp cx _ _ _
                    refine rg ?_
                    refine qv m_mv ?_
                    refine qv m_add ?_
                    refine qv m_as ?_
                    show ALoop cx _ _ _
                    refine ul_un (S0 := ⟨lk [(3, .pt 3 0 0), (7, .pt 7 0 0), (8, .pt 8 0 0), (16, .dv (.bool true)), (25, .dv (i64 ((4 : Nat) : Int)))], mkM [(3, 0, some ⟨[.dv (i64 pl), .dv (.list (([s0, s1, s2, s3] : List Stp).map dStp))], 0, 24, 0, false⟩), (7, 0, some ⟨[.dv (i64 pl), .dv (.list (([s0, s1, s2, s3] : List Stp).map dStp))], 0, 24, 0, false⟩), (8, 0, some ⟨[.dv (i64 pl), .sl 148000 0 0 4], 0, 24, 0, false⟩), (148000, 0, some ⟨[.sl 148001 0 0 s0.give.length, .sl 148002 0 0 s0.take.length, .sl 148003 0 0 s1.give.length, .sl 148004 0 0 s1.take.length, .sl 148005 0 0 s2.give.length, .sl 148006 0 0 s2.take.length, .sl 148007 0 0 s3.give.length, .sl 148008 0 0 s3.take.length], 2, 55, 0, true⟩), (148001, 0, some (rowI r0)), (148002, 0, some (rowI s0.take)), (148003, 0, some (rowI r1)), (148004, 0, some (rowI s1.take)), (148005, 0, some (rowI r2)), (148006, 0, some (rowI s2.take)), (148007, 0, some (rowI r3)), (148008, 0, some (rowI s3.take))]⟩) (tl [(3, 3), (7, 7), (8, 8), (148000, 148000), (148001, 148001), (148002, 148002), (148003, 148003), (148004, 148004), (148005, 148005), (148006, 148006), (148007, 148007), (148008, 148008)]) ?_
                    refine awp_seq ?_
                    refine awp_seq ?_
                    refine rg ?_
                    refine qv m_mv ?_
                    refine qv (m_fdp fd24_1) ?_
                    first | refine qv (m_ldI sz22 ag22) ?_ | refine qv (m_ldp sz22 ag22) ?_
                    first | refine qv (m_len il22) ?_ | refine qv (m_lenR il22) ?_ | refine qv (m_len0 il22) ?_
                    refine qv m_lss ?_
                    show AWp cx _ _ _
                    refine cdF (hb := (by decide)) (ht := ?_)
                    refine awp_exit ?_
                    show AWp cx _ _ _
                    refine awp_seq ?_
                    refine rg ?_
                    refine qv m_mv ?_
                    refine qx m_mv (fun hg162 => ?_) (fun hg162 => ?_)
                    rotate_left
                    · exact absurd hg162 (by simp [])
                    refine qv (m_ldpa sz24 ag24) ?_
                    refine qv (m_ldpa sz24 ag24) ?_
                    refine qqF (f41 (⟨pl, [s0, s1, s2, s3]⟩ : Yd) (Shr.valid hv)) ?_
                    refine qv m_pk ?_
                    refine qx m_mv (fun hg167 => ?_) (fun hg167 => ?_)
                    rotate_left
                    · exact absurd hg167 (by simp [])
                    refine qqF (f18) ?_
                    refine qv m_pk ?_
                    refine qv m_as ?_
                    show AWp cx _ _ _
                    refine awp_ret ?_
                    exact x1 (hr := (rB_))
          · refine awp_seq ?_
            refine awp_seq ?_
            refine rg ?_
            refine qv m_mv ?_
            refine qv m_eql ?_
            show AWp cx _ _ _
            refine cd (fun hc2 => ?_) (fun hc2 => ?_)
            · skip
              have he : (runR (⟨pl, [s0, s1, s2, s3]⟩ : Yd) x.m l).2.2 = 0 := by simpa using hc2
              obtain ⟨z2, z3, z4⟩ := turn_run he
              refine awp_seq ?_
              refine rg ?_
              refine qv m_as ?_
              show AWp cx _ _ _
              refine awp_seq ?_
              refine awp_seq ?_
              refine rg ?_
              refine qv m_mv ?_
              refine qv (m_len il25) ?_
              refine qv m_sub ?_
              refine qv m_as ?_
              show AWp cx _ _ _
              refine awp_block ?_
              refine awp_loop (ι := Nat) (fun n => ⟨lk [(2, .dv (ints (l))), (3, .pt 3 0 0), (4, .pt 4 0 0), (7, .pt 7 0 0), (8, .pt 8 0 0), (16, .dv (.bool true)), (17, .sl 96 0 0 ((runR (⟨pl, [s0, s1, s2, s3]⟩ : Yd) x.m l).1).length), (20, .sl 20 0 0 ((l.length - n))), (21, .dv (i64 ((n : Int) - 1)))], mkM [(3, 0, some ⟨[.dv (i64 (((⟨pl, [s0, s1, s2, s3]⟩ : Yd)).places)), .dv (.list ((((⟨pl, [s0, s1, s2, s3]⟩ : Yd)).steps).map dStp))], 0, 24, 0, false⟩), (4, 0, some ⟨[.dv (ints (x.m)), .dv (ints (x.goal))], 0, 43, 0, false⟩), (7, 0, some ⟨[.dv (i64 (((⟨pl, [s0, s1, s2, s3]⟩ : Yd)).places)), .dv (.list ((((⟨pl, [s0, s1, s2, s3]⟩ : Yd)).steps).map dStp))], 0, 24, 0, false⟩), (8, 0, some ⟨[.dv (i64 pl), .sl 148000 0 0 4], 0, 24, 0, false⟩), (96, 0, some (rowI ((runR (⟨pl, [s0, s1, s2, s3]⟩ : Yd) x.m l).1))), (20, 0, some (rowI (rwT l n))), (148000, 0, some ⟨[.sl 148001 0 0 s0.give.length, .sl 148002 0 0 s0.take.length, .sl 148003 0 0 s1.give.length, .sl 148004 0 0 s1.take.length, .sl 148005 0 0 s2.give.length, .sl 148006 0 0 s2.take.length, .sl 148007 0 0 s3.give.length, .sl 148008 0 0 s3.take.length], 2, 55, 0, true⟩), (148001, 0, some (rowI s0.give)), (148002, 0, some (rowI s0.take)), (148003, 0, some (rowI s1.give)), (148004, 0, some (rowI s1.take)), (148005, 0, some (rowI s2.give)), (148006, 0, some (rowI s2.take)), (148007, 0, some (rowI s3.give)), (148008, 0, some (rowI s3.take))]⟩) (fun n => n ≤ l.length) (fun n => n) l.length (Nat.le_refl _) (tl [(3, 3), (4, 4), (7, 7), (8, 8), (96, 96), (148000, 148000), (148001, 148001), (148002, 148002), (148003, 148003), (148004, 148004), (148005, 148005), (148006, 148006), (148007, 148007), (148008, 148008)] (hF := by simp [FLe, svLe, lk, mkM, isLive, tauL, rwT_all, hts]) (hM := by simp [MLe, blkLe, svLe, svLes, lk, mkM, isLive, tauL, svLes_ints, svLes_self, isDvs, isDvs_map, isDvs_app, isDvs_take, isDvs_set, isDvs_repl, rwT_all, hts])) ?_
              intro n hφ0
              refine awp_seq ?_
              refine awp_seq ?_
              refine rg ?_
              refine qv m_mv ?_
              refine qv m_geq ?_
              show AWp cx _ _ _
              refine cd (fun hc3 => ?_) (fun hc3 => ?_)
              · skip
                have hn1 : 1 ≤ n := by have := of_decide_eq_true hc3; omega
                obtain ⟨k, rfl⟩ : ∃ k, n = k + 1 := ⟨n - 1, by omega⟩
                have hkl : k < l.length := by omega
                have hgk := sg_get hkl
                have hrt := rwT_next hkl
                have hln := rwT_len (l := l) (n := k + 1)
                have hrl : l.length - k = l.length - (k + 1) + 1 := by omega
                have ekk : ((k + 1 : Nat) : Int) - 1 = (k : Int) := by omega
                rw [ekk]
                refine awp_skip ?_
                show AWp cx _ _ _
                refine awp_seq ?_
                refine awp_block ?_
                refine rg ?_
                refine qv m_mv ?_
                refine qv m_mv ?_
                refine qv m_mv ?_
                first | refine qv (m_ixN el25 sz3) ?_ | refine qv (m_ix el25 sz3) ?_
                refine qv (m_ld sz3 ag3) ?_
                refine qr (m_bsl el25 ze3 sz3) ?_
                refine qa1 (m_app1 el25 el25 ze3 sz3 by3) ?_
                refine qv m_as ?_
                show AWp cx _ _ _
                refine rg ?_
                refine qv m_mv ?_
                refine qv m_sub ?_
                refine qv m_as ?_
                exact ⟨k, (by omega), (by show k < k + 1; omega), (tl [(3, 3), (4, 4), (7, 7), (8, 8), (96, 96), (20, 115), (148000, 148000), (148001, 148001), (148002, 148002), (148003, 148003), (148004, 148004), (148005, 148005), (148006, 148006), (148007, 148007), (148008, 148008)] (hF := by simp [FLe, svLe, lk, mkM, isLive, tauL, hrt, hrl]) (hM := by simp [MLe, blkLe, svLe, svLes, lk, mkM, isLive, tauL, svLes_ints, svLes_self, isDvs, isDvs_map, isDvs_app, isDvs_take, isDvs_set, isDvs_repl, hrt, hrl]))⟩
              · skip
                obtain rfl : n = 0 := by
                  have : ¬ 0 ≤ (n : Int) - 1 := by simpa using hc3
                  omega
                rw [rwT_nil]
                refine awp_exit ?_
                show AWp cx _ _ _
                refine awp_seq ?_
                refine rg ?_
                first | refine qv (m_ldI sz24 ag24) ?_ | refine qv (m_ldpa sz24 ag24) ?_
                refine qv m_mv ?_
                refine qv m_mv ?_
                refine qqF (f19 (turnY (⟨pl, [s0, s1, s2, s3]⟩ : Yd)) (runR (⟨pl, [s0, s1, s2, s3]⟩ : Yd) x.m l).1 l.reverse) ?_ (ha := (args_cons (data_agg (args_cons data_dv (args_cons (data_cells (blk := ⟨[.sl 148001 0 0 s0.give.length, .sl 148002 0 0 s0.take.length, .sl 148003 0 0 s1.give.length, .sl 148004 0 0 s1.take.length, .sl 148005 0 0 s2.give.length, .sl 148006 0 0 s2.take.length, .sl 148007 0 0 s3.give.length, .sl 148008 0 0 s3.take.length], 2, 55, 0, true⟩) (l := [dStp (turnS s0), dStp (turnS s1), dStp (turnS s2), dStp (turnS s3)]) (by simp only [mkM, reduceIte, Nat.reduceEqDiff] <;> rfl) trivial rfl (by simp [DV.cells]) (args_cons (data_ints (L := s0.give) (by simp only [mkM, reduceIte, Nat.reduceEqDiff] <;> rfl) trivial (by first | rfl | omega | (simp; done) | (simp; omega)) rfl rfl (fun _ => trivial)) (args_cons (data_ints (L := s0.take) (by simp only [mkM, reduceIte, Nat.reduceEqDiff] <;> rfl) trivial (by first | rfl | omega | (simp; done) | (simp; omega)) rfl rfl (fun _ => trivial)) (args_cons (data_ints (L := s1.give) (by simp only [mkM, reduceIte, Nat.reduceEqDiff] <;> rfl) trivial (by first | rfl | omega | (simp; done) | (simp; omega)) rfl rfl (fun _ => trivial)) (args_cons (data_ints (L := s1.take) (by simp only [mkM, reduceIte, Nat.reduceEqDiff] <;> rfl) trivial (by first | rfl | omega | (simp; done) | (simp; omega)) rfl rfl (fun _ => trivial)) (args_cons (data_ints (L := s2.give) (by simp only [mkM, reduceIte, Nat.reduceEqDiff] <;> rfl) trivial (by first | rfl | omega | (simp; done) | (simp; omega)) rfl rfl (fun _ => trivial)) (args_cons (data_ints (L := s2.take) (by simp only [mkM, reduceIte, Nat.reduceEqDiff] <;> rfl) trivial (by first | rfl | omega | (simp; done) | (simp; omega)) rfl rfl (fun _ => trivial)) (args_cons (data_ints (L := s3.give) (by simp only [mkM, reduceIte, Nat.reduceEqDiff] <;> rfl) trivial (by first | rfl | omega | (simp; done) | (simp; omega)) rfl rfl (fun _ => trivial)) (args_cons (data_ints (L := s3.take) (by simp only [mkM, reduceIte, Nat.reduceEqDiff] <;> rfl) trivial (by first | rfl | omega | (simp; done) | (simp; omega)) rfl rfl (fun _ => trivial)) args_nil))))))))) args_nil))) (args_cons (data_ints (L := (runR (⟨pl, [s0, s1, s2, s3]⟩ : Yd) x.m l).1) (by simp only [mkM, reduceIte, Nat.reduceEqDiff] <;> rfl) trivial (by first | rfl | omega | (simp; done) | (simp; omega)) rfl rfl (fun _ => trivial)) (args_cons (data_ints (L := l.reverse) (by simp only [mkM, reduceIte, Nat.reduceEqDiff] <;> rfl) trivial (by first | rfl | omega | (simp; done) | (simp; omega)) rfl rfl (fun _ => trivial)) args_nil))))
                refine qv m_mv ?_
                refine qv m_ext ?_
                refine qv m_ext ?_
                refine qv m_ext ?_
                refine qv m_as ?_
                refine qv m_as ?_
                refine qv m_as ?_
                show AWp cx _ _ _
                refine rg ?_
                refine qv m_mv ?_
                refine qx m_mv (fun hg125 => ?_) (fun hg125 => ?_)
                rotate_left
                · exact absurd hg125 (by simp [hts])
                refine qv m_mv ?_
                refine qv m_eql ?_
                refine qv m_pk ?_
                refine qx m_mv (fun hg129 => ?_) (fun hg129 => ?_)
                rotate_left
                · exact absurd hg129 (by simp [z2])
                refine qv m_mv ?_
                refine qv (m_fdp fd43_0) ?_
                refine qv (m_ldp sz25 ag25) ?_
                refine qqF (f21 (runR (turnY (⟨pl, [s0, s1, s2, s3]⟩ : Yd)) (runR (⟨pl, [s0, s1, s2, s3]⟩ : Yd) x.m l).1 l.reverse).1 x.m (by rw [z3]; omega)) ?_ (ha := (args_cons (data_ints (L := (runR (turnY (⟨pl, [s0, s1, s2, s3]⟩ : Yd)) (runR (⟨pl, [s0, s1, s2, s3]⟩ : Yd) x.m l).1 l.reverse).1) (by simp only [mkM, reduceIte, Nat.reduceEqDiff] <;> rfl) trivial (by first | rfl | omega | (simp; done) | (simp; omega)) rfl rfl (fun _ => trivial)) (args_cons data_dv args_nil)))
                refine qv m_pk ?_
                refine qv m_as ?_
                exact hJ100 _ (tl [(3, 3), (7, 7), (8, 8), (148000, 148000), (148001, 148001), (148002, 148002), (148003, 148003), (148004, 148004), (148005, 148005), (148006, 148006), (148007, 148007), (148008, 148008)] (hF := by simp [FLe, svLe, lk, mkM, isLive, tauL, hts, z3]) (hM := by simp [MLe, blkLe, svLe, svLes, lk, mkM, isLive, tauL, svLes_ints, svLes_self, isDvs, isDvs_map, isDvs_app, isDvs_take, isDvs_set, isDvs_repl, hts, z3]))
            · skip
              have z3 : (0 : Int) + 0 = 0 := rfl
              refine awp_skip ?_
              exact hJ100 _ (tl [(3, 3), (7, 7), (8, 8), (148000, 148000), (148001, 148001), (148002, 148002), (148003, 148003), (148004, 148004), (148005, 148005), (148006, 148006), (148007, 148007), (148008, 148008)] (hF := by simp [FLe, svLe, lk, mkM, isLive, tauL, hts, z3]) (hM := by simp [MLe, blkLe, svLe, svLes, lk, mkM, isLive, tauL, svLes_ints, svLes_self, isDvs, isDvs_map, isDvs_app, isDvs_take, isDvs_set, isDvs_repl, hts, z3]))
end Go.Ab.Try
