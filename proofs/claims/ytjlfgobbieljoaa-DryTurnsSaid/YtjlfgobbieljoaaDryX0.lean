/- The functions of the dry laws, part X0. The walks are written by wip/gen/gw.py. -/
import Derived.Test.YtjlfgobbieljoaaDry30
import Derived.Test.YtjlfgobbieljoaaAb46
import Derived.Test.YtjlfgobbieljoaaDryT
set_option linter.all false
namespace Go.Ab.Try
open Go Go.Ab Go.Proofs
set_option maxHeartbeats 4000000 in
theorem f39_0 (pl : Int) (hv : VYd (⟨pl, []⟩ : Yd)) : ACallsG Try.prog 39 [.dv (dYd (⟨pl, []⟩ : Yd))] (mkB []) ⟨[.agg [.dv (i64 pl), .nils], .dv (i64 0)], mkB []⟩ := by
  have hv0 : validate (⟨pl, []⟩ : Yd) = 0 := hv
  have h6 := turn_len6 hv
  refine callsG_of Try.func39 rfl rfl (by rw [Try.ntmps39]; simp) fun cx hP hn hg => ?_
  rw [Try.ntmps39] at hn
  refine startG ?_
  refine awp_seq ?_
  refine rg ?_
  refine qp m_box ?_
  refine qp (m_al ze24) ?_
  refine qv m_as ?_
  show AWp cx _ _ _
  refine awp_seq ?_
  refine awp_seq ?_
  refine rg ?_
  refine qv (m_ldpa sz24 ag24) ?_
  refine qqF (f28 (⟨pl, []⟩ : Yd)) ?_
  refine qv m_as ?_
  show AWp cx _ _ _
  refine awp_seq ?_
  refine rg ?_
  refine qv m_mv ?_
  refine qv m_neq ?_
  show AWp cx _ _ _
  refine cdF (hb := by simp [hv0]) (ht := ?_)
  refine awp_skip ?_
  show AWp cx _ _ _
  refine awp_seq ?_
  refine rg ?_
  refine qv (m_fdp fd24_0) ?_
  refine qv (m_ldp sz3 ag3) ?_
  refine qv (m_bld pl24 ze24) ?_
  refine qp (m_al ze24) ?_
  refine qs (m_st sz24) ?_
  show AWp cx _ _ _
  refine awp_seq ?_
  refine awp_seq ?_
  refine rg ?_
  refine qv (m_fdp fd24_1) ?_
  refine qv (m_ldp sz22 ag22) ?_
  refine qv (m_len (L := ([] : List Stp)) (F := dStp) il22) ?_
  refine qv m_mv ?_
  show AWp cx _ _ _
  refine awp_block ?_
  refine awp_ul ?_
  refine ul_un (S0 := ⟨lk [(2, .pt 2 0 0), (5, .pt 5 0 0), (18, .dv (.list (([] : List Stp).map dStp))), (19, .dv (i64 ((0 : Nat) : Int))), (20, .dv (i64 ((0 : Nat) : Int)))], mkM [(1, 0, some ⟨[.dv (i64 pl), .dv (.list (([] : List Stp).map dStp))], 0, 24, 0, false⟩), (2, 0, some ⟨[.dv (i64 0), .nils], 0, 24, 0, false⟩), (5, 0, some ⟨[.dv (i64 pl), .nils], 0, 24, 0, false⟩)]⟩) (tl [(1, 1), (2, 2), (5, 5)]) ?_
  refine awp_seq ?_
  refine rg ?_
  refine qv m_lss ?_
  show AWp cx _ _ _
  refine awp_seq ?_
  refine cdF (hb := (by decide)) (ht := ?_)
  refine awp_exit ?_
  show AWp cx _ _ _
  refine awp_seq ?_
  refine rg ?_
  first | refine qv (m_ldI sz24 ag24) ?_ | refine qv (m_ldpa sz24 ag24) ?_
  first | refine qs (m_stI sz24) ?_ | refine qs (m_st sz24) ?_
  refine qv m_as ?_
  show AWp cx _ _ _
  refine awp_ret ?_
  exact xg [] (rv := [.cell 2 24, .tmp 3]) (ss := [.agg [.dv (i64 pl), .nils], .dv (i64 0)]) (hs := by simp only [resSV, loadSV, St.look, St.ev, lk, mkM, blkOf, svOf, svOfCell, reduceIte, Nat.reduceAdd, Nat.reduceEqDiff, Nat.reduceMul, sz24, ag24]; rfl)
set_option maxHeartbeats 8000000 in
theorem f10_0 (pl : Int) (hv : VYd (⟨pl, []⟩ : Yd)) (x : Pr) (l : List Int) : ACallsF Try.prog 10 [dYd (⟨pl, []⟩ : Yd), dPr x, ints l] (.one (.dv (.bool true))) := by
  have h6 := turn_len6 hv
  have hts := turn_sets hv x.goal
  refine callsF_of Try.func10 rfl rfl (by rw [Try.ntmps10]; simp) fun cx hP hn hg => ?_
  rw [Try.ntmps10] at hn
  rw [startF_lk, none_mkM]
  simp only [List.nil_append, List.append_nil, List.cons_append, zipSV, Nat.reduceAdd]
  refine awp_seq ?_
  refine rg ?_
  refine qp m_box ?_
  refine qp m_box ?_
  refine qv m_as ?_
  show AWp cx _ _ _
  refine awp_seq ?_
  refine awp_seq ?_
  refine rg ?_
  refine qv (m_ldpa sz24 ag24) ?_
  refine qqF (f16 (⟨pl, []⟩ : Yd)) ?_
  refine qx m_mv (fun hg29 => ?_) (fun hg29 => ?_)
  · try simp at hg29
    refine qk ?_
    refine qk ?_
    refine qk ?_
    refine qv m_pk ?_
    refine qv m_mv ?_
    refine qk ?_
    refine qk ?_
    refine qk ?_
    refine qv m_pk ?_
    refine qv m_mv ?_
    refine qk ?_
    refine qk ?_
    refine qv m_pk ?_
    show AWp cx _ _ _
    refine cdT (hb := by first | rfl | simp | simp_all) (ht := ?_)
    refine awp_seq ?_
    refine rg ?_
    refine qqF (f18) ?_
    refine qv m_as ?_
    show AWp cx _ _ _
    refine awp_ret ?_
    exact x1 (hr := (rB_))
  · try simp at hg29
    refine qv (m_fdp fd43_0) ?_
    refine qv (m_ldp sz25 ag25) ?_
    refine qqF (f17 x.m) ?_
    refine qv m_pk ?_
    refine qx m_mv (fun hg34 => ?_) (fun hg34 => ?_)
    · try simp at hg34
      refine qk ?_
      refine qk ?_
      refine qk ?_
      refine qv m_pk ?_
      refine qv m_mv ?_
      refine qk ?_
      refine qk ?_
      refine qv m_pk ?_
      show AWp cx _ _ _
      refine cdT (hb := by first | rfl | simp | simp_all) (ht := ?_)
      refine awp_seq ?_
      refine rg ?_
      refine qqF (f18) ?_
      refine qv m_as ?_
      show AWp cx _ _ _
      refine awp_ret ?_
      exact x1 (hr := (rB_))
    · try simp at hg34
      refine qv (m_fdp fd43_1) ?_
      refine qv (m_ldp sz25 ag25) ?_
      refine qqF (f17 x.goal) ?_
      refine qv m_pk ?_
      refine qx m_mv (fun hg39 => ?_) (fun hg39 => ?_)
      · try simp at hg39
        refine qk ?_
        refine qk ?_
        refine qv m_pk ?_
        show AWp cx _ _ _
        refine cdT (hb := by first | rfl | simp | simp_all) (ht := ?_)
        refine awp_seq ?_
        refine rg ?_
        refine qqF (f18) ?_
        refine qv m_as ?_
        show AWp cx _ _ _
        refine awp_ret ?_
        exact x1 (hr := (rB_))
      · try simp at hg39
        refine qv m_mv ?_
        refine qqF (f17 l) ?_
        refine qv m_pk ?_
        show AWp cx _ _ _
        refine cd (fun hc0 => ?_) (fun hc0 => ?_)
        · skip
          refine awp_seq ?_
          refine rg ?_
          refine qqF (f18) ?_
          refine qv m_as ?_
          show AWp cx _ _ _
          refine awp_ret ?_
          exact x1 (hr := (rB_))
        · skip
          have hl100 : l.length ≤ 100 := by have := of_decide_eq_false hc0; omega
          refine awp_skip ?_
          show AWp cx _ _ _
          refine awp_seq ?_
          refine rg ?_
          refine qv (m_ldpa sz24 ag24) ?_
          refine qqA (f38 (⟨pl, []⟩ : Yd) (Shr.valid hv)) ?_
          refine qp (m_al ze24) ?_
          refine qs (m_st sz24) ?_
          show AWp cx _ _ _
          refine awp_seq ?_
          refine rg ?_
          refine qv (m_ldpa sz24 ag24) ?_
          refine qqG (f39_0 pl  hv) [] [] [] ?_
          refine qv m_mv ?_
          refine qv m_ext ?_
          refine qv m_ext ?_
          refine qp (m_al ze24) ?_
          refine qs (m_st sz24) ?_
          refine qv m_as ?_
          show AWp cx _ _ _
          refine awp_seq ?_
          refine AWp.le (tl [(3, 3), (4, 4), (7, 7), (8, 8)] (l := [(2, .dv (ints (l))), (3, .pt 3 0 0), (4, .pt 4 0 0), (7, .pt 7 0 0), (8, .pt 8 0 0), (9, .dv (i64 (0)))]) (m := [(3, 0, some ⟨[.dv (i64 (((⟨pl, []⟩ : Yd)).places)), .dv (.list ((((⟨pl, []⟩ : Yd)).steps).map dStp))], 0, 24, 0, false⟩), (4, 0, some ⟨[.dv (ints (x.m)), .dv (ints (x.goal))], 0, 43, 0, false⟩), (7, 0, some ⟨[.dv (i64 (((⟨pl, []⟩ : Yd)).places)), .dv (.list ((((⟨pl, []⟩ : Yd)).steps).map dStp))], 0, 24, 0, false⟩), (8, 0, some ⟨[.dv (i64 pl), .nils], 0, 24, 0, false⟩)])) ?_
          refine rg ?_
          refine qv (m_ldpa sz24 ag24) ?_
          refine qqA (f40v (⟨pl, []⟩ : Yd) hv) ?_
          refine qv m_mv ?_
          refine qv m_ext ?_
          refine qv m_ext ?_
          refine qp (m_al ze24) ?_
          refine qs (m_st sz24) ?_
          refine qv m_as ?_
          show AWp cx _ _ _
          refine awp_seq ?_
          refine awp_seq ?_
          refine rg ?_
          first | refine qv (m_ldI sz24 ag24) ?_ | refine qv (m_ldpa sz24 ag24) ?_
          refine qv (m_ldpa sz24 ag24) ?_
          refine qqF (f41 (turnY (⟨pl, []⟩ : Yd)) (Shr.valid (turn_valid hv))) ?_ (ha := (args_cons (data_agg (args_cons data_dv (args_cons .nils args_nil))) (args_cons data_dv args_nil)))
          refine qv m_not ?_
          refine qx m_mv (fun hg60 => ?_) (fun hg60 => ?_)
          · exact absurd hg60 (by simp [])
          refine qv m_mv ?_
          refine qv m_mv ?_
          refine qv m_neq ?_
          refine qv m_pk ?_
          show AWp cx _ _ _
          refine cdF (hb := by simp) (ht := ?_)
          refine awp_skip ?_
          show AWp cx _ _ _
          refine awp_seq ?_
          refine rg ?_
          refine qv (m_ldpa sz24 ag24) ?_
          refine qv (m_fdp fd43_1) ?_
          refine qv (m_ldp sz25 ag25) ?_
          refine qqF (f42 (⟨pl, []⟩ : Yd) x.goal) ?_
          refine qv m_mv ?_
          refine qv m_ext ?_
          refine qv m_ext ?_
          refine qv m_as ?_
          refine qv m_as ?_
          show AWp cx _ _ _
          refine awp_seq ?_
          refine rg ?_
          first | refine qv (m_ldI sz24 ag24) ?_ | refine qv (m_ldpa sz24 ag24) ?_
          refine qv (m_fdp fd43_1) ?_
          refine qv (m_ldp sz25 ag25) ?_
          refine qqF (f43 (turnY (⟨pl, []⟩ : Yd)) x.goal) ?_ (ha := (args_cons (data_agg (args_cons data_dv (args_cons .nils args_nil))) (args_cons data_dv args_nil)))
          refine qv m_mv ?_
          refine qv m_ext ?_
          refine qv m_ext ?_
          refine qv m_as ?_
          refine qv m_as ?_
          show AWp cx _ _ _
          refine awp_seq ?_
          refine rg ?_
          refine qv m_mv ?_
          refine qv m_neq ?_
          refine qx m_mv (fun hg81 => ?_) (fun hg81 => ?_)
          · exact absurd hg81 (by simp [])
          refine qv m_mv ?_
          refine qv m_mv ?_
          refine qv m_eql ?_
          refine qx m_mv (fun hg85 => ?_) (fun hg85 => ?_)
          rotate_left
          · exact absurd hg85 (by simp [hts])
          refine qv m_mv ?_
          refine qv m_mv ?_
          refine qv (m_beq ib4) ?_
          refine qv m_pk ?_
          refine qv m_pk ?_
          refine qv m_as ?_
          show AWp cx _ _ _
          refine awp_seq ?_
          refine rg ?_
          refine qv (m_ldpa sz24 ag24) ?_
          refine qv (m_fdp fd43_0) ?_
          refine qv (m_ldp sz25 ag25) ?_
          refine qv m_mv ?_
          refine qqF (f19 (⟨pl, []⟩ : Yd) x.m l) ?_
          refine qv m_mv ?_
          refine qv m_ext ?_
          refine qv m_ext ?_
          refine qv m_ext ?_
          refine qv m_as ?_
          refine qv m_as ?_
          refine qv m_as ?_
          show AWp cx _ _ _
          refine awp_join (⟨lk [(3, .pt 3 0 0), (7, .pt 7 0 0), (8, .pt 8 0 0), (16, .dv (.bool (true)))], mkM [(3, 0, some ⟨[.dv (i64 (((⟨pl, []⟩ : Yd)).places)), .dv (.list ((((⟨pl, []⟩ : Yd)).steps).map dStp))], 0, 24, 0, false⟩), (7, 0, some ⟨[.dv (i64 (((⟨pl, []⟩ : Yd)).places)), .dv (.list ((((⟨pl, []⟩ : Yd)).steps).map dStp))], 0, 24, 0, false⟩), (8, 0, some ⟨[.dv (i64 pl), .nils], 0, 24, 0, false⟩)]⟩ : St) ?_ (fun hJ100 => ?_)
          · show AWp cx _ _ _
            refine awp_seq ?_
            refine awp_seq ?_
            refine rg ?_
            refine qv m_as ?_
            show AWp cx _ _ _
            refine awp_block ?_
            refine awp_ul ?_
            refine ul_un (S0 := ⟨lk [(3, .pt 3 0 0), (7, .pt 7 0 0), (8, .pt 8 0 0), (16, .dv (.bool true)), (25, .dv (i64 ((0 : Nat) : Int)))], mkM [(3, 0, some ⟨[.dv (i64 pl), .dv (.list (([] : List Stp).map dStp))], 0, 24, 0, false⟩), (7, 0, some ⟨[.dv (i64 pl), .dv (.list (([] : List Stp).map dStp))], 0, 24, 0, false⟩), (8, 0, some ⟨[.dv (i64 pl), .nils], 0, 24, 0, false⟩)]⟩) (tl [(3, 3), (7, 7), (8, 8)]) ?_
            refine awp_seq ?_
            refine awp_seq ?_
            refine rg ?_
            refine qv m_mv ?_
            refine qv (m_fdp fd24_1) ?_
            first | refine qv (m_ldI sz22 ag22) ?_ | refine qv (m_ldp sz22 ag22) ?_
            first | refine qv (m_len il22) ?_ | refine qv (m_lenR il22) ?_ | refine qv (m_len0 il22) ?_
            refine qv m_lss ?_
            show AWp cx _ _ _
            refine cdF (hb := (by decide)) (ht := ?_)
            refine awp_exit ?_
            show AWp cx _ _ _
            refine awp_seq ?_
            refine rg ?_
            refine qv m_mv ?_
            refine qx m_mv (fun hg162 => ?_) (fun hg162 => ?_)
            rotate_left
            · exact absurd hg162 (by simp [])
            refine qv (m_ldpa sz24 ag24) ?_
            refine qv (m_ldpa sz24 ag24) ?_
            refine qqF (f41 (⟨pl, []⟩ : Yd) (Shr.valid hv)) ?_
            refine qv m_pk ?_
            refine qx m_mv (fun hg167 => ?_) (fun hg167 => ?_)
            rotate_left
            · exact absurd hg167 (by simp [])
            refine qqF (f18) ?_
            refine qv m_pk ?_
            refine qv m_as ?_
            show AWp cx _ _ _
            refine awp_ret ?_
            exact x1 (hr := (rB_))
          · refine awp_seq ?_
            refine awp_seq ?_
            refine rg ?_
            refine qv m_mv ?_
            refine qv m_eql ?_
            show AWp cx _ _ _
            refine cd (fun hc2 => ?_) (fun hc2 => ?_)
            · skip
              have he : (runR (⟨pl, []⟩ : Yd) x.m l).2.2 = 0 := by simpa using hc2
              obtain ⟨z2, z3, z4⟩ := turn_run he
              refine awp_seq ?_
              refine rg ?_
              refine qv m_as ?_
              show AWp cx _ _ _
              refine awp_seq ?_
              refine awp_seq ?_
              refine rg ?_
              refine qv m_mv ?_
              refine qv (m_len il25) ?_
              refine qv m_sub ?_
              refine qv m_as ?_
              show AWp cx _ _ _
              refine awp_block ?_
              refine awp_loop (ι := Nat) (fun n => ⟨lk [(2, .dv (ints (l))), (3, .pt 3 0 0), (4, .pt 4 0 0), (7, .pt 7 0 0), (8, .pt 8 0 0), (16, .dv (.bool true)), (17, .sl 96 0 0 ((runR (⟨pl, []⟩ : Yd) x.m l).1).length), (20, .sl 20 0 0 ((l.length - n))), (21, .dv (i64 ((n : Int) - 1)))], mkM [(3, 0, some ⟨[.dv (i64 (((⟨pl, []⟩ : Yd)).places)), .dv (.list ((((⟨pl, []⟩ : Yd)).steps).map dStp))], 0, 24, 0, false⟩), (4, 0, some ⟨[.dv (ints (x.m)), .dv (ints (x.goal))], 0, 43, 0, false⟩), (7, 0, some ⟨[.dv (i64 (((⟨pl, []⟩ : Yd)).places)), .dv (.list ((((⟨pl, []⟩ : Yd)).steps).map dStp))], 0, 24, 0, false⟩), (8, 0, some ⟨[.dv (i64 pl), .nils], 0, 24, 0, false⟩), (96, 0, some (rowI ((runR (⟨pl, []⟩ : Yd) x.m l).1))), (20, 0, some (rowI (rwT l n)))]⟩) (fun n => n ≤ l.length) (fun n => n) l.length (Nat.le_refl _) (tl [(3, 3), (4, 4), (7, 7), (8, 8), (96, 96)] (hF := by simp [FLe, svLe, lk, mkM, isLive, tauL, rwT_all, hts]) (hM := by simp [MLe, blkLe, svLe, svLes, lk, mkM, isLive, tauL, svLes_ints, svLes_self, isDvs, isDvs_map, isDvs_app, isDvs_take, isDvs_set, isDvs_repl, rwT_all, hts])) ?_
              intro n hφ0
              refine awp_seq ?_
              refine awp_seq ?_
              refine rg ?_
              refine qv m_mv ?_
              refine qv m_geq ?_
              show AWp cx _ _ _
              refine cd (fun hc3 => ?_) (fun hc3 => ?_)
              · skip
                have hn1 : 1 ≤ n := by have := of_decide_eq_true hc3; omega
                obtain ⟨k, rfl⟩ : ∃ k, n = k + 1 := ⟨n - 1, by omega⟩
                have hkl : k < l.length := by omega
                have hgk := sg_get hkl
                have hrt := rwT_next hkl
                have hln := rwT_len (l := l) (n := k + 1)
                have hrl : l.length - k = l.length - (k + 1) + 1 := by omega
                have ekk : ((k + 1 : Nat) : Int) - 1 = (k : Int) := by omega
                rw [ekk]
                refine awp_skip ?_
                show AWp cx _ _ _
                refine awp_seq ?_
                refine awp_block ?_
                refine rg ?_
                refine qv m_mv ?_
                refine qv m_mv ?_
                refine qv m_mv ?_
                first | refine qv (m_ixN el25 sz3) ?_ | refine qv (m_ix el25 sz3) ?_
                refine qv (m_ld sz3 ag3) ?_
                refine qr (m_bsl el25 ze3 sz3) ?_
                refine qa1 (m_app1 el25 el25 ze3 sz3 by3) ?_
                refine qv m_as ?_
                show AWp cx _ _ _
                refine rg ?_
                refine qv m_mv ?_
                refine qv m_sub ?_
                refine qv m_as ?_
                exact ⟨k, (by omega), (by show k < k + 1; omega), (tl [(3, 3), (4, 4), (7, 7), (8, 8), (96, 96), (20, 115)] (hF := by simp [FLe, svLe, lk, mkM, isLive, tauL, hrt, hrl]) (hM := by simp [MLe, blkLe, svLe, svLes, lk, mkM, isLive, tauL, svLes_ints, svLes_self, isDvs, isDvs_map, isDvs_app, isDvs_take, isDvs_set, isDvs_repl, hrt, hrl]))⟩
              · skip
                obtain rfl : n = 0 := by
                  have : ¬ 0 ≤ (n : Int) - 1 := by simpa using hc3
                  omega
                rw [rwT_nil]
                refine awp_exit ?_
                show AWp cx _ _ _
                refine awp_seq ?_
                refine rg ?_
                first | refine qv (m_ldI sz24 ag24) ?_ | refine qv (m_ldpa sz24 ag24) ?_
                refine qv m_mv ?_
                refine qv m_mv ?_
                refine qqF (f19 (turnY (⟨pl, []⟩ : Yd)) (runR (⟨pl, []⟩ : Yd) x.m l).1 l.reverse) ?_ (ha := (args_cons (data_agg (args_cons data_dv (args_cons .nils args_nil))) (args_cons (data_ints (L := (runR (⟨pl, []⟩ : Yd) x.m l).1) (by simp only [mkM, reduceIte, Nat.reduceEqDiff] <;> rfl) trivial (by first | rfl | omega | (simp; done) | (simp; omega)) rfl rfl (fun _ => trivial)) (args_cons (data_ints (L := l.reverse) (by simp only [mkM, reduceIte, Nat.reduceEqDiff] <;> rfl) trivial (by first | rfl | omega | (simp; done) | (simp; omega)) rfl rfl (fun _ => trivial)) args_nil))))
                refine qv m_mv ?_
                refine qv m_ext ?_
                refine qv m_ext ?_
                refine qv m_ext ?_
                refine qv m_as ?_
                refine qv m_as ?_
                refine qv m_as ?_
                show AWp cx _ _ _
                refine rg ?_
                refine qv m_mv ?_
                refine qx m_mv (fun hg125 => ?_) (fun hg125 => ?_)
                rotate_left
                · exact absurd hg125 (by simp [hts])
                refine qv m_mv ?_
                refine qv m_eql ?_
                refine qv m_pk ?_
                refine qx m_mv (fun hg129 => ?_) (fun hg129 => ?_)
                rotate_left
                · exact absurd hg129 (by simp [z2])
                refine qv m_mv ?_
                refine qv (m_fdp fd43_0) ?_
                refine qv (m_ldp sz25 ag25) ?_
                refine qqF (f21 (runR (turnY (⟨pl, []⟩ : Yd)) (runR (⟨pl, []⟩ : Yd) x.m l).1 l.reverse).1 x.m (by rw [z3]; omega)) ?_ (ha := (args_cons (data_ints (L := (runR (turnY (⟨pl, []⟩ : Yd)) (runR (⟨pl, []⟩ : Yd) x.m l).1 l.reverse).1) (by simp only [mkM, reduceIte, Nat.reduceEqDiff] <;> rfl) trivial (by first | rfl | omega | (simp; done) | (simp; omega)) rfl rfl (fun _ => trivial)) (args_cons data_dv args_nil)))
                refine qv m_pk ?_
                refine qv m_as ?_
                exact hJ100 _ (tl [(3, 3), (7, 7), (8, 8)] (hF := by simp [FLe, svLe, lk, mkM, isLive, tauL, hts, z3]) (hM := by simp [MLe, blkLe, svLe, svLes, lk, mkM, isLive, tauL, svLes_ints, svLes_self, isDvs, isDvs_map, isDvs_app, isDvs_take, isDvs_set, isDvs_repl, hts, z3]))
            · skip
              have z3 : (0 : Int) + 0 = 0 := rfl
              refine awp_skip ?_
              exact hJ100 _ (tl [(3, 3), (7, 7), (8, 8)] (hF := by simp [FLe, svLe, lk, mkM, isLive, tauL, hts, z3]) (hM := by simp [MLe, blkLe, svLe, svLes, lk, mkM, isLive, tauL, svLes_ints, svLes_self, isDvs, isDvs_map, isDvs_app, isDvs_take, isDvs_set, isDvs_repl, hts, z3]))
end Go.Ab.Try
