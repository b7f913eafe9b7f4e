/- The functions of the dry laws, part 26. The walks are written by wip/gen/gw.py. -/
import Derived.Test.YtjlfgobbieljoaaDry25
import Derived.Test.YtjlfgobbieljoaaDryD
import Derived.Test.YtjlfgobbieljoaaDryT
set_option linter.all false
namespace Go.Ab.Try
open Go Go.Ab Go.Proofs
theorem ordR_len {y : Yd} {m c : List Int} : (ordR y m c).1.length < 1000000 := by
  unfold ordR
  split
  · simp
  · split
    · simp
    · split
      · simp
      · rename_i h1 h2 h3
        have h1' : allIn c y.steps.length 0 40 = true := by simpa using h2
        have := ordF_len (y := y) 8 m c fun x hx => (allIn_mem h1' x hx).1
        dsimp only; omega
set_option maxHeartbeats 4000000 in
theorem f44 (y : Yd) (m c : List Int) (hy : y.steps.length < 1000000) : ACalls Try.prog 44 [dYd y, ints m, ints c] (.many [.dv (ints (ordR y m c).1), .dv (.bool (ordR y m c).2.1), .dv (i64 (ordR y m c).2.2)]) := by
  refine callsA_of Try.func44 rfl rfl (by rw [Try.ntmps44]; simp) fun cx hP hn hg => ?_
  rw [Try.ntmps44] at hn
  rw [startF_lk, none_mkM]
  simp only [List.nil_append, List.append_nil, List.cons_append, zipSV, Nat.reduceAdd]
  refine awp_seq ?_
  refine rg ?_
  refine qp m_box ?_
  refine qv m_as ?_
  refine qv m_as ?_
  refine qv m_as ?_
  show AWp cx _ _ _
  refine awp_seq ?_
  refine awp_seq ?_
  refine rg ?_
  refine qv (m_ldpa sz24 ag24) ?_
  refine qv m_mv ?_
  refine qr (m_bsl el91 ze25 sz25) ?_
  refine qqF (f57 y [m] (by simp)) ?_ (ha := (args_cons data_dv (args_cons (data_row (l := [ints m]) (by simp only [mkM, reduceIte, Nat.reduceEqDiff] <;> rfl) trivial rfl (by simp [DV.cells]) (by simp [flat, DV.cells]) (fun _ _ => trivial)) args_nil)))
  refine qv m_as ?_
  show AWp cx _ _ _
  refine awp_seq ?_
  refine rg ?_
  refine qv m_mv ?_
  refine qv m_neq ?_
  show AWp cx _ _ _
  refine cd (fun hc0 => ?_) (fun hc0 => ?_)
  · skip
    have h0 : ¬ filledE y [m] = 0 := by simpa using hc0
    refine awp_seq ?_
    refine rg ?_
    refine qv m_mv ?_
    refine qv m_as ?_
    refine qv m_as ?_
    refine qv m_as ?_
    show AWp cx _ _ _
    refine awp_ret ?_
    rw [ordR_a h0]
    exact x3 (hr := (rNd_)) (hr' := (rB_)) (hr'' := (rI_))
  · skip
    have h0 : filledE y [m] = 0 := by simpa using hc0
    obtain ⟨hv, hm⟩ := filled_ok h0
    obtain ⟨v1, v2, v3, v4⟩ := validate_ok hv
    refine awp_skip ?_
    show AWp cx _ _ _
    refine awp_seq ?_
    refine awp_seq ?_
    refine rg ?_
    refine qv (m_ldpa sz24 ag24) ?_
    refine qv m_mv ?_
    refine qqF (f74 y c hy) ?_
    refine qv m_as ?_
    show AWp cx _ _ _
    refine awp_seq ?_
    refine rg ?_
    refine qv m_mv ?_
    refine qv m_neq ?_
    show AWp cx _ _ _
    refine cd (fun hc1 => ?_) (fun hc1 => ?_)
    · skip
      have h1 : allIn c y.steps.length 0 40 = false := by simpa using hc1
      refine awp_seq ?_
      refine rg ?_
      refine qv m_mv ?_
      refine qv m_as ?_
      refine qv m_as ?_
      refine qv m_as ?_
      show AWp cx _ _ _
      refine awp_ret ?_
      rw [ordR_b h0 h1]
      exact x3 (hr := (rNd_)) (hr' := (rB_)) (hr'' := (rI_))
    · skip
      have h1 : allIn c y.steps.length 0 40 = true := by simpa using hc1
      have hcl := allIn_len h1
      have hcm := allIn_mem h1
      refine awp_skip ?_
      show AWp cx _ _ _
      refine awp_seq ?_
      refine rg ?_
      refine qv m_as ?_
      show AWp cx _ _ _
      refine awp_seq ?_
      refine awp_seq ?_
      refine rg ?_
      refine qv m_mv ?_
      refine qv (m_len il25) ?_
      refine qv m_mv ?_
      show AWp cx _ _ _
      refine awp_block ?_
      refine awp_loop (ι := Nat) (fun i => ⟨lk [(1, .dv (ints (m))), (2, .dv (ints (c))), (3, .pt 3 0 0), (11, .dv (i64 ((c.take i).sum))), (31, .dv (ints (c))), (32, .dv (i64 ((c.length : Int)))), (33, .dv (i64 (i : Nat)))], mkM [(3, 0, some ⟨[.dv (i64 (y.places)), .dv (.list ((y.steps).map dStp))], 0, 24, 0, false⟩)]⟩) (fun i => i ≤ c.length) (fun i => c.length - i) 0 (by simp) (tl [(3, 3)]) ?_
      intro i hφ0
      refine awp_seq ?_
      refine rg ?_
      refine qv m_lss ?_
      show AWp cx _ _ _
      refine awp_seq ?_
      refine cd (fun hc2 => ?_) (fun hc2 => ?_)
      · try simp at hc2
        refine awp_skip ?_
        show AWp cx _ _ _
        refine awp_seq ?_
        refine awp_block ?_
        refine awp_seq ?_
        refine rg ?_
        have hin : i < c.length := by omega
        have hgc := sg_get hin
        have hts := sum_snoc hin
        have hb := sum_bd (c := c.take i) fun x hx => hcm x (List.mem_of_mem_take hx)
        have hb2 := hcm _ (List.mem_of_getElem? hgc)
        have hbl : (c.take i).length ≤ 6 := by simp; omega
        first | refine qv (m_ixN el25 sz3) ?_ | refine qv (m_ix el25 sz3) ?_
        refine qv (m_ld sz3 ag3) ?_
        refine qv m_as ?_
        show AWp cx _ _ _
        refine rg ?_
        refine qv m_mv ?_
        refine qv m_mv ?_
        refine qv m_add ?_
        refine qv m_as ?_
        show AWp cx _ _ _
        refine rg ?_
        refine qv m_add ?_
        refine qv m_mv ?_
        exact ⟨i + 1, hin, (by simp only; omega), (tl [(3, 3)] (hF := by simp [FLe, svLe, lk, mkM, isLive, tauL, hts]) (hM := by simp [MLe, blkLe, svLe, svLes, lk, mkM, isLive, tauL, svLes_ints, svLes_self, isDvs, isDvs_map, isDvs_app, isDvs_take, isDvs_set, isDvs_repl, hts]))⟩
      · try simp at hc2
        refine awp_exit ?_
        show AWp cx _ _ _
        refine awp_seq ?_
        refine awp_seq ?_
        refine rg ?_
        have hse : (c.take i).sum = c.sum := by rw [List.take_of_length_le (by omega)]
        rw [hse]
        refine qv m_mv ?_
        refine qv m_gtr ?_
        show AWp cx _ _ _
        refine cd (fun hc3 => ?_) (fun hc3 => ?_)
        · skip
          have h2 : 8 < c.sum := by simpa using hc3
          refine awp_seq ?_
          refine rg ?_
          refine qv m_as ?_
          refine qv m_as ?_
          refine qv m_as ?_
          show AWp cx _ _ _
          refine awp_ret ?_
          rw [ordR_c h0 h1 h2]
          exact x3 (hr := (rNd_)) (hr' := (rB_)) (hr'' := (rI_))
        · skip
          have h2 : ¬ 8 < c.sum := by simpa using hc3
          have hcs := (sum_bd hcm).1
          refine awp_skip ?_
          show AWp cx _ _ _
          refine awp_seq ?_
          refine rg ?_
          refine qv m_as ?_
          show AWp cx _ _ _
          refine awp_seq ?_
          refine rg ?_
          refine qfn ?_
          refine qv m_as ?_
          show AWp cx _ _ _
          refine awp_seq ?_
          refine rg ?_
          refine qv m_mv ?_
          refine qv m_mv ?_
          refine qv (m_bld pl80 ze80) ?_
          refine qv (m_bld pl86 ze86) ?_
          refine qv (m_fdp fd24_1) ?_
          refine qv (m_ldp sz22 ag22) ?_
          refine qv (m_len il22) ?_
          refine qv m_mv ?_
          refine qv m_mv ?_
          refine qqA (f87 y hv 8 [] ⟨m, c⟩ hm (by dsimp only; omega) hcm (by simp; omega) (by dsimp only; omega)) ?_ (ha := (args_cons (data_agg (args_cons .nils (args_cons data_dv (args_cons data_dv args_nil)))) (args_cons data_dv (args_cons data_dv (args_cons data_dv args_nil)))))
          refine qv m_mv ?_
          refine qv m_ext ?_
          refine qv m_ext ?_
          refine qp (m_al ze86) ?_
          refine qs (m_st sz86) ?_
          refine qv m_as ?_
          show AWp cx _ _ _
          refine awp_seq ?_
          refine rg ?_
          refine qv (m_fdp fd86_0) ?_
          refine qv (m_ldp sz25 ag25) ?_
          refine qv m_mv ?_
          refine qv m_as ?_
          refine qv m_as ?_
          refine qv m_as ?_
          show AWp cx _ _ _
          refine awp_ret ?_
          have hfo := firF_ord (y := y) (m := m) (c := c) 8 (fun x hx => (hcm x hx).1) (by omega)
          have hre : ordR y m c = ((firF y 8 [] ⟨m, c⟩).1.p, (firF y 8 [] ⟨m, c⟩).2, 0) := by rw [ordR_d h0 h1 h2, hfo.1, hfo.2]
          rw [hre]
          exact x3 (hr := (rD_)) (hr' := (rB_)) (hr'' := (rI_))
set_option maxHeartbeats 4000000 in
theorem f11 (y : Yd) (m c : List Int) : ACallsF Try.prog 11 [dYd y, ints m, ints c] (.one (.dv (.bool true))) := by
  refine callsF_of Try.func11 rfl rfl (by rw [Try.ntmps11]; simp) fun cx hP hn hg => ?_
  rw [Try.ntmps11] at hn
  rw [startF_lk, none_mkM]
  simp only [List.nil_append, List.append_nil, List.cons_append, zipSV, Nat.reduceAdd]
  refine awp_seq ?_
  refine rg ?_
  refine qp m_box ?_
  refine qv m_as ?_
  show AWp cx _ _ _
  refine awp_seq ?_
  refine awp_seq ?_
  refine rg ?_
  refine qv (m_ldpa sz24 ag24) ?_
  refine qqF (f16 y) ?_
  refine qx m_mv (fun hg15 => ?_) (fun hg15 => ?_)
  · skip
    refine qk ?_
    refine qk ?_
    refine qv m_pk ?_
    refine qv m_mv ?_
    refine qk ?_
    refine qk ?_
    refine qv m_pk ?_
    show AWp cx _ _ _
    refine cdT (hb := by first | rfl | simp | simp_all) (ht := ?_)
    refine awp_seq ?_
    refine rg ?_
    refine qqF (f18) ?_
    refine qv m_as ?_
    show AWp cx _ _ _
    refine awp_ret ?_
    exact x1 (hr := (rB_))
  · skip
    refine qv m_mv ?_
    refine qqF (f17 m) ?_
    refine qv m_pk ?_
    refine qx m_mv (fun hg19 => ?_) (fun hg19 => ?_)
    · try simp at hg19
      refine qk ?_
      refine qk ?_
      refine qv m_pk ?_
      show AWp cx _ _ _
      refine cdT (hb := by first | rfl | simp | simp_all) (ht := ?_)
      refine awp_seq ?_
      refine rg ?_
      refine qqF (f18) ?_
      refine qv m_as ?_
      show AWp cx _ _ _
      refine awp_ret ?_
      exact x1 (hr := (rB_))
    · try simp at hg19
      refine qv m_mv ?_
      refine qqF (f17 c) ?_
      refine qv m_pk ?_
      show AWp cx _ _ _
      refine cd (fun hc0 => ?_) (fun hc0 => ?_)
      · skip
        refine awp_seq ?_
        refine rg ?_
        refine qqF (f18) ?_
        refine qv m_as ?_
        show AWp cx _ _ _
        refine awp_ret ?_
        exact x1 (hr := (rB_))
      · skip
        have hy : Long y = false := by simpa using hg15
        have hyl := Long_no hy
        refine awp_skip ?_
        show AWp cx _ _ _
        refine awp_seq ?_
        refine rg ?_
        refine qv (m_ldpa sz24 ag24) ?_
        refine qv m_mv ?_
        refine qv m_mv ?_
        refine qqA (f44 y m c (by omega)) ?_
        refine qv m_mv ?_
        refine qv m_ext ?_
        refine qv m_ext ?_
        refine qv m_ext ?_
        refine qv m_as ?_
        refine qv m_as ?_
        refine qv m_as ?_
        show AWp cx _ _ _
        refine awp_seq ?_
        refine rg ?_
        refine qv (m_ldpa sz24 ag24) ?_
        refine qv m_mv ?_
        refine qv m_mv ?_
        refine qqF (f45 y m c) ?_
        refine qv m_mv ?_
        refine qv m_ext ?_
        refine qv m_ext ?_
        refine qv m_ext ?_
        refine qv m_as ?_
        refine qv m_as ?_
        refine qv m_as ?_
        show AWp cx _ _ _
        refine awp_seq ?_
        refine rg ?_
        refine qv m_mv ?_
        refine qv m_mv ?_
        refine qqF (f21 (ordR y m c).1 (ordR y m c).1 ordR_len) ?_
        refine qx m_mv (fun hg43 => ?_) (fun hg43 => ?_)
        rotate_left
        · exact absurd hg43 (by simp)
        refine qv m_mv ?_
        refine qv m_mv ?_
        refine qv (m_beq ib4) ?_
        refine qv m_pk ?_
        refine qx m_mv (fun hg48 => ?_) (fun hg48 => ?_)
        rotate_left
        · exact absurd hg48 (by simp)
        refine qv m_mv ?_
        refine qv m_mv ?_
        refine qv m_eql ?_
        refine qv m_pk ?_
        refine qx m_mv (fun hg53 => ?_) (fun hg53 => ?_)
        rotate_left
        · exact absurd hg53 (by simp)
        refine qqF (f18) ?_
        refine qv m_pk ?_
        refine qv m_as ?_
        show AWp cx _ _ _
        refine awp_ret ?_
        exact x1 (hr := (rB_))
end Go.Ab.Try
