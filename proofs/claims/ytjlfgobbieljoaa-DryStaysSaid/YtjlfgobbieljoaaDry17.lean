/- The functions of the dry laws, part 17. The walks are written by wip/gen/gw.py. -/
import Derived.Test.YtjlfgobbieljoaaDryL2
import Derived.Test.YtjlfgobbieljoaaAb31
import Derived.Test.YtjlfgobbieljoaaDryT
set_option linter.all false
namespace Go.Ab.Try
open Go Go.Ab Go.Proofs

theorem tok_here {m : List Int} {q : Int} (h0 : 0 ≤ q) (h1 : q < m.length) : m[q.toNat]? = some (tokAt m q) := by
  unfold tokAt; rw [if_pos ⟨h0, h1⟩]; exact sg_get (by omega)
theorem tok_off {m : List Int} {q : Int} (h : ¬ (0 ≤ q ∧ q < m.length)) : tokAt m q = 0 := by unfold tokAt; rw [if_neg h]


theorem f48 (y : Yd) (set : List Int) : ACalls Try.prog 48 [dYd y, ints set] (.many [.dv (ints (siphR y set).1), .dv (i64 (siphR y set).2)]) := by
  refine callsA_of Try.func48 rfl rfl (by rw [Try.ntmps48]; simp) fun cx hP hn hg => ?_
  rw [Try.ntmps48] at hn
  rw [startF_lk, none_mkM]
  simp only [List.nil_append, List.append_nil, List.cons_append, zipSV, Nat.reduceAdd]
  refine awp_seq ?_
  refine rg ?_
  refine qp m_box ?_
  refine qv m_as ?_
  refine qv m_as ?_
  show AWp cx _ _ _
  refine awp_seq ?_
  refine awp_seq ?_
  refine rg ?_
  refine qv (m_ldpa sz24 ag24) ?_
  refine qv m_mv ?_
  refine qqF (f79 y set) ?_
  refine qv m_as ?_
  show AWp cx _ _ _
  refine awp_seq ?_
  refine rg ?_
  refine qv m_mv ?_
  refine qv m_neq ?_
  show AWp cx _ _ _
  refine cd (fun hc0 => ?_) (fun hc0 => ?_)
  · try simp at hc0
    refine awp_seq ?_
    refine rg ?_
    refine qv m_mv ?_
    refine qv m_as ?_
    refine qv m_as ?_
    show AWp cx _ _ _
    refine awp_ret ?_
    exact x2 (hr := (rNd_ (by simp [siphR, hc0]))) (hr' := (rI_ (by simp [siphR, hc0])))
  · try simp at hc0
    obtain ⟨hv, hok⟩ := placed_ok hc0
    obtain ⟨v1, v2, v3, v4⟩ := validate_ok hv
    have hin := okSet_in hok
    have hsl := okSet_len (by omega) hok
    obtain ⟨i1, i2⟩ := valid_in hv hin
    refine awp_skip ?_
    show AWp cx _ _ _
    refine awp_seq ?_
    refine rd mixed ?_
    refine zqF (R := []) (f80) ?_
    refine zv (m_ldpa sz24 ag24) ?_
    refine zv m_mv ?_
    refine zqF (R := []) (f94 nmS 100 101 giveS takeS y set (fun s _ => f100 s) (fun s _ => f101 s) i2 i1 (by omega) (by omega)) ?_
    refine zv m_as ?_
    refine zv m_as ?_
    refine ⟨by rfl, ?_⟩
    show AWp cx _ _ _
    refine awp_ret ?_
    exact x2 (hr := (rD_ (by simp [siphR, hc0]))) (hr' := (rI_ (by simp [siphR, hc0])))

theorem f49 (y : Yd) (set : List Int) : ACalls Try.prog 49 [dYd y, ints set] (.many [.dv (ints (trapR y set).1), .dv (i64 (trapR y set).2)]) := by
  refine callsA_of Try.func49 rfl rfl (by rw [Try.ntmps49]; simp) fun cx hP hn hg => ?_
  rw [Try.ntmps49] at hn
  rw [startF_lk, none_mkM]
  simp only [List.nil_append, List.append_nil, List.cons_append, zipSV, Nat.reduceAdd]
  refine awp_seq ?_
  refine rg ?_
  refine qp m_box ?_
  refine qv m_as ?_
  refine qv m_as ?_
  show AWp cx _ _ _
  refine awp_seq ?_
  refine awp_seq ?_
  refine rg ?_
  refine qv (m_ldpa sz24 ag24) ?_
  refine qv m_mv ?_
  refine qqF (f79 y set) ?_
  refine qv m_as ?_
  show AWp cx _ _ _
  refine awp_seq ?_
  refine rg ?_
  refine qv m_mv ?_
  refine qv m_neq ?_
  show AWp cx _ _ _
  refine cd (fun hc0 => ?_) (fun hc0 => ?_)
  · try simp at hc0
    refine awp_seq ?_
    refine rg ?_
    refine qv m_mv ?_
    refine qv m_as ?_
    refine qv m_as ?_
    show AWp cx _ _ _
    refine awp_ret ?_
    exact x2 (hr := (rNd_ (by simp [trapR, hc0]))) (hr' := (rI_ (by simp [trapR, hc0])))
  · try simp at hc0
    obtain ⟨hv, hok⟩ := placed_ok hc0
    obtain ⟨v1, v2, v3, v4⟩ := validate_ok hv
    have hin := okSet_in hok
    have hsl := okSet_len (by omega) hok
    obtain ⟨i1, i2⟩ := valid_in hv hin
    refine awp_skip ?_
    show AWp cx _ _ _
    refine awp_seq ?_
    refine rd mixed ?_
    refine zqF (R := []) (f82) ?_
    refine zv (m_ldpa sz24 ag24) ?_
    refine zv m_mv ?_
    refine zqF (R := []) (f94 nmT 104 105 takeS giveS y set (fun s _ => f104 s) (fun s _ => f105 s) i1 i2 (by omega) (by omega)) ?_
    refine zv m_as ?_
    refine zv m_as ?_
    refine ⟨by rfl, ?_⟩
    show AWp cx _ _ _
    refine awp_ret ?_
    exact x2 (hr := (rD_ (by simp [trapR, hc0]))) (hr' := (rI_ (by simp [trapR, hc0])))

theorem f50 (m set : List Int) (hm : ∀ x ∈ m, 0 ≤ x ∧ x ≤ 50) (hs : set.length ≤ 1000) : ACallsF Try.prog 50 [ints m, ints set] (.one (.dv (i64 (tok m set)))) := by
  refine callsF_of Try.func50 rfl rfl (by rw [Try.ntmps50]; simp) fun cx hP hn hg => ?_
  rw [Try.ntmps50] at hn
  rw [startF_lk, none_mkM]
  simp only [List.nil_append, List.append_nil, List.cons_append, zipSV, Nat.reduceAdd]
  refine awp_seq ?_
  refine rg ?_
  refine qv m_as ?_
  show AWp cx _ _ _
  refine awp_seq ?_
  refine rg ?_
  refine qv m_as ?_
  show AWp cx _ _ _
  refine awp_seq ?_
  refine awp_seq ?_
  refine rg ?_
  refine qv m_as ?_
  show AWp cx _ _ _
  refine awp_block ?_
  refine awp_loop (ι := Nat) (fun i => ⟨lk [(0, .dv (ints (m))), (1, .dv (ints (set))), (5, .dv (i64 (tok m (set.take i)))), (6, .dv (i64 (i : Nat)))], mkM []⟩) (fun i => i ≤ set.length) (fun i => set.length - i) 0 (by simp) (tl [] (hF := by simp [FLe, svLe, lk, mkM, isLive, tauL, tok]) (hM := by simp [MLe, blkLe, svLe, svLes, lk, mkM, isLive, tauL, svLes_ints, svLes_self, isDvs, isDvs_map, isDvs_app, isDvs_take, isDvs_set, isDvs_repl, tok])) ?_
  intro i hφ0
  refine awp_seq ?_
  refine awp_seq ?_
  refine rg ?_
  refine qv m_mv ?_
  refine qv m_mv ?_
  refine qv (m_len il25) ?_
  refine qv m_lss ?_
  show AWp cx _ _ _
  refine cd (fun hc0 => ?_) (fun hc0 => ?_)
  · try simp at hc0
    refine awp_skip ?_
    show AWp cx _ _ _
    refine awp_seq ?_
    refine awp_block ?_
    refine awp_seq ?_
    refine rg ?_
    have hin : i < set.length := by omega
    have hgi := sg_get hin
    have hsn := tok_snoc (m := m) hgi
    have hb := tok_bd hm (set.take i)
    have htl : (set.take i).length ≤ 1000 := by simp; omega
    have hb1 := tokAt_bd hm (sg set i)
    have ho1 : sg set i < 0 → tokAt m (sg set i) = 0 := fun h => tok_off (by omega)
    have ho2 : (m.length : Int) ≤ sg set i → tokAt m (sg set i) = 0 := fun h => tok_off (by omega)
    refine qv m_mv ?_
    refine qv m_mv ?_
    first | refine qv (m_ixN el25 sz3) ?_ | refine qv (m_ix el25 sz3) ?_
    refine qv (m_ld sz3 ag3) ?_
    refine qv m_geq ?_
    refine qx m_mv (fun hg18 => ?_) (fun hg18 => ?_)
    · try simp at hg18
      refine qv m_mv ?_
      refine qv m_mv ?_
      first | refine qv (m_ixN el25 sz3) ?_ | refine qv (m_ix el25 sz3) ?_
      refine qv (m_ld sz3 ag3) ?_
      refine qv m_mv ?_
      refine qv (m_len il25) ?_
      refine qv m_lss ?_
      refine qv m_pk ?_
      show AWp cx _ _ _
      refine cd (fun hc1 => ?_) (fun hc1 => ?_)
      · try simp at hc1
        have hq := tok_here (m := m) (q := sg set i) (by simp_all; try omega) (by simp_all; try omega)
        refine rg ?_
        refine qv m_mv ?_
        refine qv m_mv ?_
        refine qv m_mv ?_
        refine qv m_mv ?_
        first | refine qv (m_ixN el25 sz3) ?_ | refine qv (m_ix el25 sz3) ?_
        refine qv (m_ld sz3 ag3) ?_
        first | refine qv (m_ixN el25 sz3) ?_ | refine qv (m_ix el25 sz3) ?_
        refine qv (m_ld sz3 ag3) ?_
        refine qv m_add ?_
        refine qv m_as ?_
        show AWp cx _ _ _
        refine rg ?_
        refine qv m_mv ?_
        refine qv m_add ?_
        refine qv m_as ?_
        exact ⟨i + 1, hin, (by simp only; omega), (tl [] (hF := by simp [FLe, svLe, lk, mkM, isLive, tauL, hsn, *]) (hM := by simp [MLe, blkLe, svLe, svLes, lk, mkM, isLive, tauL, svLes_ints, svLes_self, isDvs, isDvs_map, isDvs_app, isDvs_take, isDvs_set, isDvs_repl, hsn, *]))⟩
      · try simp at hc1
        refine awp_skip ?_
        show AWp cx _ _ _
        refine rg ?_
        refine qv m_mv ?_
        refine qv m_add ?_
        refine qv m_as ?_
        exact ⟨i + 1, hin, (by simp only; omega), (tl [] (hF := by simp [FLe, svLe, lk, mkM, isLive, tauL, hsn, *]) (hM := by simp [MLe, blkLe, svLe, svLes, lk, mkM, isLive, tauL, svLes_ints, svLes_self, isDvs, isDvs_map, isDvs_app, isDvs_take, isDvs_set, isDvs_repl, hsn, *]))⟩
    · try simp at hg18
      refine qk ?_
      refine qk ?_
      refine qk ?_
      refine qk ?_
      refine qk ?_
      refine qk ?_
      refine qk ?_
      refine qv m_pk ?_
      show AWp cx _ _ _
      refine cdF (hb := by first | rfl | simp | simp_all) (ht := ?_)
      refine awp_skip ?_
      show AWp cx _ _ _
      refine rg ?_
      refine qv m_mv ?_
      refine qv m_add ?_
      refine qv m_as ?_
      exact ⟨i + 1, hin, (by simp only; omega), (tl [] (hF := by simp [FLe, svLe, lk, mkM, isLive, tauL, hsn, *]) (hM := by simp [MLe, blkLe, svLe, svLes, lk, mkM, isLive, tauL, svLes_ints, svLes_self, isDvs, isDvs_map, isDvs_app, isDvs_take, isDvs_set, isDvs_repl, hsn, *]))⟩
  · try simp at hc0
    refine awp_exit ?_
    show AWp cx _ _ _
    refine awp_seq ?_
    refine rg ?_
    refine qv m_mv ?_
    refine qv m_as ?_
    show AWp cx _ _ _
    refine awp_ret ?_
    exact x1 (hr := (rI_ (by rw [List.take_of_length_le (by omega)])))

set_option maxHeartbeats 4000000 in
theorem f13 (y : Yd) (x : Pr) (l : List Int) : ACallsF Try.prog 13 [dYd y, dPr x, ints l] (.one (.dv (.bool true))) := by
  refine callsF_of Try.func13 rfl rfl (by rw [Try.ntmps13]; simp) fun cx hP hn hg => ?_
  rw [Try.ntmps13] at hn
  rw [startF_lk, none_mkM]
  simp only [List.nil_append, List.append_nil, List.cons_append, zipSV, Nat.reduceAdd]
  refine awp_seq ?_
  refine rg ?_
  refine qp m_box ?_
  refine qp m_box ?_
  refine qv m_as ?_
  show AWp cx _ _ _
  refine awp_seq ?_
  refine awp_seq ?_
  refine rg ?_
  refine qv (m_ldpa sz24 ag24) ?_
  refine qqF (f16 y) ?_
  refine qx m_mv (fun hg16 => ?_) (fun hg16 => ?_)
  · try simp at hg16
    refine qk ?_
    refine qk ?_
    refine qk ?_
    refine qv m_pk ?_
    refine qv m_mv ?_
    refine qk ?_
    refine qk ?_
    refine qk ?_
    refine qv m_pk ?_
    refine qv m_mv ?_
    refine qk ?_
    refine qk ?_
    refine qv m_pk ?_
    show AWp cx _ _ _
    refine cdT (hb := by first | rfl | simp | simp_all) (ht := ?_)
    refine awp_seq ?_
    refine rg ?_
    refine qqF (f18) ?_
    refine qv m_as ?_
    show AWp cx _ _ _
    refine awp_ret ?_
    exact x1 (hr := (rB_))
  · try simp at hg16
    refine qv (m_fdp fd43_0) ?_
    refine qv (m_ldp sz25 ag25) ?_
    refine qqF (f17 x.m) ?_
    refine qv m_pk ?_
    refine qx m_mv (fun hg21 => ?_) (fun hg21 => ?_)
    · try simp at hg21
      refine qk ?_
      refine qk ?_
      refine qk ?_
      refine qv m_pk ?_
      refine qv m_mv ?_
      refine qk ?_
      refine qk ?_
      refine qv m_pk ?_
      show AWp cx _ _ _
      refine cdT (hb := by first | rfl | simp | simp_all) (ht := ?_)
      refine awp_seq ?_
      refine rg ?_
      refine qqF (f18) ?_
      refine qv m_as ?_
      show AWp cx _ _ _
      refine awp_ret ?_
      exact x1 (hr := (rB_))
    · try simp at hg21
      refine qv (m_fdp fd43_1) ?_
      refine qv (m_ldp sz25 ag25) ?_
      refine qqF (f17 x.goal) ?_
      refine qv m_pk ?_
      refine qx m_mv (fun hg26 => ?_) (fun hg26 => ?_)
      · try simp at hg26
        refine qk ?_
        refine qk ?_
        refine qv m_pk ?_
        show AWp cx _ _ _
        refine cdT (hb := by first | rfl | simp | simp_all) (ht := ?_)
        refine awp_seq ?_
        refine rg ?_
        refine qqF (f18) ?_
        refine qv m_as ?_
        show AWp cx _ _ _
        refine awp_ret ?_
        exact x1 (hr := (rB_))
      · try simp at hg26
        refine qv m_mv ?_
        refine qqF (f17 l) ?_
        refine qv m_pk ?_
        show AWp cx _ _ _
        refine cd (fun hc0 => ?_) (fun hc0 => ?_)
        · try simp at hc0
          refine awp_seq ?_
          refine rg ?_
          refine qqF (f18) ?_
          refine qv m_as ?_
          show AWp cx _ _ _
          refine awp_ret ?_
          exact x1 (hr := (rB_))
        · try simp at hc0
          refine awp_skip ?_
          show AWp cx _ _ _
          refine awp_seq ?_
          refine rg ?_
          refine qv (m_ldpa sz24 ag24) ?_
          refine qv (m_fdp fd43_0) ?_
          refine qv (m_ldp sz25 ag25) ?_
          refine qv m_mv ?_
          refine qqF (f19 y x.m l) ?_
          refine qv m_mv ?_
          refine qv m_ext ?_
          refine qv m_ext ?_
          refine qv m_ext ?_
          refine qv m_as ?_
          refine qv m_as ?_
          refine qv m_as ?_
          show AWp cx _ _ _
          refine awp_seq ?_
          refine awp_seq ?_
          refine rg ?_
          refine qv m_mv ?_
          refine qv m_neq ?_
          show AWp cx _ _ _
          refine cd (fun hc1 => ?_) (fun hc1 => ?_)
          · try simp at hc1
            refine awp_seq ?_
            refine rg ?_
            refine qqF (f18) ?_
            refine qv m_as ?_
            show AWp cx _ _ _
            refine awp_ret ?_
            exact x1 (hr := (rB_))
          · try simp at hc1
            refine awp_skip ?_
            show AWp cx _ _ _
            refine awp_seq ?_
            refine rg ?_
            obtain ⟨b1, b2, b3, b4, b5, b6⟩ := stays_ok (y := y) (m := x.m) (l := l) (g := x.goal) hc1
            refine qv (m_ldpa sz24 ag24) ?_
            refine qv (m_fdp fd43_1) ?_
            refine qv (m_ldp sz25 ag25) ?_
            refine qqA (f48 y x.goal) ?_
            refine qv m_mv ?_
            refine qv m_ext ?_
            refine qv m_ext ?_
            refine qv m_as ?_
            refine qv m_as ?_
            show AWp cx _ _ _
            refine awp_seq ?_
            refine rg ?_
            refine qv (m_ldpa sz24 ag24) ?_
            refine qv (m_fdp fd43_1) ?_
            refine qv (m_ldp sz25 ag25) ?_
            refine qqA (f49 y x.goal) ?_
            refine qv m_mv ?_
            refine qv m_ext ?_
            refine qv m_ext ?_
            refine qv m_as ?_
            refine qv m_as ?_
            show AWp cx _ _ _
            refine awp_seq ?_
            refine awp_seq ?_
            refine rg ?_
            refine qv m_mv ?_
            refine qv m_eql ?_
            refine qx m_mv (fun hg59 => ?_) (fun hg59 => ?_)
            · try simp at hg59
              refine qv (m_fdp fd43_0) ?_
              refine qv (m_ldp sz25 ag25) ?_
              refine qv m_mv ?_
              refine qqF (f50 x.m (siphR y x.goal).1 b1 (by omega)) ?_
              refine qv m_eql ?_
              refine qv m_pk ?_
              refine qx m_mv (fun hg66 => ?_) (fun hg66 => ?_)
              · try simp at hg66
                refine qv m_mv ?_
                refine qv m_mv ?_
                refine qqF (f50 (runR y x.m l).1 (siphR y x.goal).1 b2 (by omega)) ?_
                refine qv m_neq ?_
                refine qv m_pk ?_
                show AWp cx _ _ _
                refine cdF (hb := by simp_all) (ht := ?_)
                refine awp_skip ?_
                show AWp cx _ _ _
                refine awp_seq ?_
                refine rg ?_
                refine qv m_mv ?_
                refine qv m_neq ?_
                refine qx m_mv (fun hg74 => ?_) (fun hg74 => ?_)
                · try simp at hg74
                  refine qk ?_
                  refine qk ?_
                  refine qk ?_
                  refine qk ?_
                  refine qk ?_
                  refine qv m_pk ?_
                  refine qv m_mv ?_
                  refine qk ?_
                  refine qk ?_
                  refine qk ?_
                  refine qk ?_
                  refine qv m_pk ?_
                  refine qv m_mv ?_
                  refine qqF (f18) ?_
                  refine qv m_pk ?_
                  refine qv m_as ?_
                  show AWp cx _ _ _
                  refine awp_ret ?_
                  exact x1 (hr := (rB_))
                · try simp at hg74
                  refine qv (m_fdp fd43_0) ?_
                  refine qv (m_ldp sz25 ag25) ?_
                  refine qv m_mv ?_
                  refine qqF (f50 x.m (trapR y x.goal).1 b1 (by omega)) ?_
                  refine qv m_eql ?_
                  refine qv m_pk ?_
                  refine qx m_mv (fun hg81 => ?_) (fun hg81 => ?_)
                  · try simp at hg81
                    refine qk ?_
                    refine qk ?_
                    refine qk ?_
                    refine qk ?_
                    refine qv m_pk ?_
                    refine qv m_mv ?_
                    refine qqF (f18) ?_
                    refine qv m_pk ?_
                    refine qv m_as ?_
                    show AWp cx _ _ _
                    refine awp_ret ?_
                    exact x1 (hr := (rB_))
                  · try simp at hg81
                    refine qv m_mv ?_
                    refine qv m_mv ?_
                    refine qqF (f50 (runR y x.m l).1 (trapR y x.goal).1 b2 (by omega)) ?_
                    refine qv m_gtr ?_
                    refine qv m_pk ?_
                    refine qx m_mv (fun hg87 => ?_) (fun hg87 => ?_)
                    rotate_left
                    · exact absurd hg87 (by simp_all; try omega)
                    refine qqF (f18) ?_
                    refine qv m_pk ?_
                    refine qv m_as ?_
                    show AWp cx _ _ _
                    refine awp_ret ?_
                    exact x1 (hr := (rB_))
              · try simp at hg66
                refine qk ?_
                refine qk ?_
                refine qk ?_
                refine qk ?_
                refine qv m_pk ?_
                show AWp cx _ _ _
                refine cdF (hb := by first | rfl | simp | simp_all) (ht := ?_)
                refine awp_skip ?_
                show AWp cx _ _ _
                refine awp_seq ?_
                refine rg ?_
                refine qv m_mv ?_
                refine qv m_neq ?_
                refine qx m_mv (fun hg74 => ?_) (fun hg74 => ?_)
                · try simp at hg74
                  refine qk ?_
                  refine qk ?_
                  refine qk ?_
                  refine qk ?_
                  refine qk ?_
                  refine qv m_pk ?_
                  refine qv m_mv ?_
                  refine qk ?_
                  refine qk ?_
                  refine qk ?_
                  refine qk ?_
                  refine qv m_pk ?_
                  refine qv m_mv ?_
                  refine qqF (f18) ?_
                  refine qv m_pk ?_
                  refine qv m_as ?_
                  show AWp cx _ _ _
                  refine awp_ret ?_
                  exact x1 (hr := (rB_))
                · try simp at hg74
                  refine qv (m_fdp fd43_0) ?_
                  refine qv (m_ldp sz25 ag25) ?_
                  refine qv m_mv ?_
                  refine qqF (f50 x.m (trapR y x.goal).1 b1 (by omega)) ?_
                  refine qv m_eql ?_
                  refine qv m_pk ?_
                  refine qx m_mv (fun hg81 => ?_) (fun hg81 => ?_)
                  · try simp at hg81
                    refine qk ?_
                    refine qk ?_
                    refine qk ?_
                    refine qk ?_
                    refine qv m_pk ?_
                    refine qv m_mv ?_
                    refine qqF (f18) ?_
                    refine qv m_pk ?_
                    refine qv m_as ?_
                    show AWp cx _ _ _
                    refine awp_ret ?_
                    exact x1 (hr := (rB_))
                  · try simp at hg81
                    refine qv m_mv ?_
                    refine qv m_mv ?_
                    refine qqF (f50 (runR y x.m l).1 (trapR y x.goal).1 b2 (by omega)) ?_
                    refine qv m_gtr ?_
                    refine qv m_pk ?_
                    refine qx m_mv (fun hg87 => ?_) (fun hg87 => ?_)
                    rotate_left
                    · exact absurd hg87 (by simp_all; try omega)
                    refine qqF (f18) ?_
                    refine qv m_pk ?_
                    refine qv m_as ?_
                    show AWp cx _ _ _
                    refine awp_ret ?_
                    exact x1 (hr := (rB_))
            · try simp at hg59
              refine qk ?_
              refine qk ?_
              refine qk ?_
              refine qk ?_
              refine qk ?_
              refine qv m_pk ?_
              refine qv m_mv ?_
              refine qk ?_
              refine qk ?_
              refine qk ?_
              refine qk ?_
              refine qv m_pk ?_
              show AWp cx _ _ _
              refine cdF (hb := by first | rfl | simp | simp_all) (ht := ?_)
              refine awp_skip ?_
              show AWp cx _ _ _
              refine awp_seq ?_
              refine rg ?_
              refine qv m_mv ?_
              refine qv m_neq ?_
              refine qx m_mv (fun hg74 => ?_) (fun hg74 => ?_)
              · try simp at hg74
                refine qk ?_
                refine qk ?_
                refine qk ?_
                refine qk ?_
                refine qk ?_
                refine qv m_pk ?_
                refine qv m_mv ?_
                refine qk ?_
                refine qk ?_
                refine qk ?_
                refine qk ?_
                refine qv m_pk ?_
                refine qv m_mv ?_
                refine qqF (f18) ?_
                refine qv m_pk ?_
                refine qv m_as ?_
                show AWp cx _ _ _
                refine awp_ret ?_
                exact x1 (hr := (rB_))
              · try simp at hg74
                refine qv (m_fdp fd43_0) ?_
                refine qv (m_ldp sz25 ag25) ?_
                refine qv m_mv ?_
                refine qqF (f50 x.m (trapR y x.goal).1 b1 (by omega)) ?_
                refine qv m_eql ?_
                refine qv m_pk ?_
                refine qx m_mv (fun hg81 => ?_) (fun hg81 => ?_)
                · try simp at hg81
                  refine qk ?_
                  refine qk ?_
                  refine qk ?_
                  refine qk ?_
                  refine qv m_pk ?_
                  refine qv m_mv ?_
                  refine qqF (f18) ?_
                  refine qv m_pk ?_
                  refine qv m_as ?_
                  show AWp cx _ _ _
                  refine awp_ret ?_
                  exact x1 (hr := (rB_))
                · try simp at hg81
                  refine qv m_mv ?_
                  refine qv m_mv ?_
                  refine qqF (f50 (runR y x.m l).1 (trapR y x.goal).1 b2 (by omega)) ?_
                  refine qv m_gtr ?_
                  refine qv m_pk ?_
                  refine qx m_mv (fun hg87 => ?_) (fun hg87 => ?_)
                  rotate_left
                  · exact absurd hg87 (by simp_all; try omega)
                  refine qqF (f18) ?_
                  refine qv m_pk ?_
                  refine qv m_as ?_
                  show AWp cx _ _ _
                  refine awp_ret ?_
                  exact x1 (hr := (rB_))

end Go.Ab.Try
