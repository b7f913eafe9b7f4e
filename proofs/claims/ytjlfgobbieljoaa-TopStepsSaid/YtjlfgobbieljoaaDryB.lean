/- Dry17, Dry18, Dry19. -/
import Derived.Test.YtjlfgobbieljoaaDryA
import Derived.Test.YtjlfgobbieljoaaAbG
import Derived.Test.YtjlfgobbieljoaaDryT
import Derived.Test.YtjlfgobbieljoaaAbH
import Derived.Test.YtjlfgobbieljoaaAbH
set_option linter.all false
set_option linter.all false
namespace Go.Ab.Try
open Go Go.Ab Go.Proofs
theorem tok_here {m : List Int} {q : Int} (h0 : 0 ≤ q) (h1 : q < m.length) : m[q.toNat]? = some (tokAt m q) := by
  unfold tokAt; rw [if_pos ⟨h0, h1⟩]; exact sg_get (by omega)
theorem tok_off {m : List Int} {q : Int} (h : ¬ (0 ≤ q ∧ q < m.length)) : tokAt m q = 0 := by unfold tokAt; rw [if_neg h]
theorem f48 (y : Yd) (set : List Int) : ACalls Try.prog 48 [dYd y, ints set] (.many [.dv (ints (siphR y set).1), .dv (i64 (siphR y set).2)]) := by
  refine callsA_of Try.func48 rfl rfl (by rw [Try.ntmps48]; simp) fun cx hP hn hg => ?_
  rw [Try.ntmps48] at hn
  rw [startF_lk, none_mkM]
  simp only [List.nil_append, List.append_nil, List.cons_append, zipSV, Nat.reduceAdd]
  refine awp_seq ?_
  refine rg ?_
  refine qp m_box ?_
  refine qv m_as ?_
  refine qv m_as ?_
  show AWp cx _ _ _
  refine awp_seq ?_
  refine awp_seq ?_
  refine rg ?_
  refine qv (m_ldpa sz24 ag24) ?_
  refine qv m_mv ?_
  refine qqF (f79 y set) ?_
  refine qv m_as ?_
  show AWp cx _ _ _
  refine awp_seq ?_
  refine rg ?_
  refine qv m_mv ?_
  refine qv m_neq ?_
  show AWp cx _ _ _
  refine cd (fun hc0 => ?_) (fun hc0 => ?_)
  · try simp at hc0
    refine awp_seq ?_
    refine rg ?_
    refine qv m_mv ?_
    refine qv m_as ?_
    refine qv m_as ?_
    show AWp cx _ _ _
    refine awp_ret ?_
    exact x2 (hr := (rNd_ (by simp [siphR, hc0]))) (hr' := (rI_ (by simp [siphR, hc0])))
  · try simp at hc0
    obtain ⟨hv, hok⟩ := placed_ok hc0
    obtain ⟨v1, v2, v3, v4⟩ := validate_ok hv
    have hin := okSet_in hok
    have hsl := okSet_len (by omega) hok
    obtain ⟨i1, i2⟩ := valid_in hv hin
    refine awp_skip ?_
    show AWp cx _ _ _
    refine awp_seq ?_
    refine rd mixed ?_
    refine zqF (R := []) (f80) ?_
    refine zv (m_ldpa sz24 ag24) ?_
    refine zv m_mv ?_
    refine zqF (R := []) (f94 nmS 100 101 giveS takeS y set (fun s _ => f100 s) (fun s _ => f101 s) i2 i1 (by omega) (by omega)) ?_
    refine zv m_as ?_
    refine zv m_as ?_
    refine ⟨by rfl, ?_⟩
    show AWp cx _ _ _
    refine awp_ret ?_
    exact x2 (hr := (rD_ (by simp [siphR, hc0]))) (hr' := (rI_ (by simp [siphR, hc0])))
theorem f49 (y : Yd) (set : List Int) : ACalls Try.prog 49 [dYd y, ints set] (.many [.dv (ints (trapR y set).1), .dv (i64 (trapR y set).2)]) := by
  refine callsA_of Try.func49 rfl rfl (by rw [Try.ntmps49]; simp) fun cx hP hn hg => ?_
  rw [Try.ntmps49] at hn
  rw [startF_lk, none_mkM]
  simp only [List.nil_append, List.append_nil, List.cons_append, zipSV, Nat.reduceAdd]
  refine awp_seq ?_
  refine rg ?_
  refine qp m_box ?_
  refine qv m_as ?_
  refine qv m_as ?_
  show AWp cx _ _ _
  refine awp_seq ?_
  refine awp_seq ?_
  refine rg ?_
  refine qv (m_ldpa sz24 ag24) ?_
  refine qv m_mv ?_
  refine qqF (f79 y set) ?_
  refine qv m_as ?_
  show AWp cx _ _ _
  refine awp_seq ?_
  refine rg ?_
  refine qv m_mv ?_
  refine qv m_neq ?_
  show AWp cx _ _ _
  refine cd (fun hc0 => ?_) (fun hc0 => ?_)
  · try simp at hc0
    refine awp_seq ?_
    refine rg ?_
    refine qv m_mv ?_
    refine qv m_as ?_
    refine qv m_as ?_
    show AWp cx _ _ _
    refine awp_ret ?_
    exact x2 (hr := (rNd_ (by simp [trapR, hc0]))) (hr' := (rI_ (by simp [trapR, hc0])))
  · try simp at hc0
    obtain ⟨hv, hok⟩ := placed_ok hc0
    obtain ⟨v1, v2, v3, v4⟩ := validate_ok hv
    have hin := okSet_in hok
    have hsl := okSet_len (by omega) hok
    obtain ⟨i1, i2⟩ := valid_in hv hin
    refine awp_skip ?_
    show AWp cx _ _ _
    refine awp_seq ?_
    refine rd mixed ?_
    refine zqF (R := []) (f82) ?_
    refine zv (m_ldpa sz24 ag24) ?_
    refine zv m_mv ?_
    refine zqF (R := []) (f94 nmT 104 105 takeS giveS y set (fun s _ => f104 s) (fun s _ => f105 s) i1 i2 (by omega) (by omega)) ?_
    refine zv m_as ?_
    refine zv m_as ?_
    refine ⟨by rfl, ?_⟩
    show AWp cx _ _ _
    refine awp_ret ?_
    exact x2 (hr := (rD_ (by simp [trapR, hc0]))) (hr' := (rI_ (by simp [trapR, hc0])))
theorem f50 (m set : List Int) (hm : ∀ x ∈ m, 0 ≤ x ∧ x ≤ 50) (hs : set.length ≤ 1000) : ACallsF Try.prog 50 [ints m, ints set] (.one (.dv (i64 (tok m set)))) := by
  refine callsF_of Try.func50 rfl rfl (by rw [Try.ntmps50]; simp) fun cx hP hn hg => ?_
  rw [Try.ntmps50] at hn
  rw [startF_lk, none_mkM]
  simp only [List.nil_append, List.append_nil, List.cons_append, zipSV, Nat.reduceAdd]
  refine awp_seq ?_
  refine rg ?_
  refine qv m_as ?_
  show AWp cx _ _ _
  refine awp_seq ?_
  refine rg ?_
  refine qv m_as ?_
  show AWp cx _ _ _
  refine awp_seq ?_
  refine awp_seq ?_
  refine rg ?_
  refine qv m_as ?_
  show AWp cx _ _ _
  refine awp_block ?_
  refine awp_loop (ι := Nat) (fun i => ⟨lk [(0, .dv (ints (m))), (1, .dv (ints (set))), (5, .dv (i64 (tok m (set.take i)))), (6, .dv (i64 (i : Nat)))], mkM []⟩) (fun i => i ≤ set.length) (fun i => set.length - i) 0 (by simp) (tl [] (hF := by simp [FLe, svLe, lk, mkM, isLive, tauL, tok]) (hM := by simp [MLe, blkLe, svLe, svLes, lk, mkM, isLive, tauL, svLes_ints, svLes_self, isDvs, isDvs_map, isDvs_app, isDvs_take, isDvs_set, isDvs_repl, tok])) ?_
  intro i hφ0
  refine awp_seq ?_
  refine awp_seq ?_
  refine rg ?_
  refine qv m_mv ?_
  refine qv m_mv ?_
  refine qv (m_len il25) ?_
  refine qv m_lss ?_
  show AWp cx _ _ _
  refine cd (fun hc0 => ?_) (fun hc0 => ?_)
  · try simp at hc0
    refine awp_skip ?_
    show AWp cx _ _ _
    refine awp_seq ?_
    refine awp_block ?_
    refine awp_seq ?_
    refine rg ?_
    have hin : i < set.length := by omega
    have hgi := sg_get hin
    have hsn := tok_snoc (m := m) hgi
    have hb := tok_bd hm (set.take i)
    have htl : (set.take i).length ≤ 1000 := by simp; omega
    have hb1 := tokAt_bd hm (sg set i)
    have ho1 : sg set i < 0 → tokAt m (sg set i) = 0 := fun h => tok_off (by omega)
    have ho2 : (m.length : Int) ≤ sg set i → tokAt m (sg set i) = 0 := fun h => tok_off (by omega)
    refine qv m_mv ?_
    refine qv m_mv ?_
    first | refine qv (m_ixN el25 sz3) ?_ | refine qv (m_ix el25 sz3) ?_
    refine qv (m_ld sz3 ag3) ?_
    refine qv m_geq ?_
    refine qx m_mv (fun hg18 => ?_) (fun hg18 => ?_)
    · try simp at hg18
      refine qv m_mv ?_
      refine qv m_mv ?_
      first | refine qv (m_ixN el25 sz3) ?_ | refine qv (m_ix el25 sz3) ?_
      refine qv (m_ld sz3 ag3) ?_
      refine qv m_mv ?_
      refine qv (m_len il25) ?_
      refine qv m_lss ?_
      refine qv m_pk ?_
      show AWp cx _ _ _
      refine cd (fun hc1 => ?_) (fun hc1 => ?_)
      · try simp at hc1
        have hq := tok_here (m := m) (q := sg set i) (by simp_all; try omega) (by simp_all; try omega)
        refine rg ?_
        refine qv m_mv ?_
        refine qv m_mv ?_
        refine qv m_mv ?_
        refine qv m_mv ?_
        first | refine qv (m_ixN el25 sz3) ?_ | refine qv (m_ix el25 sz3) ?_
        refine qv (m_ld sz3 ag3) ?_
        first | refine qv (m_ixN el25 sz3) ?_ | refine qv (m_ix el25 sz3) ?_
        refine qv (m_ld sz3 ag3) ?_
        refine qv m_add ?_
        refine qv m_as ?_
        show AWp cx _ _ _
        refine rg ?_
        refine qv m_mv ?_
        refine qv m_add ?_
        refine qv m_as ?_
        exact ⟨i + 1, hin, (by simp only; omega), (tl [] (hF := by simp [FLe, svLe, lk, mkM, isLive, tauL, hsn, *]) (hM := by simp [MLe, blkLe, svLe, svLes, lk, mkM, isLive, tauL, svLes_ints, svLes_self, isDvs, isDvs_map, isDvs_app, isDvs_take, isDvs_set, isDvs_repl, hsn, *]))⟩
      · try simp at hc1
        refine awp_skip ?_
        show AWp cx _ _ _
        refine rg ?_
        refine qv m_mv ?_
        refine qv m_add ?_
        refine qv m_as ?_
        exact ⟨i + 1, hin, (by simp only; omega), (tl [] (hF := by simp [FLe, svLe, lk, mkM, isLive, tauL, hsn, *]) (hM := by simp [MLe, blkLe, svLe, svLes, lk, mkM, isLive, tauL, svLes_ints, svLes_self, isDvs, isDvs_map, isDvs_app, isDvs_take, isDvs_set, isDvs_repl, hsn, *]))⟩
    · try simp at hg18
      refine qk ?_
      refine qk ?_
      refine qk ?_
      refine qk ?_
      refine qk ?_
      refine qk ?_
      refine qk ?_
      refine qv m_pk ?_
      show AWp cx _ _ _
      refine cdF (hb := by first | rfl | simp | simp_all) (ht := ?_)
      refine awp_skip ?_
      show AWp cx _ _ _
      refine rg ?_
      refine qv m_mv ?_
      refine qv m_add ?_
      refine qv m_as ?_
      exact ⟨i + 1, hin, (by simp only; omega), (tl [] (hF := by simp [FLe, svLe, lk, mkM, isLive, tauL, hsn, *]) (hM := by simp [MLe, blkLe, svLe, svLes, lk, mkM, isLive, tauL, svLes_ints, svLes_self, isDvs, isDvs_map, isDvs_app, isDvs_take, isDvs_set, isDvs_repl, hsn, *]))⟩
  · try simp at hc0
    refine awp_exit ?_
    show AWp cx _ _ _
    refine awp_seq ?_
    refine rg ?_
    refine qv m_mv ?_
    refine qv m_as ?_
    show AWp cx _ _ _
    refine awp_ret ?_
    exact x1 (hr := (rI_ (by rw [List.take_of_length_le (by omega)])))
set_option maxHeartbeats 4000000 in
theorem f13 (y : Yd) (x : Pr) (l : List Int) : ACallsF Try.prog 13 [dYd y, dPr x, ints l] (.one (.dv (.bool true))) := by
  refine callsF_of Try.func13 rfl rfl (by rw [Try.ntmps13]; simp) fun cx hP hn hg => ?_
  rw [Try.ntmps13] at hn
  rw [startF_lk, none_mkM]
  simp only [List.nil_append, List.append_nil, List.cons_append, zipSV, Nat.reduceAdd]
  refine awp_seq ?_
  refine rg ?_
  refine qp m_box ?_
  refine qp m_box ?_
  refine qv m_as ?_
  show AWp cx _ _ _
  refine awp_seq ?_
  refine awp_seq ?_
  refine rg ?_
  refine qv (m_ldpa sz24 ag24) ?_
  refine qqF (f16 y) ?_
  refine qx m_mv (fun hg16 => ?_) (fun hg16 => ?_)
  · try simp at hg16
    refine qk ?_
    refine qk ?_
    refine qk ?_
    refine qv m_pk ?_
    refine qv m_mv ?_
    refine qk ?_
    refine qk ?_
    refine qk ?_
    refine qv m_pk ?_
    refine qv m_mv ?_
    refine qk ?_
    refine qk ?_
    refine qv m_pk ?_
    show AWp cx _ _ _
    refine cdT (hb := by first | rfl | simp | simp_all) (ht := ?_)
    refine awp_seq ?_
    refine rg ?_
    refine qqF (f18) ?_
    refine qv m_as ?_
    show AWp cx _ _ _
    refine awp_ret ?_
    exact x1 (hr := (rB_))
  · try simp at hg16
    refine qv (m_fdp fd43_0) ?_
    refine qv (m_ldp sz25 ag25) ?_
    refine qqF (f17 x.m) ?_
    refine qv m_pk ?_
    refine qx m_mv (fun hg21 => ?_) (fun hg21 => ?_)
    · try simp at hg21
      refine qk ?_
      refine qk ?_
      refine qk ?_
      refine qv m_pk ?_
      refine qv m_mv ?_
      refine qk ?_
      refine qk ?_
      refine qv m_pk ?_
      show AWp cx _ _ _
      refine cdT (hb := by first | rfl | simp | simp_all) (ht := ?_)
      refine awp_seq ?_
      refine rg ?_
      refine qqF (f18) ?_
      refine qv m_as ?_
      show AWp cx _ _ _
      refine awp_ret ?_
      exact x1 (hr := (rB_))
    · try simp at hg21
      refine qv (m_fdp fd43_1) ?_
      refine qv (m_ldp sz25 ag25) ?_
      refine qqF (f17 x.goal) ?_
      refine qv m_pk ?_
      refine qx m_mv (fun hg26 => ?_) (fun hg26 => ?_)
      · try simp at hg26
        refine qk ?_
        refine qk ?_
        refine qv m_pk ?_
        show AWp cx _ _ _
        refine cdT (hb := by first | rfl | simp | simp_all) (ht := ?_)
        refine awp_seq ?_
        refine rg ?_
        refine qqF (f18) ?_
        refine qv m_as ?_
        show AWp cx _ _ _
        refine awp_ret ?_
        exact x1 (hr := (rB_))
      · try simp at hg26
        refine qv m_mv ?_
        refine qqF (f17 l) ?_
        refine qv m_pk ?_
        show AWp cx _ _ _
        refine cd (fun hc0 => ?_) (fun hc0 => ?_)
        · try simp at hc0
          refine awp_seq ?_
          refine rg ?_
          refine qqF (f18) ?_
          refine qv m_as ?_
          show AWp cx _ _ _
          refine awp_ret ?_
          exact x1 (hr := (rB_))
        · try simp at hc0
          refine awp_skip ?_
          show AWp cx _ _ _
          refine awp_seq ?_
          refine rg ?_
          refine qv (m_ldpa sz24 ag24) ?_
          refine qv (m_fdp fd43_0) ?_
          refine qv (m_ldp sz25 ag25) ?_
          refine qv m_mv ?_
          refine qqF (f19 y x.m l) ?_
          refine qv m_mv ?_
          refine qv m_ext ?_
          refine qv m_ext ?_
          refine qv m_ext ?_
          refine qv m_as ?_
          refine qv m_as ?_
          refine qv m_as ?_
          show AWp cx _ _ _
          refine awp_seq ?_
          refine awp_seq ?_
          refine rg ?_
          refine qv m_mv ?_
          refine qv m_neq ?_
          show AWp cx _ _ _
          refine cd (fun hc1 => ?_) (fun hc1 => ?_)
          · try simp at hc1
            refine awp_seq ?_
            refine rg ?_
            refine qqF (f18) ?_
            refine qv m_as ?_
            show AWp cx _ _ _
            refine awp_ret ?_
            exact x1 (hr := (rB_))
          · try simp at hc1
            refine awp_skip ?_
            show AWp cx _ _ _
            refine awp_seq ?_
            refine rg ?_
            obtain ⟨b1, b2, b3, b4, b5, b6⟩ := stays_ok (y := y) (m := x.m) (l := l) (g := x.goal) hc1
            refine qv (m_ldpa sz24 ag24) ?_
            refine qv (m_fdp fd43_1) ?_
            refine qv (m_ldp sz25 ag25) ?_
            refine qqA (f48 y x.goal) ?_
            refine qv m_mv ?_
            refine qv m_ext ?_
            refine qv m_ext ?_
            refine qv m_as ?_
            refine qv m_as ?_
            show AWp cx _ _ _
            refine awp_seq ?_
            refine rg ?_
            refine qv (m_ldpa sz24 ag24) ?_
            refine qv (m_fdp fd43_1) ?_
            refine qv (m_ldp sz25 ag25) ?_
            refine qqA (f49 y x.goal) ?_
            refine qv m_mv ?_
            refine qv m_ext ?_
            refine qv m_ext ?_
            refine qv m_as ?_
            refine qv m_as ?_
            show AWp cx _ _ _
            refine awp_seq ?_
            refine awp_seq ?_
            refine rg ?_
            refine qv m_mv ?_
            refine qv m_eql ?_
            refine qx m_mv (fun hg59 => ?_) (fun hg59 => ?_)
            · try simp at hg59
              refine qv (m_fdp fd43_0) ?_
              refine qv (m_ldp sz25 ag25) ?_
              refine qv m_mv ?_
              refine qqF (f50 x.m (siphR y x.goal).1 b1 (by omega)) ?_
              refine qv m_eql ?_
              refine qv m_pk ?_
              refine qx m_mv (fun hg66 => ?_) (fun hg66 => ?_)
              · try simp at hg66
                refine qv m_mv ?_
                refine qv m_mv ?_
                refine qqF (f50 (runR y x.m l).1 (siphR y x.goal).1 b2 (by omega)) ?_
                refine qv m_neq ?_
                refine qv m_pk ?_
                show AWp cx _ _ _
                refine cdF (hb := by simp_all) (ht := ?_)
                refine awp_skip ?_
                show AWp cx _ _ _
                refine awp_seq ?_
                refine rg ?_
                refine qv m_mv ?_
                refine qv m_neq ?_
                refine qx m_mv (fun hg74 => ?_) (fun hg74 => ?_)
                · try simp at hg74
                  refine qk ?_
                  refine qk ?_
                  refine qk ?_
                  refine qk ?_
                  refine qk ?_
                  refine qv m_pk ?_
                  refine qv m_mv ?_
                  refine qk ?_
                  refine qk ?_
                  refine qk ?_
                  refine qk ?_
                  refine qv m_pk ?_
                  refine qv m_mv ?_
                  refine qqF (f18) ?_
                  refine qv m_pk ?_
                  refine qv m_as ?_
                  show AWp cx _ _ _
                  refine awp_ret ?_
                  exact x1 (hr := (rB_))
                · try simp at hg74
                  refine qv (m_fdp fd43_0) ?_
                  refine qv (m_ldp sz25 ag25) ?_
                  refine qv m_mv ?_
                  refine qqF (f50 x.m (trapR y x.goal).1 b1 (by omega)) ?_
                  refine qv m_eql ?_
                  refine qv m_pk ?_
                  refine qx m_mv (fun hg81 => ?_) (fun hg81 => ?_)
                  · try simp at hg81
                    refine qk ?_
                    refine qk ?_
                    refine qk ?_
                    refine qk ?_
                    refine qv m_pk ?_
                    refine qv m_mv ?_
                    refine qqF (f18) ?_
                    refine qv m_pk ?_
                    refine qv m_as ?_
                    show AWp cx _ _ _
                    refine awp_ret ?_
                    exact x1 (hr := (rB_))
                  · try simp at hg81
                    refine qv m_mv ?_
                    refine qv m_mv ?_
                    refine qqF (f50 (runR y x.m l).1 (trapR y x.goal).1 b2 (by omega)) ?_
                    refine qv m_gtr ?_
                    refine qv m_pk ?_
                    refine qx m_mv (fun hg87 => ?_) (fun hg87 => ?_)
                    rotate_left
                    · exact absurd hg87 (by simp_all; try omega)
                    refine qqF (f18) ?_
                    refine qv m_pk ?_
                    refine qv m_as ?_
                    show AWp cx _ _ _
                    refine awp_ret ?_
                    exact x1 (hr := (rB_))
              · try simp at hg66
                refine qk ?_
                refine qk ?_
                refine qk ?_
                refine qk ?_
                refine qv m_pk ?_
                show AWp cx _ _ _
                refine cdF (hb := by first | rfl | simp | simp_all) (ht := ?_)
                refine awp_skip ?_
                show AWp cx _ _ _
                refine awp_seq ?_
                refine rg ?_
                refine qv m_mv ?_
                refine qv m_neq ?_
                refine qx m_mv (fun hg74 => ?_) (fun hg74 => ?_)
                · try simp at hg74
                  refine qk ?_
                  refine qk ?_
                  refine qk ?_
                  refine qk ?_
                  refine qk ?_
                  refine qv m_pk ?_
                  refine qv m_mv ?_
                  refine qk ?_
                  refine qk ?_
                  refine qk ?_
                  refine qk ?_
                  refine qv m_pk ?_
                  refine qv m_mv ?_
                  refine qqF (f18) ?_
                  refine qv m_pk ?_
                  refine qv m_as ?_
                  show AWp cx _ _ _
                  refine awp_ret ?_
                  exact x1 (hr := (rB_))
                · try simp at hg74
                  refine qv (m_fdp fd43_0) ?_
                  refine qv (m_ldp sz25 ag25) ?_
                  refine qv m_mv ?_
                  refine qqF (f50 x.m (trapR y x.goal).1 b1 (by omega)) ?_
                  refine qv m_eql ?_
                  refine qv m_pk ?_
                  refine qx m_mv (fun hg81 => ?_) (fun hg81 => ?_)
                  · try simp at hg81
                    refine qk ?_
                    refine qk ?_
                    refine qk ?_
                    refine qk ?_
                    refine qv m_pk ?_
                    refine qv m_mv ?_
                    refine qqF (f18) ?_
                    refine qv m_pk ?_
                    refine qv m_as ?_
                    show AWp cx _ _ _
                    refine awp_ret ?_
                    exact x1 (hr := (rB_))
                  · try simp at hg81
                    refine qv m_mv ?_
                    refine qv m_mv ?_
                    refine qqF (f50 (runR y x.m l).1 (trapR y x.goal).1 b2 (by omega)) ?_
                    refine qv m_gtr ?_
                    refine qv m_pk ?_
                    refine qx m_mv (fun hg87 => ?_) (fun hg87 => ?_)
                    rotate_left
                    · exact absurd hg87 (by simp_all; try omega)
                    refine qqF (f18) ?_
                    refine qv m_pk ?_
                    refine qv m_as ?_
                    show AWp cx _ _ _
                    refine awp_ret ?_
                    exact x1 (hr := (rB_))
            · try simp at hg59
              refine qk ?_
              refine qk ?_
              refine qk ?_
              refine qk ?_
              refine qk ?_
              refine qv m_pk ?_
              refine qv m_mv ?_
              refine qk ?_
              refine qk ?_
              refine qk ?_
              refine qk ?_
              refine qv m_pk ?_
              show AWp cx _ _ _
              refine cdF (hb := by first | rfl | simp | simp_all) (ht := ?_)
              refine awp_skip ?_
              show AWp cx _ _ _
              refine awp_seq ?_
              refine rg ?_
              refine qv m_mv ?_
              refine qv m_neq ?_
              refine qx m_mv (fun hg74 => ?_) (fun hg74 => ?_)
              · try simp at hg74
                refine qk ?_
                refine qk ?_
                refine qk ?_
                refine qk ?_
                refine qk ?_
                refine qv m_pk ?_
                refine qv m_mv ?_
                refine qk ?_
                refine qk ?_
                refine qk ?_
                refine qk ?_
                refine qv m_pk ?_
                refine qv m_mv ?_
                refine qqF (f18) ?_
                refine qv m_pk ?_
                refine qv m_as ?_
                show AWp cx _ _ _
                refine awp_ret ?_
                exact x1 (hr := (rB_))
              · try simp at hg74
                refine qv (m_fdp fd43_0) ?_
                refine qv (m_ldp sz25 ag25) ?_
                refine qv m_mv ?_
                refine qqF (f50 x.m (trapR y x.goal).1 b1 (by omega)) ?_
                refine qv m_eql ?_
                refine qv m_pk ?_
                refine qx m_mv (fun hg81 => ?_) (fun hg81 => ?_)
                · try simp at hg81
                  refine qk ?_
                  refine qk ?_
                  refine qk ?_
                  refine qk ?_
                  refine qv m_pk ?_
                  refine qv m_mv ?_
                  refine qqF (f18) ?_
                  refine qv m_pk ?_
                  refine qv m_as ?_
                  show AWp cx _ _ _
                  refine awp_ret ?_
                  exact x1 (hr := (rB_))
                · try simp at hg81
                  refine qv m_mv ?_
                  refine qv m_mv ?_
                  refine qqF (f50 (runR y x.m l).1 (trapR y x.goal).1 b2 (by omega)) ?_
                  refine qv m_gtr ?_
                  refine qv m_pk ?_
                  refine qx m_mv (fun hg87 => ?_) (fun hg87 => ?_)
                  rotate_left
                  · exact absurd hg87 (by simp_all; try omega)
                  refine qqF (f18) ?_
                  refine qv m_pk ?_
                  refine qv m_as ?_
                  show AWp cx _ _ _
                  refine awp_ret ?_
                  exact x1 (hr := (rB_))
end Go.Ab.Try
set_option linter.all false
namespace Go.Ab.Try
open Go Go.Ab Go.Proofs
theorem noMeet {l set : List Int} (h : ∀ j, j < set.length → ¬ 0 < sg l (sg set j).toNat) : meets l set = false := by
  cases hm : meets l set with
  | false => rfl
  | true =>
    obtain ⟨p, hp, hq⟩ := meets_iff.1 hm
    obtain ⟨j, hj, rfl⟩ := List.getElem_of_mem hp
    refine absurd ?_ (h j hj)
    simpa [sg, hj] using hq
def okB (tc nd : Stp → List Int) (set : List Int) (s : Stp) : Bool := !(meets (tc s) set && !meets (nd s) set)
theorem srtB_no {tc nd : Stp → List Int} {y : Yd} {set : List Int} {s : Stp} (hs : s ∈ y.steps) (h : okB tc nd set s = false) : srtB tc nd y set = false := by
  unfold srtB
  unfold okB at h
  simp only [Bool.not_eq_false', List.any_eq_true]
  exact ⟨s, hs, by simpa using h⟩
theorem srtB_yes {tc nd : Stp → List Int} {y : Yd} {set : List Int} (h : ∀ j s, j < y.steps.length → y.steps[j]? = some s → okB tc nd set s = true) : srtB tc nd y set = true := by
  unfold srtB
  simp only [Bool.not_eq_true', List.any_eq_false]
  intro s hs
  obtain ⟨j, hj, rfl⟩ := List.getElem_of_mem hs
  have := h j _ hj (List.getElem?_eq_getElem hj)
  unfold okB at this
  cases h1 : meets (tc y.steps[j]) set <;> cases h2 : meets (nd y.steps[j]) set <;> simp_all
theorem f109 (l set : List Int) (hs : InL set l) (hl : set.length < 1000000) : ACallsF Try.prog 109 [ints l, ints set] (.one (.dv (.bool (meets l set)))) := by
  refine callsF_of Try.func109 rfl rfl (by rw [Try.ntmps109]; simp) fun cx hP hn hg => ?_
  rw [Try.ntmps109] at hn
  rw [startF_lk, none_mkM]
  simp only [List.nil_append, List.append_nil, List.cons_append, zipSV, Nat.reduceAdd]
  refine awp_seq ?_
  refine rg ?_
  refine qv m_as ?_
  show AWp cx _ _ _
  refine awp_seq ?_
  refine awp_seq ?_
  refine rg ?_
  refine qv m_as ?_
  show AWp cx _ _ _
  refine awp_block ?_
  refine awp_loop (ι := Nat) (fun i => ⟨lk [(0, .dv (ints (l))), (1, .dv (ints (set))), (5, .dv (i64 (i : Nat)))], mkM []⟩) (fun i => i ≤ set.length ∧ ∀ j, j < i → j < set.length → ¬ 0 < sg l (sg set j).toNat) (fun i => set.length - i) 0 (by simp) (tl []) ?_
  intro i hφ0
  refine awp_seq ?_
  refine awp_seq ?_
  refine rg ?_
  refine qv m_mv ?_
  refine qv m_mv ?_
  refine qv (m_len il25) ?_
  refine qv m_lss ?_
  show AWp cx _ _ _
  refine cd (fun hc0 => ?_) (fun hc0 => ?_)
  · try simp at hc0
    refine awp_skip ?_
    show AWp cx _ _ _
    refine awp_seq ?_
    refine awp_block ?_
    refine awp_seq ?_
    refine rg ?_
    have hin : i < set.length := by omega
    have hgi := sg_get hin
    have hpi := hs _ (List.mem_of_getElem? hgi)
    have hgl : l[(sg set i).toNat]? = some (sg l (sg set i).toNat) := sg_get (by omega)
    refine qv m_mv ?_
    refine qv m_mv ?_
    refine qv m_mv ?_
    first | refine qv (m_ixN el25 sz3) ?_ | refine qv (m_ix el25 sz3) ?_
    refine qv (m_ld sz3 ag3) ?_
    first | refine qv (m_ixN el25 sz3) ?_ | refine qv (m_ix el25 sz3) ?_
    refine qv (m_ld sz3 ag3) ?_
    refine qv m_gtr ?_
    show AWp cx _ _ _
    refine cd (fun hc1 => ?_) (fun hc1 => ?_)
    · try simp at hc1
      refine awp_seq ?_
      refine rg ?_
      refine qv m_as ?_
      show AWp cx _ _ _
      refine awp_ret ?_
      exact x1 (hr := (rB_ (by rw [meets_iff.2 ⟨_, List.mem_of_getElem? hgi, by omega⟩])))
    · try simp at hc1
      refine awp_skip ?_
      show AWp cx _ _ _
      refine rg ?_
      refine qv m_mv ?_
      refine qv m_add ?_
      refine qv m_as ?_
      refine ⟨i + 1, ?_, (by simp only; omega), (tl [])⟩
      refine ⟨hin, fun j hj h => ?_⟩
      rcases Nat.lt_or_ge j i with h1 | h1
      · exact hφ0.2 j h1 h
      · obtain rfl : j = i := by omega
        omega
  · try simp at hc0
    refine awp_exit ?_
    show AWp cx _ _ _
    refine awp_seq ?_
    refine rg ?_
    refine qv m_as ?_
    show AWp cx _ _ _
    refine awp_ret ?_
    exact x1 (hr := (rB_ (by rw [noMeet fun j hj => hφ0.2 j (by omega) hj])))
theorem f96 (y : Yd) (set : List Int) (h1 : ∀ s ∈ y.steps, InL set s.give) (h2 : ∀ s ∈ y.steps, InL set s.take) (hl : set.length < 1000000) (hy : y.steps.length < 1000000) : ACallsF Try.prog 96 [dYd y, ints set] (.one (.dv (.bool (srtB giveS takeS y set)))) := by
  refine callsF_of Try.func96 rfl rfl (by rw [Try.ntmps96]; simp) fun cx hP hn hg => ?_
  rw [Try.ntmps96] at hn
  rw [startF_lk, none_mkM]
  simp only [List.nil_append, List.append_nil, List.cons_append, zipSV, Nat.reduceAdd]
  refine awp_seq ?_
  refine rg ?_
  refine qp m_box ?_
  refine qv m_as ?_
  show AWp cx _ _ _
  refine awp_seq ?_
  refine awp_seq ?_
  refine rg ?_
  refine qv m_as ?_
  show AWp cx _ _ _
  refine awp_block ?_
  refine awp_loop (ι := Nat) (fun i => ⟨lk [(1, .dv (ints (set))), (2, .pt 2 0 0), (5, .dv (i64 (i : Nat)))], mkM [(2, 0, some ⟨[.dv (i64 (y.places)), .dv (.list ((y.steps).map dStp))], 0, 24, 0, false⟩)]⟩) (fun i => i ≤ y.steps.length ∧ ∀ j s, j < i → y.steps[j]? = some s → okB giveS takeS set s = true) (fun i => y.steps.length - i) 0 (by simp) (tl [(2, 2)]) ?_
  intro i hφ0
  refine awp_seq ?_
  refine awp_seq ?_
  refine rg ?_
  refine qv m_mv ?_
  refine qv (m_fdp fd24_1) ?_
  refine qv (m_ldp sz22 ag22) ?_
  refine qv (m_len il22) ?_
  refine qv m_lss ?_
  show AWp cx _ _ _
  refine cd (fun hc0 => ?_) (fun hc0 => ?_)
  · try simp at hc0
    refine awp_skip ?_
    show AWp cx _ _ _
    refine awp_seq ?_
    refine awp_block ?_
    refine awp_seq ?_
    refine rg ?_
    have hin : i < y.steps.length := by omega
    obtain ⟨s, hgs⟩ : ∃ s, y.steps[i]? = some s := ⟨_, List.getElem?_eq_getElem hin⟩
    have hsm : s ∈ y.steps := List.mem_of_getElem? hgs
    refine qv (m_fdp fd24_1) ?_
    refine qv (m_ldp sz22 ag22) ?_
    refine qv m_mv ?_
    first | refine qv (m_ixN el22 sz55) ?_ | refine qv (m_ix el22 sz55) ?_
    refine qv (m_fd fd55_1) ?_
    refine qv (m_ld sz25 ag25) ?_
    refine qv m_mv ?_
    refine qqF (f109 s.give set (h1 s hsm) hl) ?_
    refine qx m_mv (fun hg21 => ?_) (fun hg21 => ?_)
    · try simp at hg21
      refine qv (m_fdp fd24_1) ?_
      refine qv (m_ldp sz22 ag22) ?_
      refine qv m_mv ?_
      first | refine qv (m_ixN el22 sz55) ?_ | refine qv (m_ix el22 sz55) ?_
      refine qv (m_fd fd55_0) ?_
      refine qv (m_ld sz25 ag25) ?_
      refine qv m_mv ?_
      refine qqF (f109 s.take set (h2 s hsm) hl) ?_
      refine qv m_not ?_
      refine qv m_pk ?_
      show AWp cx _ _ _
      refine cd (fun hc1 => ?_) (fun hc1 => ?_)
      · try simp at hc1
        refine awp_seq ?_
        refine rg ?_
        refine qv m_as ?_
        show AWp cx _ _ _
        refine awp_ret ?_
        exact x1 (hr := (rB_ (by rw [srtB_no hsm (by simp_all [okB, giveS, takeS])])))
      · try simp at hc1
        refine awp_skip ?_
        show AWp cx _ _ _
        refine rg ?_
        refine qv m_mv ?_
        refine qv m_add ?_
        refine qv m_as ?_
        refine ⟨i + 1, ?_, (by simp only; omega), (tl [(2, 2)])⟩
        refine ⟨hin, fun j s' hj h => ?_⟩
        rcases Nat.lt_or_ge j i with h1 | h1
        · exact hφ0.2 j s' h1 h
        · obtain rfl : j = i := by omega
          rw [hgs] at h; cases h
          simp_all [okB, giveS, takeS]
    · try simp at hg21
      refine qk ?_
      refine qk ?_
      refine qk ?_
      refine qk ?_
      refine qk ?_
      refine qk ?_
      refine qk ?_
      refine qk ?_
      refine qk ?_
      refine qv m_pk ?_
      show AWp cx _ _ _
      refine cdF (hb := by first | rfl | simp | simp_all) (ht := ?_)
      refine awp_skip ?_
      show AWp cx _ _ _
      refine rg ?_
      refine qv m_mv ?_
      refine qv m_add ?_
      refine qv m_as ?_
      refine ⟨i + 1, ?_, (by simp only; omega), (tl [(2, 2)])⟩
      refine ⟨hin, fun j s' hj h => ?_⟩
      rcases Nat.lt_or_ge j i with h1 | h1
      · exact hφ0.2 j s' h1 h
      · obtain rfl : j = i := by omega
        rw [hgs] at h; cases h
        simp_all [okB, giveS, takeS]
  · try simp at hc0
    refine awp_exit ?_
    show AWp cx _ _ _
    refine awp_seq ?_
    refine rg ?_
    refine qv m_as ?_
    show AWp cx _ _ _
    refine awp_ret ?_
    exact x1 (hr := (rB_ (by rw [srtB_yes fun j s hj h => hφ0.2 j s (by omega) h])))
theorem f51 (y : Yd) (set : List Int) : ACallsF Try.prog 51 [dYd y, ints set] (.many [.dv (.bool (isSiphR y set).1), .dv (i64 (isSiphR y set).2)]) := by
  refine callsF_of Try.func51 rfl rfl (by rw [Try.ntmps51]; simp) fun cx hP hn hg => ?_
  rw [Try.ntmps51] at hn
  rw [startF_lk, none_mkM]
  simp only [List.nil_append, List.append_nil, List.cons_append, zipSV, Nat.reduceAdd]
  refine awp_seq ?_
  refine rg ?_
  refine qp m_box ?_
  refine qv m_as ?_
  refine qv m_as ?_
  show AWp cx _ _ _
  refine awp_seq ?_
  refine awp_seq ?_
  refine rg ?_
  refine qv (m_ldpa sz24 ag24) ?_
  refine qv m_mv ?_
  refine qqF (f95 y set) ?_
  refine qv m_as ?_
  show AWp cx _ _ _
  refine awp_seq ?_
  refine rg ?_
  refine qv m_mv ?_
  refine qv m_neq ?_
  show AWp cx _ _ _
  refine cd (fun hc0 => ?_) (fun hc0 => ?_)
  · try simp at hc0
    refine awp_seq ?_
    refine rg ?_
    refine qv m_mv ?_
    refine qv m_as ?_
    refine qv m_as ?_
    show AWp cx _ _ _
    refine awp_ret ?_
    exact x2 (hr := (rB_ (by simp [isSiphR, hc0]))) (hr' := (rI_ (by simp [isSiphR, hc0])))
  · try simp at hc0
    obtain ⟨hv, hok⟩ := placed_ok hc0
    obtain ⟨v1, v2, v3, v4⟩ := validate_ok hv
    have hin := okSet_in hok
    have hsl := okSet_len (by omega) hok
    obtain ⟨i1, i2⟩ := valid_in hv hin
    refine awp_skip ?_
    show AWp cx _ _ _
    refine awp_seq ?_
    refine rg ?_
    refine qv (m_ldpa sz24 ag24) ?_
    refine qv m_mv ?_
    refine qqF (f96 y set i2 i1 (by omega) (by omega)) ?_
    refine qv m_as ?_
    refine qv m_as ?_
    show AWp cx _ _ _
    refine awp_ret ?_
    exact x2 (hr := (rB_ (by simp [isSiphR, hc0]))) (hr' := (rI_ (by simp [isSiphR, hc0])))
end Go.Ab.Try
set_option linter.all false
namespace Go.Ab.Try
open Go Go.Ab Go.Proofs
theorem wrap_u64 {n : Int} (h1 : 0 ≤ n) (h2 : n < 18446744073709551616) : IntKind.u64.wrap n = n := by
  have e : IntKind.u64.wrap n = n % 18446744073709551616 := by
    simp only [IntKind.wrap, IntKind.bits, IntKind.signed]
    rfl
  rw [e]; omega
theorem range_setG {α : Type} {n p : Nat} {f g : Nat → α} {v : α} (h : ∀ q, q < n → q ≠ p → f q = g q) (hv : p < n → v = g p) : ((List.range n).map f).set p v = (List.range n).map g := by
  apply List.ext_getElem
  · simp
  · intro j h1 h2
    have hj : j < n := by simpa using h2
    rw [List.getElem_set]
    split
    · rename_i e; subst e; simpa using hv hj
    · rename_i e; simpa using h j hj (fun e' => e e'.symm)
def selK (set : List Int) (m k : Nat) : List Int := ((List.range k).filter fun i => decide (m / 2 ^ i % 2 = 1)).map (sg set)
def sel (set : List Int) (m : Nat) : List Int := selK set m set.length
theorem selK_yes {set : List Int} {m k : Nat} (h : m / 2 ^ k % 2 = 1) : selK set m (k + 1) = selK set m k ++ [sg set k] := by
  unfold selK
  rw [List.range_succ, List.filter_append]
  simp [h]
theorem selK_no {set : List Int} {m k : Nat} (h : ¬ m / 2 ^ k % 2 = 1) : selK set m (k + 1) = selK set m k := by
  unfold selK
  rw [List.range_succ, List.filter_append]
  simp [h]
theorem selK_zero {set : List Int} {m : Nat} : selK set m 0 = [] := rfl
theorem selK_len {set : List Int} {m k : Nat} : (selK set m k).length ≤ k := by
  unfold selK
  rw [List.length_map]
  exact Nat.le_trans (List.length_filter_le _ _) (by simp)
theorem sel_mem {set : List Int} {m : Nat} {x : Int} (h : x ∈ sel set m) : x ∈ set := by
  unfold sel selK at h
  obtain ⟨i, hi, rfl⟩ := List.mem_map.1 h
  have := List.mem_range.1 (List.mem_filter.1 hi).1
  exact List.mem_of_getElem? (sg_get this)
theorem InL.sel {set l : List Int} {m : Nat} (h : InL set l) : InL (sel set m) l := fun p hp => h p (sel_mem hp)
def inU (y : Yd) (set : List Int) (N : Nat) (p : Int) : Bool := (List.range N).any fun m => srtB giveS takeS y (sel set m) && (sel set m).contains p
theorem inU_succ {y : Yd} {set : List Int} {N : Nat} {p : Int} : inU y set (N + 1) p = (inU y set N p || (srtB giveS takeS y (sel set N) && (sel set N).contains p)) := by
  unfold inU
  rw [List.range_succ, List.any_append]
  simp
def markL (y : Yd) (set : List Int) (m : Nat) : List Bool := (List.range y.places.toNat).map fun p : Nat => inU y set m p
def markJ (y : Yd) (set : List Int) (m j : Nat) : List Bool := (List.range y.places.toNat).map fun p : Nat => inU y set m p || ((sel set m).take j).contains (p : Int)
theorem markL_zero {y : Yd} {set : List Int} : markL y set 0 = List.replicate y.places.toNat false := by
  unfold markL
  apply List.ext_getElem
  · simp
  · intro i h1 h2; simp [inU]
theorem markJ_zero {y : Yd} {set : List Int} {m : Nat} : markJ y set m 0 = markL y set m := by simp [markJ, markL]
theorem markJ_len {y : Yd} {set : List Int} {m j : Nat} : (markJ y set m j).length = y.places.toNat := by simp [markJ]
theorem markJ_set {y : Yd} {set : List Int} {m j : Nat} (hj : j < (sel set m).length) (h0 : 0 ≤ sg (sel set m) j) : (markJ y set m j).set (sg (sel set m) j).toNat true = markJ y set m (j + 1) := by
  unfold markJ
  rw [take_snoc (sg_get hj)]
  refine range_setG (fun q _ hq => ?_) fun _ => ?_
  · have : ¬ (q : Int) = sg (sel set m) j := by omega
    simp [this]
  · have : ((sg (sel set m) j).toNat : Int) = sg (sel set m) j := by omega
    simp [this]
theorem markL_no {y : Yd} {set : List Int} {m : Nat} (h : srtB giveS takeS y (sel set m) = false) : markL y set (m + 1) = markL y set m := by simp [markL, inU_succ, h]
theorem markL_yes {y : Yd} {set : List Int} {m j : Nat} (h : srtB giveS takeS y (sel set m) = true) (hj : (sel set m).length ≤ j) : markJ y set m j = markL y set (m + 1) := by
  simp only [markL, markJ, inU_succ, h, Bool.true_and]
  rw [List.take_of_length_le hj]
def greatK (y : Yd) (set : List Int) (k : Nat) : List Int := ((List.range k).filter fun p : Nat => inU y set (2 ^ set.length) p).map fun p : Nat => (p : Int)
def greatRef (y : Yd) (set : List Int) : List Int := greatK y set y.places.toNat
theorem greatK_yes {y : Yd} {set : List Int} {k : Nat} (h : inU y set (2 ^ set.length) k = true) : greatK y set (k + 1) = greatK y set k ++ [(k : Int)] := by
  unfold greatK
  rw [List.range_succ, List.filter_append]
  simp [h]
theorem greatK_no {y : Yd} {set : List Int} {k : Nat} (h : inU y set (2 ^ set.length) k = false) : greatK y set (k + 1) = greatK y set k := by
  unfold greatK
  rw [List.range_succ, List.filter_append]
  simp [h]
theorem greatK_len {y : Yd} {set : List Int} {k : Nat} : (greatK y set k).length ≤ k := by
  unfold greatK
  rw [List.length_map]
  exact Nat.le_trans (List.length_filter_le _ _) (by simp)
set_option maxHeartbeats 4000000 in
theorem f97 (y : Yd) (set : List Int) (h1 : ∀ s ∈ y.steps, InL set s.give) (h2 : ∀ s ∈ y.steps, InL set s.take) (hin : ∀ x ∈ set, 0 ≤ x ∧ x < y.places) (hl : set.length ≤ 6) (hy : y.steps.length ≤ 6) (hp0 : 0 ≤ y.places) (hp6 : y.places ≤ 6) : ACallsF Try.prog 97 [dYd y, ints set] (.one (rI (greatRef y set))) := by
  have hpw : (2 : Int) ^ set.length ≤ 64 := by
    have := Nat.pow_le_pow_right (n := 2) (by omega) hl
    exact_mod_cast this
  have hpw0 : (0 : Int) ≤ 2 ^ set.length := by
    have := Nat.zero_le (2 ^ set.length)
    exact_mod_cast this
  refine callsF_of Try.func97 rfl rfl (by rw [Try.ntmps97]; simp) fun cx hP hn hg => ?_
  rw [Try.ntmps97] at hn
  rw [startF_lk, none_mkM]
  simp only [List.nil_append, List.append_nil, List.cons_append, zipSV, Nat.reduceAdd]
  refine awp_seq ?_
  refine rg ?_
  refine qp m_box ?_
  refine qv m_as ?_
  show AWp cx _ _ _
  refine awp_seq ?_
  refine rg ?_
  refine qv (m_fdp fd24_0) ?_
  refine qv (m_ldp sz3 ag3) ?_
  refine qr (m_mkB el102 ze4 sz4 by4) ?_
  refine qv m_as ?_
  show AWp cx _ _ _
  refine awp_seq ?_
  refine awp_seq ?_
  refine rg ?_
  refine qv m_as ?_
  show AWp cx _ _ _
  refine awp_block ?_
  refine awp_loop (ι := Nat) (fun m => ⟨lk [(1, .dv (ints (set))), (2, .pt 2 0 0), (5, .sl 5 0 0 y.places.toNat), (6, .dv (i64 (m : Nat)))], mkM [(2, 0, some ⟨[.dv (i64 (y.places)), .dv (.list ((y.steps).map dStp))], 0, 24, 0, false⟩), (5, 0, some (rowT 4 (markL y set m)))]⟩) (fun m => m ≤ 2 ^ set.length) (fun m => 2 ^ set.length - m) 0 (by simp) (tl [(2, 2), (5, 14)] (hF := by simp [FLe, svLe, lk, mkM, isLive, tauL, markL_zero]) (hM := by simp [MLe, blkLe, svLe, svLes, lk, mkM, isLive, tauL, svLes_ints, svLes_self, isDvs, isDvs_map, isDvs_app, isDvs_take, isDvs_set, isDvs_repl, markL_zero])) ?_
  intro m hφ0
  refine awp_seq ?_
  refine awp_seq ?_
  refine rg ?_
  refine qv m_mv ?_
  refine qv m_mv ?_
  refine qv (m_len il25) ?_
  refine qv (m_cnv kd3 kd100 (hw := by rw [wrap_u64 (by omega) (by omega)])) ?_
  refine qv (m_shl (b := set.length)) ?_
  refine qv m_lss ?_
  show AWp cx _ _ _
  refine cd (fun hc0 => ?_) (fun hc0 => ?_)
  · try simp at hc0
    have hm2 : m < 2 ^ set.length := by exact_mod_cast hc0
    refine awp_skip ?_
    show AWp cx _ _ _
    refine awp_seq ?_
    refine awp_block ?_
    refine awp_seq ?_
    refine rg ?_
    refine qv m_as ?_
    show AWp cx _ _ _
    refine awp_seq ?_
    refine awp_seq ?_
    refine rg ?_
    refine qv m_as ?_
    show AWp cx _ _ _
    refine awp_block ?_
    refine awp_loop (ι := Nat) (fun k => ⟨lk [(1, .dv (ints (set))), (2, .pt 2 0 0), (5, .sl 5 0 0 y.places.toNat), (6, .dv (i64 (m : Nat))), (7, .sl 7 0 0 ((selK set m k).length)), (8, .dv (i64 (k : Nat)))], mkM [(2, 0, some ⟨[.dv (i64 (y.places)), .dv (.list ((y.steps).map dStp))], 0, 24, 0, false⟩), (5, 0, some (rowT 4 (markL y set m))), (7, 0, some (rowI (selK set m k)))]⟩) (fun k => k ≤ set.length) (fun k => set.length - k) 0 (by simp) (tl [(2, 2), (5, 5)] (hF := by simp [FLe, svLe, lk, mkM, isLive, tauL, selK_zero]) (hM := by simp [MLe, blkLe, svLe, svLes, lk, mkM, isLive, tauL, svLes_ints, svLes_self, isDvs, isDvs_map, isDvs_app, isDvs_take, isDvs_set, isDvs_repl, selK_zero])) ?_
    intro k hφ1
    refine awp_seq ?_
    refine awp_seq ?_
    refine rg ?_
    refine qv m_mv ?_
    refine qv m_mv ?_
    refine qv (m_len il25) ?_
    refine qv m_lss ?_
    show AWp cx _ _ _
    refine cd (fun hc1 => ?_) (fun hc1 => ?_)
    · try simp at hc1
      refine awp_skip ?_
      show AWp cx _ _ _
      refine awp_seq ?_
      refine awp_block ?_
      refine awp_seq ?_
      refine rg ?_
      have hk2 : k < set.length := by omega
      have hgk := sg_get hk2
      have hmk := Nat.div_le_self m (2 ^ k)
      have hsl := selK_len (set := set) (m := m) (k := k)
      have hm64 : m < 64 := by
        have : (m : Int) < 64 := by have : (m : Int) < 2 ^ set.length := by exact_mod_cast hm2
                                    omega
        omega
      refine qv m_mv ?_
      refine qv m_mv ?_
      refine qv (m_cnv kd3 kd100 (hw := by rw [wrap_u64 (by omega) (by omega)])) ?_
      refine qv (m_shr (a := m) (b := k)) ?_
      refine qv (m_and1 (a := m / 2 ^ k) (by omega)) ?_
      refine qv m_eql ?_
      show AWp cx _ _ _
      refine cd (fun hc2 => ?_) (fun hc2 => ?_)
      · try simp at hc2
        have hsk := selK_yes (set := set) (m := m) (k := k) (by exact_mod_cast hc2)
        refine rg ?_
        refine qv m_mv ?_
        refine qv m_mv ?_
        refine qv m_mv ?_
        first | refine qv (m_ixN el25 sz3) ?_ | refine qv (m_ix el25 sz3) ?_
        refine qv (m_ld sz3 ag3) ?_
        refine qr (m_bsl el25 ze3 sz3) ?_
        refine qa1 (m_app1 el25 el25 ze3 sz3 by3) ?_
        refine qv m_as ?_
        show AWp cx _ _ _
        refine rg ?_
        refine qv m_mv ?_
        refine qv m_add ?_
        refine qv m_as ?_
        exact ⟨k + 1, hk2, (by simp only; omega), (tl [(2, 2), (5, 5), (7, 41)] (hF := by simp [FLe, svLe, lk, mkM, isLive, tauL, hsk]) (hM := by simp [MLe, blkLe, svLe, svLes, lk, mkM, isLive, tauL, svLes_ints, svLes_self, isDvs, isDvs_map, isDvs_app, isDvs_take, isDvs_set, isDvs_repl, hsk]))⟩
      · try simp at hc2
        have hsk := selK_no (set := set) (m := m) (k := k) (fun h => hc2 (by exact_mod_cast h))
        refine awp_skip ?_
        show AWp cx _ _ _
        refine rg ?_
        refine qv m_mv ?_
        refine qv m_add ?_
        refine qv m_as ?_
        exact ⟨k + 1, hk2, (by simp only; omega), (tl [(2, 2), (5, 5), (7, 7)] (hF := by simp [FLe, svLe, lk, mkM, isLive, tauL, hsk]) (hM := by simp [MLe, blkLe, svLe, svLes, lk, mkM, isLive, tauL, svLes_ints, svLes_self, isDvs, isDvs_map, isDvs_app, isDvs_take, isDvs_set, isDvs_repl, hsk]))⟩
    · try simp at hc1
      refine awp_exit ?_
      show AWp cx _ _ _
      refine awp_seq ?_
      refine awp_seq ?_
      refine rg ?_
      have hse : selK set m k = sel set m := by
        rw [show k = set.length by omega]; rfl
      have hlse := congrArg List.length hse
      have hsl := selK_len (set := set) (m := m) (k := k)
      refine qv (m_ldpa sz24 ag24) ?_
      refine qv m_mv ?_
      refine qqF (f96 y (sel set m) (fun s hs => (h1 s hs).sel) (fun s hs => (h2 s hs).sel) (by omega) (by omega)) ?_ (ha := (args_cons data_dv (args_cons (data_ints (L := sel set m) (by simp only [mkM, reduceIte, Nat.reduceEqDiff, hse] <;> rfl) trivial (by rw [hse]) rfl rfl (fun _ => trivial)) args_nil)))
      refine qv m_not ?_
      show AWp cx _ _ _
      refine cd (fun hc3 => ?_) (fun hc3 => ?_)
      · try simp at hc3
        have hmk := markL_no (y := y) (set := set) (m := m) hc3
        refine awp_exit ?_
        show AWp cx _ _ _
        refine rg ?_
        refine qv m_mv ?_
        refine qv m_add ?_
        refine qv m_as ?_
        exact ⟨m + 1, hm2, (by simp only; omega), (tl [(2, 2), (5, 5)] (hF := by simp [FLe, svLe, lk, mkM, isLive, tauL, hmk]) (hM := by simp [MLe, blkLe, svLe, svLes, lk, mkM, isLive, tauL, svLes_ints, svLes_self, isDvs, isDvs_map, isDvs_app, isDvs_take, isDvs_set, isDvs_repl, hmk]))⟩
      · try simp at hc3
        refine awp_skip ?_
        show AWp cx _ _ _
        refine awp_seq ?_
        refine rg ?_
        refine qv m_as ?_
        show AWp cx _ _ _
        refine awp_block ?_
        refine awp_loop (ι := Nat) (fun j => ⟨lk [(1, .dv (ints (set))), (2, .pt 2 0 0), (5, .sl 5 0 0 y.places.toNat), (6, .dv (i64 (m : Nat))), (7, .sl 7 0 0 (selK set m k).length), (9, .dv (i64 (j : Nat)))], mkM [(2, 0, some ⟨[.dv (i64 (y.places)), .dv (.list ((y.steps).map dStp))], 0, 24, 0, false⟩), (5, 0, some (rowT 4 (markJ y set m j))), (7, 0, some (rowI (selK set m k)))]⟩) (fun j => j ≤ (sel set m).length) (fun j => (sel set m).length - j) 0 (by simp) (tl [(2, 2), (5, 5), (7, 7)] (hF := by simp [FLe, svLe, lk, mkM, isLive, tauL, markJ_zero]) (hM := by simp [MLe, blkLe, svLe, svLes, lk, mkM, isLive, tauL, svLes_ints, svLes_self, isDvs, isDvs_map, isDvs_app, isDvs_take, isDvs_set, isDvs_repl, markJ_zero])) ?_
        intro j hφ2
        refine awp_seq ?_
        refine awp_seq ?_
        refine rg ?_
        refine qv m_mv ?_
        refine qv m_mv ?_
        refine qv (m_lenR il25) ?_
        refine qv m_lss ?_
        show AWp cx _ _ _
        refine cd (fun hc4 => ?_) (fun hc4 => ?_)
        · try simp at hc4
          refine awp_skip ?_
          show AWp cx _ _ _
          refine awp_seq ?_
          refine awp_block ?_
          refine rg ?_
          have hj2 : j < (sel set m).length := by omega
          have hgj := sg_get hj2
          have hpj := hin _ (sel_mem (List.mem_of_getElem? hgj))
          have hjs := markJ_set (y := y) hj2 hpj.1
          have hgj2 : (selK set m k)[j]? = some (sg (sel set m) j) := by rw [hse]; exact hgj
          have hmjl := markJ_len (y := y) (set := set) (m := m) (j := j)
          refine qv m_mv ?_
          refine qv m_mv ?_
          refine qv m_mv ?_
          refine qv (m_ixR el25 sz3) ?_
          first | refine qv (m_ldI sz3 ag3) ?_ | refine qv (m_ldp sz3 ag3) ?_
          refine qv (m_ixR el102 sz4) ?_
          refine qs (m_stB sz4 (ho := by rw [markJ_len]; omega)) ?_
          show AWp cx _ _ _
          refine rg ?_
          refine qv m_mv ?_
          refine qv m_add ?_
          refine qv m_as ?_
          exact ⟨j + 1, hj2, (by simp only; omega), (tl [(2, 2), (5, 5), (7, 7)] (hF := by simp [FLe, svLe, lk, mkM, isLive, tauL, hjs]) (hM := by simp [MLe, blkLe, svLe, svLes, lk, mkM, isLive, tauL, svLes_ints, svLes_self, isDvs, isDvs_map, isDvs_app, isDvs_take, isDvs_set, isDvs_repl, hjs]))⟩
        · try simp at hc4
          have hmk := (markL_yes (y := y) (set := set) (m := m) (j := j) hc3 (by omega))
          refine awp_exit ?_
          show AWp cx _ _ _
          refine rg ?_
          refine qv m_mv ?_
          refine qv m_add ?_
          refine qv m_as ?_
          exact ⟨m + 1, hm2, (by simp only; omega), (tl [(2, 2), (5, 5)] (hF := by simp [FLe, svLe, lk, mkM, isLive, tauL, hmk]) (hM := by simp [MLe, blkLe, svLe, svLes, lk, mkM, isLive, tauL, svLes_ints, svLes_self, isDvs, isDvs_map, isDvs_app, isDvs_take, isDvs_set, isDvs_repl, hmk]))⟩
  · try simp at hc0
    refine awp_exit ?_
    show AWp cx _ _ _
    refine awp_seq ?_
    refine rg ?_
    refine qv m_as ?_
    show AWp cx _ _ _
    refine awp_seq ?_
    refine awp_seq ?_
    refine rg ?_
    refine qv m_as ?_
    show AWp cx _ _ _
    refine awp_block ?_
    refine awp_loop (ι := Nat) (fun k => ⟨lk [(2, .pt 2 0 0), (5, .sl 5 0 0 y.places.toNat), (10, .sl 10 0 0 ((greatK y set k).length)), (11, .dv (i64 (k : Nat)))], mkM [(2, 0, some ⟨[.dv (i64 (y.places)), .dv (.list ((y.steps).map dStp))], 0, 24, 0, false⟩), (5, 0, some (rowT 4 (markL y set m))), (10, 0, some (rowI (greatK y set k)))]⟩) (fun k => k ≤ y.places.toNat) (fun k => y.places.toNat - k) 0 (by simp) (tl [(2, 2), (5, 5)] (hF := by simp [FLe, svLe, lk, mkM, isLive, tauL, greatK]) (hM := by simp [MLe, blkLe, svLe, svLes, lk, mkM, isLive, tauL, svLes_ints, svLes_self, isDvs, isDvs_map, isDvs_app, isDvs_take, isDvs_set, isDvs_repl, greatK])) ?_
    intro k hφ3
    refine awp_seq ?_
    refine awp_seq ?_
    refine rg ?_
    refine qv m_mv ?_
    refine qv (m_fdp fd24_0) ?_
    refine qv (m_ldp sz3 ag3) ?_
    refine qv m_lss ?_
    show AWp cx _ _ _
    refine cd (fun hc5 => ?_) (fun hc5 => ?_)
    · try simp at hc5
      refine awp_skip ?_
      show AWp cx _ _ _
      refine awp_seq ?_
      refine awp_block ?_
      refine awp_seq ?_
      refine rg ?_
      have hk2 : k < y.places.toNat := by omega
      have hm3 : m = 2 ^ set.length := Nat.le_antisymm hφ0 (by exact_mod_cast hc0)
      have hmk : (markL y set m)[k]? = some (inU y set (2 ^ set.length) k) := by
        rw [hm3]; simp [markL, hk2]
      have hgl := greatK_len (y := y) (set := set) (k := k)
      refine qv m_mv ?_
      refine qv m_mv ?_
      refine qv (m_ixR el102 sz4) ?_
      refine qv (m_ldB sz4 ag4 (q := inU y set (2 ^ set.length) k) (hq := hmk)) ?_
      show AWp cx _ _ _
      refine cd (fun hc6 => ?_) (fun hc6 => ?_)
      · try simp at hc6
        have hgk := greatK_yes hc6
        refine rg ?_
        refine qv m_mv ?_
        refine qv m_mv ?_
        refine qr (m_bsl el25 ze3 sz3) ?_
        refine qa1 (m_app1 el25 el25 ze3 sz3 by3) ?_
        refine qv m_as ?_
        show AWp cx _ _ _
        refine rg ?_
        refine qv m_mv ?_
        refine qv m_add ?_
        refine qv m_as ?_
        exact ⟨k + 1, hk2, (by simp only; omega), (tl [(2, 2), (5, 5), (10, 71)] (hF := by simp [FLe, svLe, lk, mkM, isLive, tauL, hgk]) (hM := by simp [MLe, blkLe, svLe, svLes, lk, mkM, isLive, tauL, svLes_ints, svLes_self, isDvs, isDvs_map, isDvs_app, isDvs_take, isDvs_set, isDvs_repl, hgk]))⟩
      · try simp at hc6
        have hgk := greatK_no hc6
        refine awp_skip ?_
        show AWp cx _ _ _
        refine rg ?_
        refine qv m_mv ?_
        refine qv m_add ?_
        refine qv m_as ?_
        exact ⟨k + 1, hk2, (by simp only; omega), (tl [(2, 2), (5, 5), (10, 10)] (hF := by simp [FLe, svLe, lk, mkM, isLive, tauL, hgk]) (hM := by simp [MLe, blkLe, svLe, svLes, lk, mkM, isLive, tauL, svLes_ints, svLes_self, isDvs, isDvs_map, isDvs_app, isDvs_take, isDvs_set, isDvs_repl, hgk]))⟩
    · try simp at hc5
      refine awp_exit ?_
      show AWp cx _ _ _
      refine awp_seq ?_
      refine rg ?_
      refine qv m_mv ?_
      refine qv m_as ?_
      show AWp cx _ _ _
      refine awp_ret ?_
      have hke : greatRef y set = greatK y set k := by
        rw [show k = y.places.toNat by omega]; rfl
      rw [hke]
      exact x1 (hr := (rR_))
end Go.Ab.Try
