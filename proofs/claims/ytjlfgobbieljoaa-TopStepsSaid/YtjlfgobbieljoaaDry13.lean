/- The functions of the dry laws, part 13. The walks are written by wip/gen/gw.py. -/
import Derived.Test.YtjlfgobbieljoaaDryL1
import Derived.Test.YtjlfgobbieljoaaAb26
import Derived.Test.YtjlfgobbieljoaaDryT
set_option linter.all false
namespace Go.Ab.Try
open Go Go.Ab Go.Proofs
def keepM (n : Nat) : List Int := (List.range n).map fun q : Nat => 10 + (q : Int)
def keepAt (n i : Nat) : List Int := (List.range n).map fun q : Nat => if q < i then 10 + (q : Int) else 0
theorem keepAt_len {n i : Nat} : (keepAt n i).length = n := by simp [keepAt]
theorem keepAt_zero {n : Nat} : keepAt n 0 = List.replicate n 0 := by rw [repl_range]; simp [keepAt]
theorem keepAt_set {n i : Nat} : (keepAt n i).set i (10 + (i : Int)) = keepAt n (i + 1) := by
  refine range_set (fun q _ hq => ?_) fun _ => by rw [if_pos (by omega)]
  by_cases h1 : q < i
  · rw [if_pos h1, if_pos (by omega)]
  · rw [if_neg h1, if_neg (by omega)]
theorem keepAt_all {n i : Nat} (h : n ≤ i) : keepAt n i = keepM n := by
  unfold keepAt keepM
  apply List.map_congr_left
  intro q hq
  have := List.mem_range.1 hq
  rw [if_pos (by omega)]
theorem f7 (y : Yd) (x : Pr) (l : List Int) : ACallsF Try.prog 7 [dYd y, dPr x, ints l] (.one (.dv (.bool true))) := by
  refine callsF_of Try.func7 rfl rfl (by rw [Try.ntmps7]; simp) fun cx hP hn hg => ?_
  rw [Try.ntmps7] at hn
  rw [startF_lk, none_mkM]
  simp only [zipSV, Nat.reduceAdd]
  refine awp_seq ?_
  refine rg ?_
  refine qp m_box ?_
  refine qp m_box ?_
  refine qv m_as ?_
  show AWp cx _ _ _
  refine awp_seq ?_
  refine awp_seq ?_
  refine rg ?_
  refine qv (m_ldpa sz24 ag24) ?_
  refine qqF (f16 y) ?_
  refine qx m_mv (fun hg22 => ?_) (fun hg22 => ?_)
  · try simp at hg22
    refine qk ?_
    refine qk ?_
    refine qk ?_
    refine qv m_pk ?_
    refine qv m_mv ?_
    refine qk ?_
    refine qk ?_
    refine qk ?_
    refine qv m_pk ?_
    refine qv m_mv ?_
    refine qk ?_
    refine qk ?_
    refine qv m_pk ?_
    show AWp cx _ _ _
    refine cdT (hb := by first | rfl | simp | simp_all) (ht := ?_)
    refine awp_seq ?_
    refine rg ?_
    refine qqF (f18) ?_
    refine qv m_as ?_
    show AWp cx _ _ _
    refine awp_ret ?_
    exact x1 (hr := (rB_))
  · try simp at hg22
    refine qv (m_fdp fd43_0) ?_
    refine qv (m_ldp sz25 ag25) ?_
    refine qqF (f17 x.m) ?_
    refine qv m_pk ?_
    refine qx m_mv (fun hg27 => ?_) (fun hg27 => ?_)
    · try simp at hg27
      refine qk ?_
      refine qk ?_
      refine qk ?_
      refine qv m_pk ?_
      refine qv m_mv ?_
      refine qk ?_
      refine qk ?_
      refine qv m_pk ?_
      show AWp cx _ _ _
      refine cdT (hb := by first | rfl | simp | simp_all) (ht := ?_)
      refine awp_seq ?_
      refine rg ?_
      refine qqF (f18) ?_
      refine qv m_as ?_
      show AWp cx _ _ _
      refine awp_ret ?_
      exact x1 (hr := (rB_))
    · try simp at hg27
      refine qv (m_fdp fd43_1) ?_
      refine qv (m_ldp sz25 ag25) ?_
      refine qqF (f17 x.goal) ?_
      refine qv m_pk ?_
      refine qx m_mv (fun hg32 => ?_) (fun hg32 => ?_)
      · try simp at hg32
        refine qk ?_
        refine qk ?_
        refine qv m_pk ?_
        show AWp cx _ _ _
        refine cdT (hb := by first | rfl | simp | simp_all) (ht := ?_)
        refine awp_seq ?_
        refine rg ?_
        refine qqF (f18) ?_
        refine qv m_as ?_
        show AWp cx _ _ _
        refine awp_ret ?_
        exact x1 (hr := (rB_))
      · try simp at hg32
        refine qv m_mv ?_
        refine qqF (f17 l) ?_
        refine qv m_pk ?_
        show AWp cx _ _ _
        refine cd (fun hc0 => ?_) (fun hc0 => ?_)
        · try simp at hc0
          refine awp_seq ?_
          refine rg ?_
          refine qqF (f18) ?_
          refine qv m_as ?_
          show AWp cx _ _ _
          refine awp_ret ?_
          exact x1 (hr := (rB_))
        · try simp at hc0
          refine awp_skip ?_
          show AWp cx _ _ _
          refine awp_seq ?_
          refine rg ?_
          refine qv (m_ldpa sz24 ag24) ?_
          refine qv (m_fdp fd43_0) ?_
          refine qv (m_ldp sz25 ag25) ?_
          refine qv m_mv ?_
          refine qqF (f19 y x.m l) ?_
          refine qv m_mv ?_
          refine qv m_ext ?_
          refine qv m_ext ?_
          refine qv m_ext ?_
          refine qv m_as ?_
          refine qv m_as ?_
          refine qv m_as ?_
          show AWp cx _ _ _
          refine awp_seq ?_
          refine awp_seq ?_
          refine rg ?_
          refine qv m_mv ?_
          refine qv m_neq ?_
          show AWp cx _ _ _
          refine cd (fun hc1 => ?_) (fun hc1 => ?_)
          · try simp at hc1
            refine awp_seq ?_
            refine rg ?_
            refine qqF (f18) ?_
            refine qv m_as ?_
            show AWp cx _ _ _
            refine awp_ret ?_
            exact x1 (hr := (rB_))
          · try simp at hc1
            refine awp_skip ?_
            show AWp cx _ _ _
            refine awp_seq ?_
            refine rg ?_
            obtain ⟨q1, q2, q3, q4, q5, q6⟩ := adds_ok (y := y) (m := x.m) (l := l) hc1
            refine qv (m_ldpa sz24 ag24) ?_
            refine qv m_mv ?_
            refine qqF (f32 y l) ?_
            refine qv m_mv ?_
            refine qv m_ext ?_
            refine qv m_ext ?_
            refine qv m_as ?_
            refine qv m_as ?_
            show AWp cx _ _ _
            refine awp_seq ?_
            refine rg ?_
            refine qv (m_ldpa sz24 ag24) ?_
            refine qv m_mv ?_
            refine qqF (f30 y (cntR y l).1) ?_
            refine qv m_mv ?_
            refine qv m_ext ?_
            refine qv m_ext ?_
            refine qv m_as ?_
            refine qv m_as ?_
            show AWp cx _ _ _
            refine awp_seq ?_
            refine awp_seq ?_
            refine rg ?_
            refine qv m_mv ?_
            refine qv m_neq ?_
            refine qx m_mv (fun hg63 => ?_) (fun hg63 => ?_)
            · exact absurd hg63 (by simp [q1])
            refine qv m_mv ?_
            refine qv m_neq ?_
            refine qv m_pk ?_
            refine qx m_mv (fun hg67 => ?_) (fun hg67 => ?_)
            · exact absurd hg67 (by simp [q2])
            refine qv m_mv ?_
            refine qv (m_lenR il25) ?_
            refine qv (m_fdp fd43_0) ?_
            refine qv (m_ldp sz25 ag25) ?_
            refine qv (m_len il25) ?_
            refine qv m_neq ?_
            refine qv m_pk ?_
            refine qx m_mv (fun hg75 => ?_) (fun hg75 => ?_)
            · exact absurd hg75 (by simp [q3])
            refine qv m_mv ?_
            refine qv (m_lenR il25) ?_
            refine qv (m_fdp fd43_0) ?_
            refine qv (m_ldp sz25 ag25) ?_
            refine qv (m_len il25) ?_
            refine qv m_neq ?_
            refine qv m_pk ?_
            show AWp cx _ _ _
            refine cdF (hb := by simp [q4]) (ht := ?_)
            refine awp_skip ?_
            show AWp cx _ _ _
            refine awp_seq ?_
            refine awp_seq ?_
            refine rg ?_
            refine qv m_as ?_
            show AWp cx _ _ _
            refine awp_block ?_
            refine awp_loop (ι := Nat) (fun i => ⟨lk [(2, .dv (ints (l))), (3, .pt 3 0 0), (4, .pt 4 0 0), (7, .sl 7 0 0 (((runR y x.m l).1).length)), (12, .sl 12 0 0 (((effR y (cntR y l).1).1).length)), (14, .dv (i64 (i : Nat)))], mkM [(3, 0, some ⟨[.dv (i64 (y.places)), .dv (.list ((y.steps).map dStp))], 0, 24, 0, false⟩), (4, 0, some ⟨[.dv (ints (x.m)), .dv (ints (x.goal))], 0, 43, 0, false⟩), (7, 0, some (rowI ((runR y x.m l).1))), (12, 0, some (rowI ((effR y (cntR y l).1).1)))]⟩) (fun i => i ≤ x.m.length) (fun i => x.m.length - i) 0 (by simp) (tl [(3, 3), (4, 4), (7, 42), (12, 58)]) ?_
            intro i hφ0
            refine awp_seq ?_
            refine awp_seq ?_
            refine rg ?_
            refine qv m_mv ?_
            refine qv m_mv ?_
            refine qv (m_lenR il25) ?_
            refine qv m_lss ?_
            show AWp cx _ _ _
            refine cd (fun hc3 => ?_) (fun hc3 => ?_)
            · try simp at hc3
              refine awp_skip ?_
              show AWp cx _ _ _
              refine awp_seq ?_
              refine awp_block ?_
              refine awp_seq ?_
              refine rd mixed ?_
              obtain ⟨d, hd1, hd2, hd3, hd4, hd5⟩ := q6 i (by omega)
              have him : i < x.m.length := by omega
              have hxm : x.m[i]? = some (x.m.getD i 0) := by simp [him]
              refine zv m_mv ?_
              refine zv m_mv ?_
              refine zv (m_ixR el25 sz3) ?_
              first | refine zv (m_ldI sz3 ag3) ?_ | refine zv (m_ldp sz3 ag3) ?_
              refine zv (m_fdp fd43_0) ?_
              refine zv (m_ldp sz25 ag25) ?_
              refine zv m_mv ?_
              first | refine zv (m_ixN el25 sz3) ?_ | refine zv (m_ix el25 sz3) ?_
              refine zv (m_ld sz3 ag3) ?_
              refine zv m_mv ?_
              refine zv m_mv ?_
              refine zv (m_ixR el25 sz3) ?_
              first | refine zv (m_ldI sz3 ag3) ?_ | refine zv (m_ldp sz3 ag3) ?_
              refine zv m_add ?_
              refine zv m_neq ?_
              refine ⟨by rfl, ?_⟩
              show AWp cx _ _ _
              refine cdF (hb := by simp) (ht := ?_)
              refine awp_skip ?_
              show AWp cx _ _ _
              refine rg ?_
              refine qv m_mv ?_
              refine qv m_add ?_
              refine qv m_as ?_
              exact ⟨i + 1, by omega, (by simp only; omega), (tl [(3, 3), (4, 4), (7, 7), (12, 12)])⟩
            · try simp at hc3
              refine awp_exit ?_
              show AWp cx _ _ _
              refine awp_seq ?_
              refine awp_seq ?_
              refine rg ?_
              refine qv (m_fdp fd43_1) ?_
              refine qv (m_ldp sz25 ag25) ?_
              refine qv (m_len il25) ?_
              refine qv (m_fdp fd43_0) ?_
              refine qv (m_ldp sz25 ag25) ?_
              refine qv (m_len il25) ?_
              refine qv m_neq ?_
              show AWp cx _ _ _
              refine cd (fun hc5 => ?_) (fun hc5 => ?_)
              · try simp at hc5
                refine awp_seq ?_
                refine rg ?_
                refine qqF (f18) ?_
                refine qv m_as ?_
                show AWp cx _ _ _
                refine awp_ret ?_
                exact x1 (hr := (rB_))
              · try simp at hc5
                refine awp_skip ?_
                show AWp cx _ _ _
                refine awp_seq ?_
                refine rg ?_
                refine qv m_as ?_
                show AWp cx _ _ _
                refine awp_seq ?_
                refine awp_seq ?_
                refine rg ?_
                refine qv m_as ?_
                show AWp cx _ _ _
                refine awp_block ?_
                refine awp_loop (ι := Nat) (fun i => ⟨lk [(2, .dv (ints (l))), (3, .pt 3 0 0), (4, .pt 4 0 0), (15, .sl 15 0 0 i), (16, .dv (i64 (i : Nat)))], mkM [(3, 0, some ⟨[.dv (i64 (y.places)), .dv (.list ((y.steps).map dStp))], 0, 24, 0, false⟩), (4, 0, some ⟨[.dv (ints (x.m)), .dv (ints (x.goal))], 0, 43, 0, false⟩), (15, 0, some (rowI ((moreL x.m x.goal).take i)))]⟩) (fun i => i ≤ x.m.length) (fun i => x.m.length - i) 0 (by simp) (tl [(3, 3), (4, 4)]) ?_
                intro i hφ1
                refine awp_seq ?_
                refine awp_seq ?_
                refine rg ?_
                refine qv m_mv ?_
                refine qv (m_fdp fd43_0) ?_
                refine qv (m_ldp sz25 ag25) ?_
                refine qv (m_len il25) ?_
                refine qv m_lss ?_
                show AWp cx _ _ _
                refine cd (fun hc6 => ?_) (fun hc6 => ?_)
                · try simp at hc6
                  refine awp_skip ?_
                  show AWp cx _ _ _
                  refine awp_seq ?_
                  refine awp_block ?_
                  refine rd mixed ?_
                  have him : i < x.m.length := by omega
                  have hig : i < x.goal.length := by omega
                  have htk := take_snoc (moreL_get him hig)
                  have hmlen : (moreL x.m x.goal).length = x.m.length := by simp [moreL]; omega
                  refine zv m_mv ?_
                  refine zv (m_fdp fd43_0) ?_
                  refine zv (m_ldp sz25 ag25) ?_
                  refine zv m_mv ?_
                  first | refine zv (m_ixN el25 sz3) ?_ | refine zv (m_ix el25 sz3) ?_
                  refine zv (m_ld sz3 ag3) ?_
                  refine zv (m_fdp fd43_1) ?_
                  refine zv (m_ldp sz25 ag25) ?_
                  refine zv m_mv ?_
                  first | refine zv (m_ixN el25 sz3) ?_ | refine zv (m_ix el25 sz3) ?_
                  refine zv (m_ld sz3 ag3) ?_
                  refine zv m_max ?_
                  refine zr (m_bsl el25 ze3 sz3) ?_
                  refine za1 (m_app1 el25 el25 ze3 sz3 by3) ?_
                  refine zv m_as ?_
                  refine ⟨by rfl, ?_⟩
                  show AWp cx _ _ _
                  refine rg ?_
                  refine qv m_mv ?_
                  refine qv m_add ?_
                  refine qv m_as ?_
                  exact ⟨i + 1, him, (by simp only; omega), (tl [(3, 3), (4, 4), (15, 132)] (hF := by simp [FLe, svLe, lk, mkM, isLive, tauL, htk, mx]) (hM := by simp [MLe, blkLe, svLe, svLes, lk, mkM, isLive, tauL, svLes_ints, svLes_self, isDvs, isDvs_map, isDvs_app, isDvs_take, isDvs_set, isDvs_repl, htk, mx]))⟩
                · try simp at hc6
                  refine awp_exit ?_
                  show AWp cx _ _ _
                  refine awp_seq ?_
                  refine rg ?_
                  obtain rfl : i = x.m.length := by omega
                  have hml : (moreL x.m x.goal).take x.m.length = moreL x.m x.goal := List.take_of_length_le (by simp [moreL]; omega)
                  have hmo := more_ok (y := y) hc1 (by omega : x.goal.length = x.m.length)
                  refine qv (m_ldpa sz24 ag24) ?_
                  refine qv m_mv ?_
                  refine qv m_mv ?_
                  refine qqF (f19 y (moreL x.m x.goal) l) ?_ (ha := (args_cons data_dv (args_cons (data_ints (L := moreL x.m x.goal) (by simp only [mkM, reduceIte, Nat.reduceEqDiff, hml] <;> rfl) trivial (by simp [moreL]; omega) rfl rfl (fun _ => trivial)) (args_cons data_dv args_nil))))
                  refine qv m_mv ?_
                  refine qv m_ext ?_
                  refine qv m_ext ?_
                  refine qv m_ext ?_
                  refine qv m_as ?_
                  refine qv m_as ?_
                  refine qv m_as ?_
                  show AWp cx _ _ _
                  refine awp_seq ?_
                  refine rg ?_
                  refine qv m_mv ?_
                  refine qv m_neq ?_
                  refine qx m_mv (fun hg143 => ?_) (fun hg143 => ?_)
                  rotate_left
                  · exact absurd hg143 (by simp [hmo])
                  refine qqF (f18) ?_
                  refine qv m_pk ?_
                  refine qv m_as ?_
                  show AWp cx _ _ _
                  refine awp_ret ?_
                  exact x1 (hr := (rB_))
theorem f9 (y : Yd) (x : Pl) (l : List Int) : ACallsF Try.prog 9 [dYd y, dPl x, ints l] (.one (.dv (.bool true))) := by
  refine callsF_of Try.func9 rfl rfl (by rw [Try.ntmps9]; simp) fun cx hP hn hg => ?_
  rw [Try.ntmps9] at hn
  rw [startF_lk, none_mkM]
  simp only [zipSV, Nat.reduceAdd]
  refine awp_seq ?_
  refine rg ?_
  refine qp m_box ?_
  refine qp m_box ?_
  refine qv m_as ?_
  show AWp cx _ _ _
  refine awp_seq ?_
  refine awp_seq ?_
  refine rg ?_
  refine qv (m_ldpa sz24 ag24) ?_
  refine qqF (f16 y) ?_
  refine qx m_mv (fun hg20 => ?_) (fun hg20 => ?_)
  · try simp at hg20
    refine qk ?_
    refine qk ?_
    refine qk ?_
    refine qv m_pk ?_
    refine qv m_mv ?_
    refine qk ?_
    refine qk ?_
    refine qv m_pk ?_
    refine qv m_mv ?_
    refine qk ?_
    refine qk ?_
    refine qk ?_
    refine qv m_pk ?_
    refine qv m_mv ?_
    refine qk ?_
    refine qk ?_
    refine qk ?_
    refine qv m_pk ?_
    show AWp cx _ _ _
    refine cdT (hb := by first | rfl | simp | simp_all) (ht := ?_)
    refine awp_seq ?_
    refine rg ?_
    refine qqF (f18) ?_
    refine qv m_as ?_
    show AWp cx _ _ _
    refine awp_ret ?_
    exact x1 (hr := (rB_))
  · try simp at hg20
    refine qv (m_fdp fd48_0) ?_
    refine qv (m_ldp sz25 ag25) ?_
    refine qqF (f17 x.counts) ?_
    refine qv m_pk ?_
    refine qx m_mv (fun hg25 => ?_) (fun hg25 => ?_)
    · try simp at hg25
      refine qk ?_
      refine qk ?_
      refine qv m_pk ?_
      refine qv m_mv ?_
      refine qk ?_
      refine qk ?_
      refine qk ?_
      refine qv m_pk ?_
      refine qv m_mv ?_
      refine qk ?_
      refine qk ?_
      refine qk ?_
      refine qv m_pk ?_
      show AWp cx _ _ _
      refine cdT (hb := by first | rfl | simp | simp_all) (ht := ?_)
      refine awp_seq ?_
      refine rg ?_
      refine qqF (f18) ?_
      refine qv m_as ?_
      show AWp cx _ _ _
      refine awp_ret ?_
      exact x1 (hr := (rB_))
    · try simp at hg25
      refine qv m_mv ?_
      refine qqF (f17 l) ?_
      refine qv m_pk ?_
      refine qx m_mv (fun hg29 => ?_) (fun hg29 => ?_)
      · try simp at hg29
        refine qk ?_
        refine qk ?_
        refine qk ?_
        refine qv m_pk ?_
        refine qv m_mv ?_
        refine qk ?_
        refine qk ?_
        refine qk ?_
        refine qv m_pk ?_
        show AWp cx _ _ _
        refine cdT (hb := by first | rfl | simp | simp_all) (ht := ?_)
        refine awp_seq ?_
        refine rg ?_
        refine qqF (f18) ?_
        refine qv m_as ?_
        show AWp cx _ _ _
        refine awp_ret ?_
        exact x1 (hr := (rB_))
      · try simp at hg29
        refine qv (m_fdp fd24_0) ?_
        refine qv (m_ldp sz3 ag3) ?_
        refine qv m_lss ?_
        refine qv m_pk ?_
        refine qx m_mv (fun hg34 => ?_) (fun hg34 => ?_)
        · try simp at hg34
          refine qk ?_
          refine qk ?_
          refine qk ?_
          refine qv m_pk ?_
          show AWp cx _ _ _
          refine cdT (hb := by first | rfl | simp | simp_all) (ht := ?_)
          refine awp_seq ?_
          refine rg ?_
          refine qqF (f18) ?_
          refine qv m_as ?_
          show AWp cx _ _ _
          refine awp_ret ?_
          exact x1 (hr := (rB_))
        · try simp at hg34
          refine qv (m_fdp fd24_0) ?_
          refine qv (m_ldp sz3 ag3) ?_
          refine qv m_gtr ?_
          refine qv m_pk ?_
          show AWp cx _ _ _
          refine cd (fun hc0 => ?_) (fun hc0 => ?_)
          · try simp at hc0
            refine awp_seq ?_
            refine rg ?_
            refine qqF (f18) ?_
            refine qv m_as ?_
            show AWp cx _ _ _
            refine awp_ret ?_
            exact x1 (hr := (rB_))
          · try simp at hc0
            refine awp_skip ?_
            show AWp cx _ _ _
            refine awp_seq ?_
            refine rg ?_
            refine qv (m_ldpa sz24 ag24) ?_
            refine qv (m_fdp fd48_0) ?_
            refine qv (m_ldp sz25 ag25) ?_
            refine qqF (f34 y x.counts) ?_
            refine qv m_mv ?_
            refine qv m_ext ?_
            refine qv m_ext ?_
            refine qv m_as ?_
            refine qv m_as ?_
            show AWp cx _ _ _
            refine awp_seq ?_
            refine rg ?_
            refine qv (m_fdp fd24_0) ?_
            refine qv (m_ldp sz3 ag3) ?_
            refine qr (m_mkI el25 ze3 sz3 by3) ?_
            refine qv m_as ?_
            show AWp cx _ _ _
            refine awp_seq ?_
            refine awp_seq ?_
            refine rg ?_
            refine qv m_as ?_
            show AWp cx _ _ _
            refine awp_block ?_
            refine awp_loop (ι := Nat) (fun i => ⟨lk [(2, .dv (ints (l))), (3, .pt 3 0 0), (4, .pt 4 0 0), (7, .dv (.bool ((invR y x.counts).1))), (8, .dv (i64 ((invR y x.counts).2))), (9, .sl 9 0 0 ((keepAt y.places.toNat i).length)), (10, .dv (i64 (i : Nat)))], mkM [(3, 0, some ⟨[.dv (i64 (y.places)), .dv (.list ((y.steps).map dStp))], 0, 24, 0, false⟩), (4, 0, some ⟨[.dv (ints (x.counts)), .dv (i64 (x.most))], 0, 48, 0, false⟩), (9, 0, some (rowI (keepAt y.places.toNat i)))]⟩) (fun i => i ≤ y.places.toNat) (fun i => y.places.toNat - i) 0 (by simp) (tl [(3, 3), (4, 4), (9, 49)] (hF := by simp [FLe, svLe, lk, mkM, isLive, tauL, keepAt_zero, keepAt_len]) (hM := by simp [MLe, blkLe, svLe, svLes, lk, mkM, isLive, tauL, svLes_ints, svLes_self, isDvs, isDvs_map, isDvs_app, isDvs_take, isDvs_set, isDvs_repl, keepAt_zero, keepAt_len])) ?_
            intro i hφ0
            refine awp_seq ?_
            refine awp_seq ?_
            refine rg ?_
            refine qv m_mv ?_
            refine qv m_mv ?_
            refine qv (m_lenR il25) ?_
            refine qv m_lss ?_
            show AWp cx _ _ _
            refine cd (fun hc1 => ?_) (fun hc1 => ?_)
            · try simp at hc1
              refine awp_skip ?_
              show AWp cx _ _ _
              refine awp_seq ?_
              refine awp_block ?_
              refine rg ?_
              have hst := keepAt_set (n := y.places.toNat) (i := i)
              have hin : i < (keepAt y.places.toNat i).length := by omega
              have hkl := keepAt_len (n := y.places.toNat) (i := i)
              refine qv m_mv ?_
              refine qv m_mv ?_
              refine qv m_mv ?_
              refine qv m_add ?_
              refine qv (m_ixR el25 sz3) ?_
              first | refine qs (m_stI sz3) ?_ | refine qs (m_st sz3) ?_
              show AWp cx _ _ _
              refine rg ?_
              refine qv m_mv ?_
              refine qv m_add ?_
              refine qv m_as ?_
              exact ⟨i + 1, by omega, (by simp only; omega), (tl [(3, 3), (4, 4), (9, 9)] (hF := by simp [FLe, svLe, lk, mkM, isLive, tauL, hst, keepAt_len]) (hM := by simp [MLe, blkLe, svLe, svLes, lk, mkM, isLive, tauL, svLes_ints, svLes_self, isDvs, isDvs_map, isDvs_app, isDvs_take, isDvs_set, isDvs_repl, hst, keepAt_len]))⟩
            · try simp at hc1
              refine awp_exit ?_
              show AWp cx _ _ _
              refine awp_seq ?_
              refine rg ?_
              have hka : keepAt y.places.toNat i = keepM y.places.toNat := keepAt_all (by rw [keepAt_len] at hc1; omega)
              refine qv (m_ldpa sz24 ag24) ?_
              refine qv m_mv ?_
              refine qv m_mv ?_
              refine qqF (f19 y (keepM y.places.toNat) l) ?_ (ha := (args_cons data_dv (args_cons (data_ints (L := keepM y.places.toNat) (by simp only [mkM, reduceIte, Nat.reduceEqDiff, hka] <;> rfl) trivial (by simp [keepM, keepAt]) rfl rfl (fun _ => trivial)) (args_cons data_dv args_nil))))
              refine qv m_mv ?_
              refine qv m_ext ?_
              refine qv m_ext ?_
              refine qv m_ext ?_
              refine qv m_as ?_
              refine qv m_as ?_
              refine qv m_as ?_
              show AWp cx _ _ _
              refine awp_seq ?_
              refine awp_seq ?_
              refine rg ?_
              refine qv m_mv ?_
              refine qv m_neq ?_
              refine qx m_mv (fun hg71 => ?_) (fun hg71 => ?_)
              · try simp at hg71
                refine qk ?_
                refine qk ?_
                refine qv m_pk ?_
                refine qv m_mv ?_
                refine qk ?_
                refine qk ?_
                refine qv m_pk ?_
                show AWp cx _ _ _
                refine cdT (hb := by first | rfl | simp | simp_all) (ht := ?_)
                refine awp_seq ?_
                refine rg ?_
                refine qqF (f18) ?_
                refine qv m_as ?_
                show AWp cx _ _ _
                refine awp_ret ?_
                exact x1 (hr := (rB_))
              · try simp at hg71
                refine qv m_mv ?_
                refine qv m_neq ?_
                refine qv m_pk ?_
                refine qx m_mv (fun hg75 => ?_) (fun hg75 => ?_)
                · try simp at hg75
                  refine qk ?_
                  refine qk ?_
                  refine qv m_pk ?_
                  show AWp cx _ _ _
                  refine cdT (hb := by first | rfl | simp | simp_all) (ht := ?_)
                  refine awp_seq ?_
                  refine rg ?_
                  refine qqF (f18) ?_
                  refine qv m_as ?_
                  show AWp cx _ _ _
                  refine awp_ret ?_
                  exact x1 (hr := (rB_))
                · try simp at hg75
                  refine qv m_mv ?_
                  refine qv m_not ?_
                  refine qv m_pk ?_
                  show AWp cx _ _ _
                  refine cd (fun hc2 => ?_) (fun hc2 => ?_)
                  · try simp at hc2
                    refine awp_seq ?_
                    refine rg ?_
                    refine qqF (f18) ?_
                    refine qv m_as ?_
                    show AWp cx _ _ _
                    refine awp_ret ?_
                    exact x1 (hr := (rB_))
                  · try simp at hc2
                    refine awp_skip ?_
                    show AWp cx _ _ _
                    refine awp_seq ?_
                    refine rg ?_
                    obtain ⟨k1, k2, k3⟩ := keeps_ok (y := y) (w := x.counts) (m := keepM y.places.toNat) (l := l) (by simp_all) (by simp_all)
                    refine qv (m_ldpa sz24 ag24) ?_
                    refine qv (m_fdp fd48_0) ?_
                    refine qv (m_ldp sz25 ag25) ?_
                    refine qv m_mv ?_
                    refine qqF (f36 y x.counts (keepM y.places.toNat)) ?_ (ha := (args_cons data_dv (args_cons data_dv (args_cons (data_ints (L := keepM y.places.toNat) (by simp only [mkM, reduceIte, Nat.reduceEqDiff, hka] <;> rfl) trivial (by simp [keepM, keepAt]) rfl rfl (fun _ => trivial)) args_nil))))
                    refine qv m_mv ?_
                    refine qv m_ext ?_
                    refine qv m_ext ?_
                    refine qv m_as ?_
                    refine qv m_as ?_
                    show AWp cx _ _ _
                    refine awp_seq ?_
                    refine rg ?_
                    refine qv (m_ldpa sz24 ag24) ?_
                    refine qv (m_fdp fd48_0) ?_
                    refine qv (m_ldp sz25 ag25) ?_
                    refine qv m_mv ?_
                    refine qqF (f36 y x.counts (runR y (keepM y.places.toNat) l).1) ?_
                    refine qv m_mv ?_
                    refine qv m_ext ?_
                    refine qv m_ext ?_
                    refine qv m_as ?_
                    refine qv m_as ?_
                    show AWp cx _ _ _
                    refine awp_seq ?_
                    refine rg ?_
                    refine qv m_mv ?_
                    refine qv m_eql ?_
                    refine qx m_mv (fun hg98 => ?_) (fun hg98 => ?_)
                    rotate_left
                    · exact absurd hg98 (by simp [k1])
                    refine qv m_mv ?_
                    refine qv m_eql ?_
                    refine qv m_pk ?_
                    refine qx m_mv (fun hg102 => ?_) (fun hg102 => ?_)
                    rotate_left
                    · exact absurd hg102 (by simp [k2])
                    refine qv m_mv ?_
                    refine qv m_mv ?_
                    refine qv m_eql ?_
                    refine qv m_pk ?_
                    refine qx m_mv (fun hg107 => ?_) (fun hg107 => ?_)
                    rotate_left
                    · exact absurd hg107 (by simp [k3])
                    refine qqF (f18) ?_
                    refine qv m_pk ?_
                    refine qv m_as ?_
                    show AWp cx _ _ _
                    refine awp_ret ?_
                    exact x1 (hr := (rB_))
end Go.Ab.Try
