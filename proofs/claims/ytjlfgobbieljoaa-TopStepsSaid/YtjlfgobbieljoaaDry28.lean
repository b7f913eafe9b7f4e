/- The functions of the dry laws, part 28. The walks are written by wip/gen/gw.py. -/
import Derived.Test.YtjlfgobbieljoaaDry26
import Derived.Test.YtjlfgobbieljoaaDry27
import Derived.Test.YtjlfgobbieljoaaDryT
set_option linter.all false
namespace Go.Ab.Try
open Go Go.Ab Go.Proofs
def rvT (l : List Int) (n : Nat) : List Int := l.reverse.take (l.length - n)
theorem rvT_all {l : List Int} : rvT l l.length = [] := by simp [rvT]
theorem rvT_nil {l : List Int} : rvT l 0 = l.reverse := List.take_of_length_le (by simp)
theorem rvT_len {l : List Int} {n : Nat} : (rvT l n).length = l.length - n := by simp [rvT]
theorem rvT_next {l : List Int} {k : Nat} (hk : k < l.length) : rvT l k = rvT l (k + 1) ++ [sg l k] := by
  unfold rvT
  have e : l.length - k = (l.length - (k + 1)) + 1 := by omega
  rw [e, take_snoc]
  rw [List.getElem?_reverse (by omega), show l.length - 1 - (l.length - (k + 1)) = k by omega]
  exact sg_get hk
theorem top_end {y : Yd} {m l : List Int} (h : (runR y m l).2.2 = 0) : turnR y = (turnY y, 0) ∧ (runR (turnR y).1 (runR y m l).1 l.reverse).2.2 = 0 ∧ (runR (turnR y).1 (runR y m l).1 l.reverse).1 = m := by
  have hv := (runR_ok h).1
  have e := turn_ok (y := y) hv
  rw [e]
  exact ⟨rfl, back_top h⟩
set_option maxHeartbeats 8000000 in
theorem f15 (y : Yd) (m : List Int) (x : Mv) : ACallsF Try.prog 15 [dYd y, ints m, dMv x] (.one (.dv (.bool true))) := by
  refine callsF_of Try.func15 rfl rfl (by rw [Try.ntmps15]; simp) fun cx hP hn hg => ?_
  rw [Try.ntmps15] at hn
  rw [startF_lk, none_mkM]
  simp only [List.nil_append, List.append_nil, List.cons_append, zipSV, Nat.reduceAdd]
  refine awp_seq ?_
  refine rg ?_
  refine qp m_box ?_
  refine qp m_box ?_
  refine qv m_as ?_
  show AWp cx _ _ _
  refine awp_seq ?_
  refine awp_seq ?_
  refine rg ?_
  refine qv (m_bld pl24 ze24) ?_
  refine qqF (f46t) ?_ (ha := (args_cons (data_agg (args_cons data_dv (args_cons .nils args_nil))) args_nil))
  refine qv m_mv ?_
  refine qv m_ext ?_
  refine qv m_ext ?_
  refine qv m_as ?_
  refine qv m_as ?_
  show AWp cx _ _ _
  refine awp_seq ?_
  refine rg ?_
  refine qv m_mv ?_
  refine qv m_neq ?_
  refine qx m_mv (fun hg44 => ?_) (fun hg44 => ?_)
  · exact absurd hg44 (by simp [])
  refine qv m_mv ?_
  refine qv m_neq ?_
  refine qv m_pk ?_
  show AWp cx _ _ _
  refine cdF (hb := by simp) (ht := ?_)
  refine awp_skip ?_
  show AWp cx _ _ _
  refine awp_seq ?_
  refine awp_seq ?_
  refine rg ?_
  refine qv (m_ldpa sz24 ag24) ?_
  refine qqF (f16 y) ?_
  refine qx m_mv (fun hg50 => ?_) (fun hg50 => ?_)
  · skip
    refine qk ?_
    refine qk ?_
    refine qk ?_
    refine qv m_pk ?_
    refine qv m_mv ?_
    refine qk ?_
    refine qk ?_
    refine qk ?_
    refine qk ?_
    refine qv m_pk ?_
    refine qv m_mv ?_
    refine qk ?_
    refine qk ?_
    refine qk ?_
    refine qk ?_
    refine qv m_pk ?_
    refine qv m_mv ?_
    refine qk ?_
    refine qk ?_
    refine qk ?_
    refine qk ?_
    refine qv m_pk ?_
    show AWp cx _ _ _
    refine cdT (hb := by first | rfl | simp | simp_all) (ht := ?_)
    refine awp_seq ?_
    refine rg ?_
    refine qv m_as ?_
    show AWp cx _ _ _
    refine awp_ret ?_
    exact x1 (hr := (rB_))
  · skip
    refine qv m_mv ?_
    refine qv (m_len il25) ?_
    refine qv m_gtr ?_
    refine qv m_pk ?_
    refine qx m_mv (fun hg55 => ?_) (fun hg55 => ?_)
    · skip
      refine qk ?_
      refine qk ?_
      refine qk ?_
      refine qk ?_
      refine qv m_pk ?_
      refine qv m_mv ?_
      refine qk ?_
      refine qk ?_
      refine qk ?_
      refine qk ?_
      refine qv m_pk ?_
      refine qv m_mv ?_
      refine qk ?_
      refine qk ?_
      refine qk ?_
      refine qk ?_
      refine qv m_pk ?_
      show AWp cx _ _ _
      refine cdT (hb := by first | rfl | simp | simp_all) (ht := ?_)
      refine awp_seq ?_
      refine rg ?_
      refine qv m_as ?_
      show AWp cx _ _ _
      refine awp_ret ?_
      exact x1 (hr := (rB_))
    · skip
      refine qv (m_fdp fd62_0) ?_
      refine qv (m_ldp sz25 ag25) ?_
      refine qv (m_len il25) ?_
      refine qv m_gtr ?_
      refine qv m_pk ?_
      refine qx m_mv (fun hg61 => ?_) (fun hg61 => ?_)
      · skip
        refine qk ?_
        refine qk ?_
        refine qk ?_
        refine qk ?_
        refine qv m_pk ?_
        refine qv m_mv ?_
        refine qk ?_
        refine qk ?_
        refine qk ?_
        refine qk ?_
        refine qv m_pk ?_
        show AWp cx _ _ _
        refine cdT (hb := by first | rfl | simp | simp_all) (ht := ?_)
        refine awp_seq ?_
        refine rg ?_
        refine qv m_as ?_
        show AWp cx _ _ _
        refine awp_ret ?_
        exact x1 (hr := (rB_))
      · skip
        refine qv (m_fdp fd62_1) ?_
        refine qv (m_ldp sz25 ag25) ?_
        refine qv (m_len il25) ?_
        refine qv m_gtr ?_
        refine qv m_pk ?_
        refine qx m_mv (fun hg67 => ?_) (fun hg67 => ?_)
        · skip
          refine qk ?_
          refine qk ?_
          refine qk ?_
          refine qk ?_
          refine qv m_pk ?_
          show AWp cx _ _ _
          refine cdT (hb := by first | rfl | simp | simp_all) (ht := ?_)
          refine awp_seq ?_
          refine rg ?_
          refine qv m_as ?_
          show AWp cx _ _ _
          refine awp_ret ?_
          exact x1 (hr := (rB_))
        · skip
          refine qv (m_fdp fd62_2) ?_
          refine qv (m_ldp sz25 ag25) ?_
          refine qv (m_len il25) ?_
          refine qv m_gtr ?_
          refine qv m_pk ?_
          show AWp cx _ _ _
          refine cd (fun hc1 => ?_) (fun hc1 => ?_)
          · try simp at hc1
            refine awp_seq ?_
            refine rg ?_
            refine qv m_as ?_
            show AWp cx _ _ _
            refine awp_ret ?_
            exact x1 (hr := (rB_))
          · try simp at hc1
            refine awp_skip ?_
            show AWp cx _ _ _
            refine awp_seq ?_
            refine rg ?_
            refine qv (m_ldpa sz24 ag24) ?_
            refine qv m_mv ?_
            refine qv (m_fdp fd62_0) ?_
            refine qv (m_ldp sz25 ag25) ?_
            refine qqF (f19 y m x.list) ?_
            refine qv m_mv ?_
            refine qv m_ext ?_
            refine qv m_ext ?_
            refine qv m_ext ?_
            refine qv m_as ?_
            refine qv m_as ?_
            refine qv m_as ?_
            show AWp cx _ _ _
            refine awp_seq ?_
            refine awp_seq ?_
            refine rg ?_
            refine qv m_mv ?_
            refine qv m_neq ?_
            show AWp cx _ _ _
            refine cd (fun hc2 => ?_) (fun hc2 => ?_)
            · skip
              refine awp_seq ?_
              refine rg ?_
              refine qv m_as ?_
              show AWp cx _ _ _
              refine awp_ret ?_
              exact x1 (hr := (rB_))
            · skip
              have hy : Long y = false := by simpa using hg50
              have hyl := Long_no hy
              have he : (runR y m x.list).2.2 = 0 := by simpa using hc2
              obtain ⟨q1, q2, q3, q4, q5, q6⟩ := adds_ok he
              obtain ⟨b1, b2, b3, b4, b5, b6⟩ := stays_ok (g := x.set) he
              have hm100 : m.length ≤ 100 := by have := of_decide_eq_false hg55; omega
              have hl100 : x.list.length ≤ 100 := by have := of_decide_eq_false hg61; omega
              refine awp_skip ?_
              show AWp cx _ _ _
              refine awp_seq ?_
              refine awp_seq ?_
              refine rg ?_
              refine qv m_mv ?_
              refine qv (m_fdp fd62_0) ?_
              refine qv (m_ldp sz25 ag25) ?_
              refine qv (m_len il25) ?_
              refine qv m_neq ?_
              refine qx m_mv (fun hg89 => ?_) (fun hg89 => ?_)
              · exact absurd hg89 (by simp [q5])
              refine qv m_mv ?_
              refine qv (m_lenR il25) ?_
              refine qv m_mv ?_
              refine qv (m_len il25) ?_
              refine qv m_neq ?_
              refine qv m_pk ?_
              show AWp cx _ _ _
              refine cdF (hb := by simp [q4]) (ht := ?_)
              refine awp_skip ?_
              show AWp cx _ _ _
              refine awp_seq ?_
              refine rg ?_
              refine qv (m_ldpa sz24 ag24) ?_
              refine qv (m_fdp fd62_0) ?_
              refine qv (m_ldp sz25 ag25) ?_
              refine qqF (f32 y x.list) ?_
              refine qv m_mv ?_
              refine qv m_ext ?_
              refine qv m_ext ?_
              refine qv m_as ?_
              refine qv m_as ?_
              show AWp cx _ _ _
              refine awp_seq ?_
              refine rg ?_
              refine qv (m_ldpa sz24 ag24) ?_
              refine qv m_mv ?_
              refine qqF (f30 y (cntR y x.list).1) ?_ (ha := (args_cons data_dv (args_cons (data_ints (L := (cntR y x.list).1) (by simp only [mkM, reduceIte, Nat.reduceEqDiff] <;> rfl) trivial (by first | rfl | omega | (simp; done) | (simp; omega)) rfl rfl (fun _ => trivial)) args_nil)))
              refine qv m_mv ?_
              refine qv m_ext ?_
              refine qv m_ext ?_
              refine qv m_as ?_
              refine qv m_as ?_
              show AWp cx _ _ _
              refine awp_seq ?_
              refine awp_seq ?_
              refine rg ?_
              refine qv m_mv ?_
              refine qv m_neq ?_
              refine qx m_mv (fun hg111 => ?_) (fun hg111 => ?_)
              · exact absurd hg111 (by simp [q1])
              refine qv m_mv ?_
              refine qv m_neq ?_
              refine qv m_pk ?_
              refine qx m_mv (fun hg115 => ?_) (fun hg115 => ?_)
              · exact absurd hg115 (by simp [q2])
              refine qv m_mv ?_
              refine qv (m_lenR il25) ?_
              refine qv m_mv ?_
              refine qv (m_len il25) ?_
              refine qv m_neq ?_
              refine qv m_pk ?_
              show AWp cx _ _ _
              refine cdF (hb := by simp [q3]) (ht := ?_)
              refine awp_skip ?_
              show AWp cx _ _ _
              refine awp_seq ?_
              refine awp_seq ?_
              refine rg ?_
              refine qv m_as ?_
              show AWp cx _ _ _
              refine awp_block ?_
              refine awp_loop (ι := Nat) (fun i => ⟨lk [(1, .dv (ints (m))), (3, .pt 3 0 0), (5, .pt 5 0 0), (9, .sl 78 0 0 ((runR y m x.list).1).length), (12, .sl 100 0 0 ((cntR y x.list).1).length), (13, .sl 106 0 0 ((effR y (cntR y x.list).1).1).length), (15, .dv (i64 (i : Nat)))], mkM [(3, 0, some ⟨[.dv (i64 (y.places)), .dv (.list ((y.steps).map dStp))], 0, 24, 0, false⟩), (5, 0, some ⟨[.dv (ints (x.list)), .dv (ints (x.weights)), .dv (ints (x.set))], 0, 62, 0, false⟩), (78, 0, some (rowI ((runR y m x.list).1))), (100, 0, some (rowI ((cntR y x.list).1))), (106, 0, some (rowI ((effR y (cntR y x.list).1).1)))]⟩) (fun i => i ≤ m.length) (fun i => m.length - i) 0 (by simp) (tl [(3, 3), (5, 5), (78, 78), (100, 100), (106, 106)]) ?_
              intro i hφ0
              refine awp_seq ?_
              refine awp_seq ?_
              refine rg ?_
              refine qv m_mv ?_
              refine qv m_mv ?_
              refine qv (m_len il25) ?_
              refine qv m_lss ?_
              show AWp cx _ _ _
              refine cd (fun hc5 => ?_) (fun hc5 => ?_)
              · try simp at hc5
                refine awp_skip ?_
                show AWp cx _ _ _
                refine awp_seq ?_
                refine awp_block ?_
                refine awp_seq ?_
                obtain ⟨d, hd1, hd2, hd3, hd4, hd5⟩ := q6 i (by omega)
                have him : i < m.length := by omega
                have hxm : m[i]? = some (m.getD i 0) := by simp [him]
                have hmi := b1 _ (List.mem_of_getElem? hxm)
                refine rd mixed ?_
                refine zv m_mv ?_
                refine zv m_mv ?_
                refine zv (m_ixR el25 sz3) ?_
                refine zv (m_ldI sz3 ag3 (hq := hd1)) ?_
                refine zv m_mv ?_
                refine zv m_mv ?_
                first | refine zv (m_ixN el25 sz3) ?_ | refine zv (m_ix el25 sz3) ?_
                refine zv (m_ld sz3 ag3) ?_
                refine zv m_sub ?_
                refine zv m_mv ?_
                refine zv m_mv ?_
                refine zv (m_ixR el25 sz3) ?_
                refine zv (m_ldI sz3 ag3 (hq := hd2)) ?_
                refine zv m_neq ?_
                refine ⟨by rfl, ?_⟩
                show AWp cx _ _ _
                refine cdF (hb := by first | (simp; done) | (simp; omega)) (ht := ?_)
                refine awp_skip ?_
                show AWp cx _ _ _
                refine rg ?_
                refine qv m_mv ?_
                refine qv m_add ?_
                refine qv m_as ?_
                exact ⟨i + 1, (by omega), (by simp only; omega), (tl [(3, 3), (5, 5), (78, 78), (100, 100), (106, 106)])⟩
              · try simp at hc5
                refine awp_exit ?_
                show AWp cx _ _ _
                refine awp_seq ?_
                refine rg ?_
                refine qv (m_ldpa sz24 ag24) ?_
                refine qv (m_fdp fd62_1) ?_
                refine qv (m_ldp sz25 ag25) ?_
                refine qqF (f34 y x.weights) ?_
                refine qv m_mv ?_
                refine qv m_ext ?_
                refine qv m_ext ?_
                refine qv m_as ?_
                refine qv m_as ?_
                show AWp cx _ _ _
                refine awp_seq ?_
                refine rg ?_
                refine qv (m_ldpa sz24 ag24) ?_
                refine qv (m_fdp fd62_1) ?_
                refine qv (m_ldp sz25 ag25) ?_
                refine qv m_mv ?_
                refine qqF (f36 y x.weights m) ?_
                refine qv m_mv ?_
                refine qv m_ext ?_
                refine qv m_ext ?_
                refine qv m_as ?_
                refine qv m_as ?_
                show AWp cx _ _ _
                refine awp_seq ?_
                refine rg ?_
                refine qv (m_ldpa sz24 ag24) ?_
                refine qv (m_fdp fd62_1) ?_
                refine qv (m_ldp sz25 ag25) ?_
                refine qv m_mv ?_
                refine qqF (f36 y x.weights (runR y m x.list).1) ?_ (ha := (args_cons data_dv (args_cons data_dv (args_cons (data_ints (L := (runR y m x.list).1) (by simp only [mkM, reduceIte, Nat.reduceEqDiff] <;> rfl) trivial (by first | rfl | omega | (simp; done) | (simp; omega)) rfl rfl (fun _ => trivial)) args_nil))))
                refine qv m_mv ?_
                refine qv m_ext ?_
                refine qv m_ext ?_
                refine qv m_as ?_
                refine qv m_as ?_
                show AWp cx _ _ _
                refine awp_join (⟨lk [(1, .dv (ints (m))), (3, .pt 3 0 0), (5, .pt 5 0 0), (9, .sl 78 0 0 ((runR y m x.list).1).length), (12, .sl 100 0 0 ((cntR y x.list).1).length)], mkM [(3, 0, some ⟨[.dv (i64 (y.places)), .dv (.list ((y.steps).map dStp))], 0, 24, 0, false⟩), (5, 0, some ⟨[.dv (ints (x.list)), .dv (ints (x.weights)), .dv (ints (x.set))], 0, 62, 0, false⟩), (78, 0, some (rowI ((runR y m x.list).1))), (100, 0, some (rowI ((cntR y x.list).1)))]⟩ : St) ?_ (fun hJ165 => ?_)
                · show AWp cx _ _ _
                  refine awp_seq ?_
                  refine rg ?_
                  refine qv (m_ldpa sz24 ag24) ?_
                  refine qv (m_fdp fd62_2) ?_
                  refine qv (m_ldp sz25 ag25) ?_
                  refine qqA (f48 y x.set) ?_
                  refine qv m_mv ?_
                  refine qv m_ext ?_
                  refine qv m_ext ?_
                  refine qv m_as ?_
                  refine qv m_as ?_
                  show AWp cx _ _ _
                  refine awp_seq ?_
                  refine rg ?_
                  refine qv (m_ldpa sz24 ag24) ?_
                  refine qv (m_fdp fd62_2) ?_
                  refine qv (m_ldp sz25 ag25) ?_
                  refine qqA (f49 y x.set) ?_
                  refine qv m_mv ?_
                  refine qv m_ext ?_
                  refine qv m_ext ?_
                  refine qv m_as ?_
                  refine qv m_as ?_
                  show AWp cx _ _ _
                  refine awp_join (⟨lk [(1, .dv (ints (m))), (3, .pt 3 0 0), (5, .pt 5 0 0), (9, .sl 78 0 0 ((runR y m x.list).1).length), (12, .sl 100 0 0 ((cntR y x.list).1).length)], mkM [(3, 0, some ⟨[.dv (i64 (y.places)), .dv (.list ((y.steps).map dStp))], 0, 24, 0, false⟩), (5, 0, some ⟨[.dv (ints (x.list)), .dv (ints (x.weights)), .dv (ints (x.set))], 0, 62, 0, false⟩), (78, 0, some (rowI ((runR y m x.list).1))), (100, 0, some (rowI ((cntR y x.list).1)))]⟩ : St) ?_ (fun hJ197 => ?_)
                  · show AWp cx _ _ _
                    refine awp_join (⟨lk [(1, .dv (ints (m))), (3, .pt 3 0 0), (5, .pt 5 0 0), (9, .sl 78 0 0 ((runR y m x.list).1).length)], mkM [(3, 0, some ⟨[.dv (i64 (y.places)), .dv (.list ((y.steps).map dStp))], 0, 24, 0, false⟩), (5, 0, some ⟨[.dv (ints (x.list)), .dv (ints (x.weights)), .dv (ints (x.set))], 0, 62, 0, false⟩), (78, 0, some (rowI ((runR y m x.list).1)))]⟩ : St) ?_ (fun hJ251 => ?_)
                    · show AWp cx _ _ _
                      refine awp_seq ?_
                      obtain ⟨z1, z2, z3⟩ := top_end he
                      refine rg ?_
                      refine qv (m_ldpa sz24 ag24) ?_
                      refine qqA (f39 y) ?_
                      refine qv m_mv ?_
                      refine qv m_ext ?_
                      refine qv m_ext ?_
                      refine qp (m_al ze24) ?_
                      refine qs (m_st sz24) ?_
                      refine qv m_as ?_
                      show AWp cx _ _ _
                      refine awp_seq ?_
                      refine rg ?_
                      refine qv m_as ?_
                      show AWp cx _ _ _
                      refine awp_seq ?_
                      refine awp_seq ?_
                      refine rg ?_
                      refine qv (m_fdp fd62_0) ?_
                      refine qv (m_ldp sz25 ag25) ?_
                      refine qv (m_len il25) ?_
                      refine qv m_sub ?_
                      refine qv m_as ?_
                      show AWp cx _ _ _
                      refine awp_block ?_
                      refine awp_loop (ι := Nat) (fun n => ⟨lk [(1, .dv (ints (m))), (5, .pt 5 0 0), (9, .sl 78 0 0 ((runR y m x.list).1).length), (11, .dv (i64 ((turnR y).2))), (32, .pt 32 0 0), (33, .sl 33 0 0 ((x.list.length - n))), (34, .dv (i64 ((n : Int) - 1)))], mkM [(5, 0, some ⟨[.dv (ints (x.list)), .dv (ints (x.weights)), .dv (ints (x.set))], 0, 62, 0, false⟩), (78, 0, some (rowI ((runR y m x.list).1))), (32, 0, some ⟨[.dv (i64 (((turnR y).1).places)), .dv (.list ((((turnR y).1).steps).map dStp))], 0, 24, 0, false⟩), (33, 0, some (rowI (rvT x.list n)))]⟩) (fun n => n ≤ x.list.length) (fun n => n) x.list.length (Nat.le_refl _) (tl [(5, 5), (78, 78), (32, 32)] (hF := by simp [FLe, svLe, lk, mkM, isLive, tauL, rvT_all]) (hM := by simp [MLe, blkLe, svLe, svLes, lk, mkM, isLive, tauL, svLes_ints, svLes_self, isDvs, isDvs_map, isDvs_app, isDvs_take, isDvs_set, isDvs_repl, rvT_all])) ?_
                      intro n hφ1
                      refine awp_seq ?_
                      refine awp_seq ?_
                      refine rg ?_
                      refine qv m_mv ?_
                      refine qv m_geq ?_
                      show AWp cx _ _ _
                      refine cd (fun hc13 => ?_) (fun hc13 => ?_)
                      · skip
                        have hn1 : 1 ≤ n := by have := of_decide_eq_true hc13; omega
                        obtain ⟨k, rfl⟩ : ∃ k, n = k + 1 := ⟨n - 1, by omega⟩
                        have hkl : k < x.list.length := by omega
                        have hgk := sg_get hkl
                        have hrt := rvT_next hkl
                        have hln := rvT_len (l := x.list) (n := k + 1)
                        have hrl : x.list.length - k = x.list.length - (k + 1) + 1 := by omega
                        have ekk : ((k + 1 : Nat) : Int) - 1 = (k : Int) := by omega
                        rw [ekk]
                        refine awp_skip ?_
                        show AWp cx _ _ _
                        refine awp_seq ?_
                        refine awp_block ?_
                        refine rg ?_
                        refine qv m_mv ?_
                        refine qv (m_fdp fd62_0) ?_
                        refine qv (m_ldp sz25 ag25) ?_
                        refine qv m_mv ?_
                        first | refine qv (m_ixN el25 sz3) ?_ | refine qv (m_ix el25 sz3) ?_
                        refine qv (m_ld sz3 ag3) ?_
                        refine qr (m_bsl el25 ze3 sz3) ?_
                        refine qa1 (m_app1 el25 el25 ze3 sz3 by3) ?_
                        refine qv m_as ?_
                        show AWp cx _ _ _
                        refine rg ?_
                        refine qv m_mv ?_
                        refine qv m_sub ?_
                        refine qv m_as ?_
                        exact ⟨k, (by omega), (by show k < k + 1; omega), (tl [(5, 5), (78, 78), (32, 32), (33, 307)] (hF := by simp [FLe, svLe, lk, mkM, isLive, tauL, hrt, hrl]) (hM := by simp [MLe, blkLe, svLe, svLes, lk, mkM, isLive, tauL, svLes_ints, svLes_self, isDvs, isDvs_map, isDvs_app, isDvs_take, isDvs_set, isDvs_repl, hrt, hrl]))⟩
                      · skip
                        obtain rfl : n = 0 := by
                          have : ¬ 0 ≤ (n : Int) - 1 := by simpa using hc13
                          omega
                        rw [rvT_nil]
                        refine awp_exit ?_
                        show AWp cx _ _ _
                        refine awp_seq ?_
                        refine rg ?_
                        refine qv (m_ldpa sz24 ag24) ?_
                        refine qv m_mv ?_
                        refine qv m_mv ?_
                        refine qqF (f19 (turnR y).1 (runR y m x.list).1 x.list.reverse) ?_ (ha := (args_cons data_dv (args_cons (data_ints (L := (runR y m x.list).1) (by simp only [mkM, reduceIte, Nat.reduceEqDiff] <;> rfl) trivial (by first | rfl | omega | (simp; done) | (simp; omega)) rfl rfl (fun _ => trivial)) (args_cons (data_ints (L := x.list.reverse) (by simp only [mkM, reduceIte, Nat.reduceEqDiff] <;> rfl) trivial (by first | rfl | omega | (simp; done) | (simp; omega)) rfl rfl (fun _ => trivial)) args_nil))))
                        refine qv m_mv ?_
                        refine qv m_ext ?_
                        refine qv m_ext ?_
                        refine qv m_ext ?_
                        refine qv m_as ?_
                        refine qv m_as ?_
                        refine qv m_as ?_
                        show AWp cx _ _ _
                        refine awp_seq ?_
                        refine rg ?_
                        refine qv m_mv ?_
                        refine qv m_eql ?_
                        refine qx m_mv (fun hg318 => ?_) (fun hg318 => ?_)
                        rotate_left
                        · exact absurd hg318 (by simp [z1])
                        refine qv m_mv ?_
                        refine qv m_eql ?_
                        refine qv m_pk ?_
                        refine qx m_mv (fun hg322 => ?_) (fun hg322 => ?_)
                        rotate_left
                        · exact absurd hg322 (by simp [z2])
                        refine qv m_mv ?_
                        refine qv m_mv ?_
                        refine qqF (f21 (runR (turnR y).1 (runR y m x.list).1 x.list.reverse).1 m (by rw [z3]; omega)) ?_ (ha := (args_cons (data_ints (L := (runR (turnR y).1 (runR y m x.list).1 x.list.reverse).1) (by simp only [mkM, reduceIte, Nat.reduceEqDiff] <;> rfl) trivial (by first | rfl | omega | (simp; done) | (simp; omega)) rfl rfl (fun _ => trivial)) (args_cons data_dv args_nil)))
                        refine qv m_pk ?_
                        refine qv m_as ?_
                        show AWp cx _ _ _
                        refine awp_ret ?_
                        exact x1 (hr := (rB_ (by simp [z3])))
                    · refine awp_seq ?_
                      refine awp_seq ?_
                      refine rg ?_
                      refine qv (m_fdp fd62_0) ?_
                      refine qv (m_ldp sz25 ag25) ?_
                      refine qv (m_len il25) ?_
                      refine qv m_leq ?_
                      show AWp cx _ _ _
                      refine cd (fun hc11 => ?_) (fun hc11 => ?_)
                      · skip
                        have h8 : x.list.length ≤ 8 := by have := of_decide_eq_true hc11; omega
                        obtain ⟨o1, o2, o3, o4⟩ := order_top he h8
                        refine awp_frz 100 ?_
                        refine awp_seq ?_
                        refine rg ?_
                        refine qv (m_ldpa sz24 ag24) ?_
                        refine qv m_mv ?_
                        refine qv m_mv ?_
                        refine qqA (f44 y m (cntR y x.list).1 (by omega)) ?_ (ha := (args_cons data_dv (args_cons data_dv (args_cons (data_ints (L := (cntR y x.list).1) (by simp only [mkM, reduceIte, Nat.reduceEqDiff] <;> rfl) rfl (by first | rfl | omega | (simp; done) | (simp; omega)) rfl rfl (fun _ => trivial)) args_nil))))
                        refine qv m_mv ?_
                        refine qv m_ext ?_
                        refine qv m_ext ?_
                        refine qv m_ext ?_
                        refine qv m_as ?_
                        refine qv m_as ?_
                        refine qv m_as ?_
                        show AWp cx _ _ _
                        refine awp_seq ?_
                        refine rg ?_
                        refine qv (m_ldpa sz24 ag24) ?_
                        refine qv m_mv ?_
                        refine qv m_mv ?_
                        refine qqF (f19 y m (ordR y m (cntR y x.list).1).1) ?_
                        refine qv m_mv ?_
                        refine qv m_ext ?_
                        refine qv m_ext ?_
                        refine qv m_ext ?_
                        refine qv m_as ?_
                        refine qv m_as ?_
                        refine qv m_as ?_
                        show AWp cx _ _ _
                        refine awp_seq ?_
                        refine rg ?_
                        refine qv m_mv ?_
                        refine qv m_neq ?_
                        refine qx m_mv (fun hg273 => ?_) (fun hg273 => ?_)
                        · exact absurd hg273 (by simp [o1])
                        refine qv m_mv ?_
                        refine qv m_not ?_
                        refine qv m_pk ?_
                        refine qx m_mv (fun hg277 => ?_) (fun hg277 => ?_)
                        · exact absurd hg277 (by simp [o2])
                        refine qv m_mv ?_
                        refine qv m_neq ?_
                        refine qv m_pk ?_
                        refine qx m_mv (fun hg281 => ?_) (fun hg281 => ?_)
                        · exact absurd hg281 (by simp [o3])
                        refine qv m_mv ?_
                        refine qv m_mv ?_
                        refine qqF (f21 (runR y m (ordR y m (cntR y x.list).1).1).1 (runR y m x.list).1 (by rw [o4, q4]; omega)) ?_ (ha := (args_cons (data_ints (L := (runR y m (ordR y m (cntR y x.list).1).1).1) (by simp only [mkM, reduceIte, Nat.reduceEqDiff] <;> rfl) trivial (by first | rfl | omega | (simp; done) | (simp; omega)) rfl rfl (fun _ => trivial)) (args_cons (data_ints (L := (runR y m x.list).1) (by simp only [mkM, reduceIte, Nat.reduceEqDiff] <;> rfl) trivial (by first | rfl | omega | (simp; done) | (simp; omega)) rfl rfl (fun _ => trivial)) args_nil)))
                        refine qv m_not ?_
                        refine qv m_pk ?_
                        show AWp cx _ _ _
                        refine cdF (hb := by simp [o4]) (ht := ?_)
                        refine awp_skip ?_
                        exact hJ251 _ (tl [(3, 3), (5, 5), (78, 78)])
                      · skip
                        refine awp_skip ?_
                        exact hJ251 _ (tl [(3, 3), (5, 5), (78, 78)])
                  · refine awp_seq ?_
                    refine awp_seq ?_
                    refine rg ?_
                    refine qv m_mv ?_
                    refine qv m_eql ?_
                    refine qx m_mv (fun hg199 => ?_) (fun hg199 => ?_)
                    · skip
                      refine qv m_mv ?_
                      refine qv m_eql ?_
                      refine qv m_pk ?_
                      show AWp cx _ _ _
                      refine cd (fun hc8 => ?_) (fun hc8 => ?_)
                      · skip
                        have i1 := siph_top (y := y) (set := x.set) (by simpa using hg199)
                        have i2 := trap_top (y := y) (set := x.set) (by simpa using hc8)
                        refine awp_seq ?_
                        refine rg ?_
                        refine qv (m_ldpa sz24 ag24) ?_
                        refine qv m_mv ?_
                        refine qqF (f42 y (siphR y x.set).1) ?_
                        refine qv m_mv ?_
                        refine qv m_ext ?_
                        refine qv m_ext ?_
                        refine qv m_as ?_
                        refine qv m_as ?_
                        show AWp cx _ _ _
                        refine awp_seq ?_
                        refine rg ?_
                        refine qv (m_ldpa sz24 ag24) ?_
                        refine qv m_mv ?_
                        refine qqF (f43 y (trapR y x.set).1) ?_
                        refine qv m_mv ?_
                        refine qv m_ext ?_
                        refine qv m_ext ?_
                        refine qv m_as ?_
                        refine qv m_as ?_
                        show AWp cx _ _ _
                        refine awp_seq ?_
                        refine awp_seq ?_
                        refine rg ?_
                        refine qv m_mv ?_
                        refine qv m_neq ?_
                        refine qx m_mv (fun hg217 => ?_) (fun hg217 => ?_)
                        · exact absurd hg217 (by simp [i1])
                        refine qv m_mv ?_
                        refine qv m_neq ?_
                        refine qv m_pk ?_
                        refine qx m_mv (fun hg221 => ?_) (fun hg221 => ?_)
                        · exact absurd hg221 (by simp [i2])
                        refine qv m_mv ?_
                        refine qv m_not ?_
                        refine qv m_pk ?_
                        refine qx m_mv (fun hg225 => ?_) (fun hg225 => ?_)
                        · exact absurd hg225 (by simp [i1])
                        refine qv m_mv ?_
                        refine qv m_not ?_
                        refine qv m_pk ?_
                        show AWp cx _ _ _
                        refine cdF (hb := by simp [i2]) (ht := ?_)
                        refine awp_skip ?_
                        show AWp cx _ _ _
                        refine awp_seq ?_
                        refine rg ?_
                        refine qv m_mv ?_
                        refine qv m_mv ?_
                        refine qqF (f55 m (siphR y x.set).1 b1 (by omega)) ?_
                        refine qv m_eql ?_
                        refine qx m_mv (fun hg233 => ?_) (fun hg233 => ?_)
                        · skip
                          refine qv m_mv ?_
                          refine qv m_mv ?_
                          refine qqF (f55 (runR y m x.list).1 (siphR y x.set).1 b2 (by omega)) ?_ (ha := (args_cons (data_ints (L := (runR y m x.list).1) (by simp only [mkM, reduceIte, Nat.reduceEqDiff] <;> rfl) trivial (by first | rfl | omega | (simp; done) | (simp; omega)) rfl rfl (fun _ => trivial)) (args_cons data_dv args_nil)))
                          refine qv m_neq ?_
                          refine qv m_pk ?_
                          refine qx m_mv (fun hg239 => ?_) (fun hg239 => ?_)
                          · exact absurd hg239 (by have := b5 (by simpa using hg199) (by simpa using hg233); simp [this])
                          refine qv m_mv ?_
                          refine qv m_mv ?_
                          refine qqF (f55 m (trapR y x.set).1 b1 (by omega)) ?_
                          refine qv m_gtr ?_
                          refine qx m_mv (fun hg244 => ?_) (fun hg244 => ?_)
                          · skip
                            refine qv m_mv ?_
                            refine qv m_mv ?_
                            refine qqF (f55 (runR y m x.list).1 (trapR y x.set).1 b2 (by omega)) ?_ (ha := (args_cons (data_ints (L := (runR y m x.list).1) (by simp only [mkM, reduceIte, Nat.reduceEqDiff] <;> rfl) trivial (by first | rfl | omega | (simp; done) | (simp; omega)) rfl rfl (fun _ => trivial)) (args_cons data_dv args_nil)))
                            refine qv m_leq ?_
                            refine qv m_pk ?_
                            refine qv m_pk ?_
                            show AWp cx _ _ _
                            refine cdF (hb := by have h1 : 0 < tok m (trapR y x.set).1 := of_decide_eq_true hg244; have := b6 (by simpa using hc8) (by omega); simp; omega) (ht := ?_)
                            refine awp_skip ?_
                            exact hJ197 _ (tl [(3, 3), (5, 5), (78, 78), (100, 100)])
                          · skip
                            refine qk ?_
                            refine qk ?_
                            refine qk ?_
                            refine qk ?_
                            refine qv m_pk ?_
                            refine qv m_pk ?_
                            show AWp cx _ _ _
                            refine cdF (hb := by first | rfl | simp | simp_all) (ht := ?_)
                            refine awp_skip ?_
                            exact hJ197 _ (tl [(3, 3), (5, 5), (78, 78), (100, 100)])
                        · skip
                          refine qk ?_
                          refine qk ?_
                          refine qk ?_
                          refine qk ?_
                          refine qv m_pk ?_
                          refine qv m_mv ?_
                          refine qv m_mv ?_
                          refine qv m_mv ?_
                          refine qqF (f55 m (trapR y x.set).1 b1 (by omega)) ?_
                          refine qv m_gtr ?_
                          refine qx m_mv (fun hg244 => ?_) (fun hg244 => ?_)
                          · skip
                            refine qv m_mv ?_
                            refine qv m_mv ?_
                            refine qqF (f55 (runR y m x.list).1 (trapR y x.set).1 b2 (by omega)) ?_ (ha := (args_cons (data_ints (L := (runR y m x.list).1) (by simp only [mkM, reduceIte, Nat.reduceEqDiff] <;> rfl) trivial (by first | rfl | omega | (simp; done) | (simp; omega)) rfl rfl (fun _ => trivial)) (args_cons data_dv args_nil)))
                            refine qv m_leq ?_
                            refine qv m_pk ?_
                            refine qv m_pk ?_
                            show AWp cx _ _ _
                            refine cdF (hb := by have h1 : 0 < tok m (trapR y x.set).1 := of_decide_eq_true hg244; have := b6 (by simpa using hc8) (by omega); simp; omega) (ht := ?_)
                            refine awp_skip ?_
                            exact hJ197 _ (tl [(3, 3), (5, 5), (78, 78), (100, 100)])
                          · skip
                            refine qk ?_
                            refine qk ?_
                            refine qk ?_
                            refine qk ?_
                            refine qv m_pk ?_
                            refine qv m_pk ?_
                            show AWp cx _ _ _
                            refine cdF (hb := by first | rfl | simp | simp_all) (ht := ?_)
                            refine awp_skip ?_
                            exact hJ197 _ (tl [(3, 3), (5, 5), (78, 78), (100, 100)])
                      · skip
                        refine awp_skip ?_
                        exact hJ197 _ (tl [(3, 3), (5, 5), (78, 78), (100, 100)])
                    · skip
                      refine qk ?_
                      refine qk ?_
                      refine qv m_pk ?_
                      show AWp cx _ _ _
                      refine cdF (hb := by first | rfl | simp | simp_all) (ht := ?_)
                      refine awp_skip ?_
                      exact hJ197 _ (tl [(3, 3), (5, 5), (78, 78), (100, 100)])
                · refine awp_seq ?_
                  refine awp_seq ?_
                  refine rg ?_
                  refine qv m_mv ?_
                  refine qv m_eql ?_
                  refine qx m_mv (fun hg167 => ?_) (fun hg167 => ?_)
                  · skip
                    obtain ⟨w1, w2⟩ := weigh_ok (w := x.weights) he (by simpa using hg167)
                    refine qv m_mv ?_
                    refine qv m_neq ?_
                    refine qx m_mv (fun hg170 => ?_) (fun hg170 => ?_)
                    · exact absurd hg170 (by simp [w1])
                    refine qv m_mv ?_
                    refine qv m_neq ?_
                    refine qv m_pk ?_
                    refine qx m_mv (fun hg174 => ?_) (fun hg174 => ?_)
                    · exact absurd hg174 (by simp [w2])
                    refine qv m_mv ?_
                    refine qx m_mv (fun hg176 => ?_) (fun hg176 => ?_)
                    · skip
                      obtain ⟨k1, k2, k3⟩ := keeps_ok (w := x.weights) (by simpa using hg176) he
                      refine qv m_mv ?_
                      refine qv m_mv ?_
                      refine qv m_neq ?_
                      refine qv m_pk ?_
                      refine qv m_pk ?_
                      refine qv m_pk ?_
                      show AWp cx _ _ _
                      refine cdF (hb := by simp [k3]) (ht := ?_)
                      refine awp_skip ?_
                      exact hJ165 _ (tl [(3, 3), (5, 5), (78, 78), (100, 100)])
                    · skip
                      refine qk ?_
                      refine qk ?_
                      refine qk ?_
                      refine qv m_pk ?_
                      refine qv m_pk ?_
                      refine qv m_pk ?_
                      show AWp cx _ _ _
                      refine cdF (hb := by first | rfl | simp | simp_all) (ht := ?_)
                      refine awp_skip ?_
                      exact hJ165 _ (tl [(3, 3), (5, 5), (78, 78), (100, 100)])
                  · skip
                    refine qk ?_
                    refine qk ?_
                    refine qk ?_
                    refine qk ?_
                    refine qk ?_
                    refine qk ?_
                    refine qk ?_
                    refine qk ?_
                    refine qk ?_
                    refine qk ?_
                    refine qk ?_
                    refine qk ?_
                    refine qk ?_
                    refine qk ?_
                    refine qv m_pk ?_
                    show AWp cx _ _ _
                    refine cdF (hb := by first | rfl | simp | simp_all) (ht := ?_)
                    refine awp_skip ?_
                    exact hJ165 _ (tl [(3, 3), (5, 5), (78, 78), (100, 100)])
end Go.Ab.Try
