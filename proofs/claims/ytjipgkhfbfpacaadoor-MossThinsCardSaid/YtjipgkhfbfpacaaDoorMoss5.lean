/- The functions of the moss laws, part 5. The walks are written by wip/gen/gw.py. -/
import Derived.Test.YtjipgkhfbfpacaaDoorMoss4
import Derived.Test.YtjipgkhfbfpacaaDoorMossFacts
import Derived.Test.YtjipgkhfbfpacaaDoorMossT
set_option linter.all false
namespace Go.Ab.Tryd
open Go Go.Ab Go.Proofs Go.Ab.Moss

theorem sq_seq {n : Mn} (ok : n.Ok) : ASeq Tryd.prog 103 [.cptr [i64 (n.r : Int), i64 (n.c : Int), i64 (n.nd : Int)]] ((List.range (n.r * n.c)).map (sqArg n.c)) := Go.Proofs.Tryd.squares_seq n.r n.c n.nd ⟨ok.r1, ok.r2⟩ ⟨ok.c1, ok.c2⟩


theorem f64 (n : Mn) (ok : n.Ok) (w : Nat) (hw : w < 68719476736) : ACallsF Tryd.prog 64 [dMn n, i64 (w : Int)] (.one (.dv (i64 (rdN n w : Int)))) := by
  have hN := ok.N2
  refine callsR_of (ds := [i64 (rdN n w : Int)]) Tryd.func64 rfl rfl (by rw [Tryd.ntmps64]; simp) fun cx hP hn hg hrn hdq hfin => ?_
  rw [Tryd.ntmps64] at hn
  rw [startF_lk, none_mkM]
  simp only [List.nil_append, List.append_nil, List.cons_append, zipSV, Nat.reduceAdd]
  refine awp_seq ?_
  refine rg ?_
  refine qp m_box ?_
  refine qp m_box ?_
  refine qv m_as ?_
  show AWp cx _ _ _
  refine awp_seq ?_
  refine rg ?_
  refine qp (m_al ze3) ?_
  refine qs (m_st sz3) ?_
  show AWp cx _ _ _
  refine awp_seq_seq_rf ?_
  refine rg ?_
  refine qv (m_ldpa sz23 ag23) ?_
  refine qqA (f92 n) ?_
  show RfOk cx _ _ _ _
  refine rgf hg hrn hdq hfin hP hn (sq_seq ok) (l := [(2, .pt 2 0 0), (3, .pt 3 0 0), (5, .pt 5 0 0), (8, .dv (.fn 103 [] [.cptr [i64 (n.r : Int), i64 (n.c : Int), i64 (n.nd : Int)]]))]) (fun k => [(2, 0, some ⟨[.dv (i64 (n.r)), .dv (i64 (n.c)), .dv (i64 (n.nd))], 0, 23, 0, false⟩), (3, 0, some ⟨[.dv (i64 ((w : Int)))], 0, 3, 0, false⟩), (5, 0, some ⟨[.dv (i64 ((bset (rdB n w) k : Nat) : Int))], 0, 3, 0, false⟩)]) (tl [(2, 2), (3, 3), (5, 5)] (hF := by simp [FLe, svLe, lk, mkM, isLive, tauL, bset]) (hM := by simp [MLe, blkLe, svLe, svLes, lk, mkM, isLive, tauL, svLes_ints, svLes_self, isDvs, isDvs_map, isDvs_app, isDvs_take, isDvs_set, isDvs_repl, bset])) (fun k x hx => ?_) fun cx2 hP2 hn2 hg2 => ?_
  · obtain ⟨hk, rfl⟩ := sq_get hx
    refine roundL (P := Tryd.prog) (N := 31) [(2, 2), (3, 3), (5, 5)] [(2, ⟨[.dv (i64 (n.r)), .dv (i64 (n.c)), .dv (i64 (n.nd))], 0, 23, 5, false⟩), (3, ⟨[.dv (i64 ((w : Int)))], 0, 3, 6, false⟩), (5, ⟨[.dv (i64 ((bset (rdB n w) k : Nat) : Int))], 0, 3, 8, false⟩)] [(2, ⟨[.dv (i64 (n.r)), .dv (i64 (n.c)), .dv (i64 (n.nd))], 0, 23, 5, false⟩), (3, ⟨[.dv (i64 ((w : Int)))], 0, 3, 6, false⟩), (5, ⟨[.dv (i64 ((bset (rdB n w) (k + 1) : Nat) : Int))], 0, 3, 8, false⟩)] [2, 3, 5] [(2, .pt 2 0 0), (3, .pt 3 0 0), (5, .pt 5 0 0), (8, .dv (.fn 103 [] [.cptr [i64 (n.r : Int), i64 (n.c : Int), i64 (n.nd : Int)]]))] (hle := (tl [(2, 2), (3, 3), (5, 5)] (hF := by simp [FLe, svLe, lk, mkM, isLive, tauL, bset]) (hM := by simp [MLe, blkLe, svLe, svLes, lk, mkM, isLive, tauL, svLes_ints, svLes_self, isDvs, isDvs_map, isDvs_app, isDvs_take, isDvs_set, isDvs_repl, bset]))) (k := fun cx1 hP1 hn1 hg1 => ?_)
    show AWp cx1 _ _ ⟨lk [(10, .dv (.agg [i64 ((k / n.c : Nat) : Int), i64 ((k % n.c : Nat) : Int)])), (9, .dv (i64 ((k : Nat)))), (2, .pt 2 0 0), (3, .pt 3 0 0), (5, .pt 5 0 0), (8, .dv (.fn 103 [] [.cptr [i64 (n.r : Int), i64 (n.c : Int), i64 (n.nd : Int)]]))], mkM [(2, 0, some ⟨[.dv (i64 (n.r)), .dv (i64 (n.c)), .dv (i64 (n.nd))], 0, 23, 5, false⟩), (3, 0, some ⟨[.dv (i64 ((w : Int)))], 0, 3, 6, false⟩), (5, 0, some ⟨[.dv (i64 ((bset (rdB n w) k : Nat) : Int))], 0, 3, 8, false⟩)]⟩
    have hb36 := bset_lt36 (p := rdB n w) (k := k) (by omega)
    have har := arN_lt ok hk
    refine rg ?_
    refine qv m_as ?_
    refine asg fun cx1 hP1 hn1 hg1 => ?_
    refine awp_block ?_
    refine awp_seq ?_
    refine rd mixed ?_
    refine zv (m_ldp sz3 ag3) ?_
    refine zv m_mv ?_
    refine zqF (R := []) (f77 w k hw (by omega)) ?_
    refine zv m_not ?_
    refine zx m_mv (fun hg15 => ?_) (fun hg15 => ?_)
    · try simp at hg15
      refine zv (m_ldpa sz23 ag23) ?_
      refine zv m_mv ?_
      refine zqF (R := []) (f60 n ok k hk) ?_
      refine zv (m_ldp sz3 ag3) ?_
      refine zv m_andS ?_
      refine zqF (R := []) (f59 (arN n k &&& w) (by exact and36 har)) ?_
      refine zv (m_fdp fd23_2) ?_
      refine zv (m_ldp sz3 ag3) ?_
      refine zv m_geq ?_
      refine zv m_pk ?_
      refine ⟨by rfl, ?_⟩
      show AWp cx1 _ _ _
      refine cd (fun hc0 => ?_) (fun hc0 => ?_)
      · try simp at hc0
        refine rd mixed ?_
        first | refine zv (m_ldI sz3 ag3) ?_ | refine zv (m_ldp sz3 ag3) ?_
        refine zv m_mv ?_
        refine zv (m_shlS k) ?_
        refine zv m_orS ?_
        first | refine zs (m_stI sz3) ?_ | refine zs (m_st sz3) ?_
        refine ⟨by rfl, ?_⟩
        have hb : bset (rdB n w) (k + 1) = bset (rdB n w) k ||| 2 ^ k := by simp [bset, rdB, hg15, hc0]
        exact rend (tl [(2, 2), (3, 3), (5, 5)] (hF := by simp [FLe, svLe, lk, mkM, isLive, tauL, hb]) (hM := by simp [MLe, blkLe, svLe, svLes, lk, mkM, isLive, tauL, svLes_ints, svLes_self, isDvs, isDvs_map, isDvs_app, isDvs_take, isDvs_set, isDvs_repl, hb]))
      · try simp at hc0
        refine awp_skip ?_
        have hr : rdB n w k = false := by simp [rdB, hg15]; omega
        have hb : bset (rdB n w) (k + 1) = bset (rdB n w) k := by simp [bset, hr]
        exact rend (tl [(2, 2), (3, 3), (5, 5)] (hF := by simp [FLe, svLe, lk, mkM, isLive, tauL, hb]) (hM := by simp [MLe, blkLe, svLe, svLes, lk, mkM, isLive, tauL, svLes_ints, svLes_self, isDvs, isDvs_map, isDvs_app, isDvs_take, isDvs_set, isDvs_repl, hb]))
    · try simp at hg15
      refine zk ?_
      refine zk ?_
      refine zk ?_
      refine zk ?_
      refine zk ?_
      refine zk ?_
      refine zk ?_
      refine zk ?_
      refine zk ?_
      refine zv m_pk ?_
      refine ⟨by rfl, ?_⟩
      show AWp cx1 _ _ _
      refine cdF (hb := by first | rfl | simp | simp_all) (ht := ?_)
      refine awp_skip ?_
      have hb : bset (rdB n w) (k + 1) = bset (rdB n w) k := by simp [bset, rdB, hg15]
      exact rend (tl [(2, 2), (3, 3), (5, 5)] (hF := by simp [FLe, svLe, lk, mkM, isLive, tauL, hb]) (hM := by simp [MLe, blkLe, svLe, svLes, lk, mkM, isLive, tauL, svLes_ints, svLes_self, isDvs, isDvs_map, isDvs_app, isDvs_take, isDvs_set, isDvs_repl, hb]))
  · try rw [List.length_map, List.length_range]
    refine awp_seq ?_
    refine rg ?_
    refine qv (m_ldp sz3 ag3) ?_
    refine qv m_as ?_
    show AWp cx2 _ _ _
    refine awp_ret ?_
    exact xs1

theorem rdN_bit {n : Mn} {w i : Nat} : (rdN n w).testBit i = (decide (i < n.r * n.c) && rdB n w i) := testBit_bset _ _ _
theorem rd_dry {n : Mn} {w i : Nat} (h : (rdN n w).testBit i = true) : w.testBit i = false := by
  rw [rdN_bit] at h
  simp only [rdB, Bool.and_eq_true, Bool.not_eq_true'] at h
  exact h.2.1
/-- How many squares are dry. -/
def dryC (n : Mn) (w : Nat) : Nat := (List.range (n.r * n.c)).countP fun i => !w.testBit i
theorem dryC_lt {n : Mn} {w : Nat} (h : rdN n w ≠ 0) : dryC n (w ||| rdN n w) < dryC n w := by
  obtain ⟨i, hi⟩ := Nat.exists_testBit_of_ne_zero h
  have hd := rd_dry hi
  rw [rdN_bit, Bool.and_eq_true, decide_eq_true_eq] at hi
  refine countP_lt _ i (List.mem_range.2 hi.1) (fun k _ hk => ?_) (by simp [hd]) (by simp [rdN_bit, hi.1, hi.2])
  simp only [Nat.testBit_or, Bool.not_or, Bool.and_eq_true] at hk
  exact hk.1
/-- What has spread at the end, and the steps. -/
def spr (n : Mn) (w : Nat) : Nat × Nat := if h : rdN n w = 0 then (w, 0) else
  have := dryC_lt h
  ((spr n (w ||| rdN n w)).1, (spr n (w ||| rdN n w)).2 + 1)
termination_by dryC n w
theorem spr_zero {n : Mn} {w : Nat} (h : rdN n w = 0) : spr n w = (w, 0) := by rw [spr]; simp [h]
theorem spr_step {n : Mn} {w : Nat} (h : rdN n w ≠ 0) : spr n w = ((spr n (w ||| rdN n w)).1, (spr n (w ||| rdN n w)).2 + 1) := by rw [spr]; simp [h]
theorem dryC_le {n : Mn} {w : Nat} : dryC n w ≤ n.r * n.c := Nat.le_trans List.countP_le_length (by simp)
theorem spr_lt {n : Mn} (ok : n.Ok) : ∀ (f w : Nat), dryC n w ≤ f → w < 68719476736 → (spr n w).1 < 68719476736 ∧ (spr n w).2 ≤ f
  | 0, w, h, hw => by
    have : rdN n w = 0 := by
      rcases Nat.eq_zero_or_pos (rdN n w) with h0 | h0
      · exact h0
      · have := dryC_lt (n := n) (w := w) (by omega); omega
    rw [spr_zero this]; exact ⟨hw, Nat.le_refl _⟩
  | f + 1, w, h, hw => by
    by_cases h0 : rdN n w = 0
    · rw [spr_zero h0]; exact ⟨hw, Nat.zero_le _⟩
    · have h1 := dryC_lt h0
      have h2 := spr_lt ok f (w ||| rdN n w) (by omega) (or36 hw (rdN_lt ok))
      rw [spr_step h0]
      exact ⟨h2.1, by simp only; omega⟩

theorem f57 (n : Mn) (ok : n.Ok) (w0 : Nat) (hw0 : w0 < 68719476736) : ACallsF Tryd.prog 57 [dMn n, i64 (w0 : Int)] (.many [.dv (i64 ((spr n w0).1 : Int)), .dv (i64 ((spr n w0).2 : Int))]) := by
  have hN := ok.N2
  have hb0 := spr_lt ok _ w0 (Nat.le_refl _) hw0
  have hd0 := dryC_le (n := n) (w := w0)
  refine callsF_of Tryd.func57 rfl rfl (by rw [Tryd.ntmps57]; simp) fun cx hP hn hg => ?_
  rw [Tryd.ntmps57] at hn
  rw [startF_lk, none_mkM]
  simp only [List.nil_append, List.append_nil, List.cons_append, zipSV, Nat.reduceAdd]
  refine awp_seq ?_
  refine rg ?_
  refine qp m_box ?_
  refine qv m_as ?_
  refine qv m_as ?_
  show AWp cx _ _ _
  refine awp_seq ?_
  refine rg ?_
  refine qv m_as ?_
  show AWp cx _ _ _
  refine awp_block ?_
  refine awp_loop (ι := Nat × Nat) (fun q => ⟨lk [(1, .dv (i64 (q.1 : Nat))), (2, .pt 2 0 0), (6, .dv (i64 (q.2 : Nat)))], mkM [(2, 0, some ⟨[.dv (i64 (n.r)), .dv (i64 (n.c)), .dv (i64 (n.nd))], 0, 23, 0, false⟩)]⟩) (fun q => q.1 < 68719476736 ∧ spr n w0 = ((spr n q.1).1, (spr n q.1).2 + q.2)) (fun q => dryC n q.1) (w0, 0) ⟨hw0, rfl⟩ (tl [(2, 2)]) ?_
  intro q hφ0
  obtain ⟨hq1, hq2⟩ := hφ0
  refine awp_seq ?_
  refine awp_block ?_
  refine awp_seq ?_
  refine rg ?_
  refine qv (m_ldpa sz23 ag23) ?_
  refine qv m_mv ?_
  refine qqF (f64 n ok q.1 hq1) ?_
  refine qv m_as ?_
  show AWp cx _ _ _
  refine awp_seq ?_
  refine awp_seq ?_
  refine rg ?_
  refine qv m_mv ?_
  refine qv m_eql ?_
  show AWp cx _ _ _
  refine cd (fun hc0 => ?_) (fun hc0 => ?_)
  · skip
    have h0 : rdN n q.1 = 0 := by simpa using hc0
    rw [spr_zero h0] at hq2
    refine awp_seq ?_
    refine rg ?_
    refine qv m_mv ?_
    refine qv m_mv ?_
    refine qv m_as ?_
    refine qv m_as ?_
    show AWp cx _ _ _
    refine awp_ret ?_
    exact x2 (hr := (rI_ (by rw [hq2]))) (hr' := (rI_ (by rw [hq2]; simp)))
  · skip
    have h0 : rdN n q.1 ≠ 0 := by simpa using hc0
    refine awp_skip ?_
    show AWp cx _ _ _
    refine rg ?_
    refine qv m_mv ?_
    refine qv m_mv ?_
    refine qv (m_orS (hb := rdN_lt ok)) ?_
    refine qv m_as ?_
    show AWp cx _ _ _
    refine rg ?_
    refine qv m_mv ?_
    refine qv (m_addN (b := 1) (ha := by have := congrArg Prod.snd hq2; simp only at this; omega)) ?_
    refine qv m_as ?_
    exact ⟨(q.1 ||| rdN n q.1, q.2 + 1), ⟨or36 hq1 (rdN_lt ok), by rw [hq2, spr_step h0]; simp only [Prod.mk.injEq, true_and]; omega⟩, dryC_lt h0, (tl [(2, 2)])⟩

theorem f71 (n : Mn) (ok : n.Ok) (w : Nat) (hw : w < 68719476736) : ACallsF Tryd.prog 71 [dMn n, i64 (w : Int)] (.one (.dv (.bool (decide ((spr n w).1 = full n))))) := by
  refine callsF_of Tryd.func71 rfl rfl (by rw [Tryd.ntmps71]; simp) fun cx hP hn hg => ?_
  rw [Tryd.ntmps71] at hn
  rw [startF_lk, none_mkM]
  simp only [List.nil_append, List.append_nil, List.cons_append, zipSV, Nat.reduceAdd]
  refine awp_seq ?_
  refine rg ?_
  refine qp m_box ?_
  refine qv m_as ?_
  show AWp cx _ _ _
  refine awp_seq ?_
  refine rg ?_
  refine qv (m_ldpa sz23 ag23) ?_
  refine qv m_mv ?_
  refine qqF (f57 n ok w hw) ?_
  refine qv m_mv ?_
  refine qv m_ext ?_
  refine qv m_ext ?_
  refine qv m_as ?_
  refine qv m_as ?_
  show AWp cx _ _ _
  refine awp_seq ?_
  refine rg ?_
  refine qv m_mv ?_
  refine qv (m_ldpa sz23 ag23) ?_
  refine qqF (f78 n ok) ?_
  refine qv m_eql ?_
  refine qv m_as ?_
  show AWp cx _ _ _
  refine awp_ret ?_
  exact x1 (hr := (rB_ (by rw [Bool.eq_iff_iff]; simp; omega)))

end Go.Ab.Tryd
