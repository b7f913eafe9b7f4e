/- The functions of the moss laws, part 27. The walks are written by wip/gen/gw.py. -/
import Derived.Test.YtjipgkhfbfpacaaDoorMoss26
import Derived.Test.YtjipgkhfbfpacaaDoorAbI
import Derived.Test.YtjipgkhfbfpacaaDoorMossEq
import Derived.Test.YtjipgkhfbfpacaaDoorMossFacts
import Derived.Test.YtjipgkhfbfpacaaDoorMossD
set_option linter.all false
namespace Go.Ab.Tryd
open Go Go.Ab Go.Proofs Go.Ab.Moss

def turnM (m : Mw) (w : Int) : Mw := onWet m w ⟨0, 0, 0⟩ fun n _ => ⟨n.c, n.r, n.nd⟩
theorem turnM_ok {n : Mn} (ok : n.Ok) {v : Nat} (hv : v ≤ full n) : turnM n.w v = ⟨n.c, n.r, n.nd⟩ := onWet_ok ok hv
theorem turnM_no {m : Mw} {w : Int} (h : ¬ wetE m w = 0) : turnM m w = ⟨0, 0, 0⟩ := onWet_no h
theorem x3c {P : Program} {okd : DV → Prop} {S : St} {rv : List ResultVar} {x : Exit} {d0 d1 d2 : DV} (he : x = .normal ∨ x = .ret) (h : resSV P S rv = some [.dv d0, .dv d1, .dv d2]) (h0 : okd d0) (h1 : okd d1) (h2 : okd d2) : EndK P okd rv (.many [.dv d0, .dv d1, .dv d2]) x S :=
  ⟨he, [.dv d0, .dv d1, .dv d2], [.dv d0, .dv d1, .dv d2], h, ⟨retOk_dv (.dv _ h0), retOk_dv (.dv _ h1), retOk_dv (.dv _ h2), trivial⟩, ra_d (by simp [AllDv1]), rfl⟩
theorem turnK36 {n : Mn} (ok : n.Ok) {k : Nat} (hk : k < n.r * n.c) : turnK n k < 36 := by have := turnK_lt ok hk; have := ok.N2; omega
theorem mirK36 {n : Mn} (ok : n.Ok) {k : Nat} (hk : k < n.r * n.c) : mirK n k < 36 := by have := mirK_lt ok hk; have := ok.N2; omega


theorem f46 (m : Mw) (w : Int) : ACallsF Tryd.prog 46 [dMw m, i64 w] (.many [.dv (i64 (onWet m w 0 fun n v => (movF v (mirK n) (n.r * n.c) : Int))), .dv (i64 (wetE m w))]) := by
  refine callsF_of Tryd.func46 rfl rfl (by rw [Tryd.ntmps46]; simp) fun cx hP hn hg => ?_
  rw [Tryd.ntmps46] at hn
  rw [startF_lk, none_mkM]
  simp only [List.nil_append, List.append_nil, List.cons_append, zipSV, Nat.reduceAdd]
  refine awp_seq ?_
  refine rg ?_
  refine qp m_box ?_
  refine qv m_as ?_
  refine qv m_as ?_
  show AWp cx _ _ _
  refine awp_seq ?_
  refine awp_seq ?_
  refine rg ?_
  refine qv (m_ldpa sz23 ag23) ?_
  refine qv m_mv ?_
  refine qqF (f56 m w) ?_
  refine qv m_as ?_
  show AWp cx _ _ _
  refine awp_seq ?_
  refine rg ?_
  refine qv m_mv ?_
  refine qv m_neq ?_
  show AWp cx _ _ _
  refine cd (fun hc0 => ?_) (fun hc0 => ?_)
  · skip
    have hne : ¬ wetE m w = 0 := by simpa using hc0
    refine awp_seq ?_
    refine rg ?_
    refine qv m_mv ?_
    refine qv m_as ?_
    refine qv m_as ?_
    show AWp cx _ _ _
    refine awp_ret ?_
    exact x2 (hr := (rI_ (by rw [onWet_no hne]))) (hr' := (rI_))
  · skip
    have he : wetE m w = 0 := by simpa using hc0
    obtain ⟨n, v, ok, rfl, rfl, hv⟩ := wetE_ok he
    have hv36 := le36 ok hv
    have hwe := wetE_v ok hv
    refine awp_skip ?_
    show AWp cx _ _ _
    refine awp_seq ?_
    have hf : ∀ k, k < n.r * n.c → ACallsF Tryd.prog 84 ([] ++ [i64 ((k / n.c : Nat) : Int), i64 ((k % n.c : Nat) : Int)] ++ [.cptr [i64 (n.r : Int), i64 (n.c : Int), i64 (n.nd : Int)]]) (.one (.dv (i64 (mirK n k : Int)))) := fun k hk => f84 n ok _ _ (row_lt hk ok.c1) (Nat.mod_lt _ ok.c1)
    refine rg ?_
    refine qv (m_ldpa sz23 ag23) ?_
    refine qv m_mv ?_
    refine qfn ?_
    refine qqF (f82 n ok v hv36 84 [.cptr [i64 (n.r : Int), i64 (n.c : Int), i64 (n.nd : Int)]] (mirK n) (fun k hk => mirK36 ok hk) hf) ?_
    refine qv m_as ?_
    refine qv m_as ?_
    show AWp cx _ _ _
    refine awp_ret ?_
    exact x2 (hr := (rI_ (by rw [onWet_ok ok hv]))) (hr' := (rI_ (by rw [hwe])))

set_option maxHeartbeats 4000000 in
theorem f44 (m : Mw) (w : Int) : ACallsF Tryd.prog 44 [dMw m, i64 w] (.many [.dv (dMw (turnM m w)), .dv (i64 (onWet m w 0 fun n v => (movF v (turnK n) (n.r * n.c) : Int))), .dv (i64 (wetE m w))]) := by
  refine callsF_of Tryd.func44 rfl rfl (by rw [Tryd.ntmps44]; simp) fun cx hP hn hg => ?_
  rw [Tryd.ntmps44] at hn
  rw [startF_lk, none_mkM]
  simp only [List.nil_append, List.append_nil, List.cons_append, zipSV, Nat.reduceAdd]
  refine awp_seq ?_
  refine rg ?_
  refine qp m_box ?_
  refine qp (m_al ze23) ?_
  refine qv m_as ?_
  refine qv m_as ?_
  show AWp cx _ _ _
  refine awp_seq ?_
  refine awp_seq ?_
  refine rg ?_
  refine qv (m_ldpa sz23 ag23) ?_
  refine qv m_mv ?_
  refine qqF (f56 m w) ?_
  refine qv m_as ?_
  show AWp cx _ _ _
  refine awp_seq ?_
  refine rg ?_
  refine qv m_mv ?_
  refine qv m_neq ?_
  show AWp cx _ _ _
  refine cd (fun hc0 => ?_) (fun hc0 => ?_)
  · skip
    have hne : ¬ wetE m w = 0 := by simpa using hc0
    refine awp_seq ?_
    refine rg ?_
    refine qv (m_bld pl23 ze23) ?_
    refine qv m_mv ?_
    refine qs (m_st sz23) ?_
    refine qv m_as ?_
    refine qv m_as ?_
    show AWp cx _ _ _
    refine awp_ret ?_
    rw [turnM_no hne, onWet_no hne]
    exact x3c (rv := [.cell 4 23, .tmp 5, .tmp 6]) (.inr rfl) (by simp only [resSV, loadSV, St.look, St.ev, lk, mkM, blkOf, svOf, svOfCell, sz23, ag23, reduceIte, Nat.reduceEqDiff]; rfl) (.agg _ (by intro c hc; simp at hc; rcases hc with rfl | rfl | rfl <;> exact .int _ _)) (.int _ _) (.int _ _)
  · skip
    have he : wetE m w = 0 := by simpa using hc0
    obtain ⟨n, v, ok, rfl, rfl, hv⟩ := wetE_ok he
    have hv36 := le36 ok hv
    have hwe := wetE_v ok hv
    refine awp_skip ?_
    show AWp cx _ _ _
    refine awp_seq ?_
    refine rg ?_
    refine qv (m_fdp fd23_1) ?_
    refine qv (m_ldp sz3 ag3) ?_
    refine qv (m_fdp fd23_0) ?_
    refine qv (m_ldp sz3 ag3) ?_
    refine qv (m_fdp fd23_2) ?_
    refine qv (m_ldp sz3 ag3) ?_
    refine qv (m_bld pl23 ze23) ?_
    refine qp (m_al ze23) ?_
    refine qs (m_st sz23) ?_
    show AWp cx _ _ _
    refine awp_seq ?_
    have hf : ∀ k, k < n.r * n.c → ACallsF Tryd.prog 83 ([] ++ [i64 ((k / n.c : Nat) : Int), i64 ((k % n.c : Nat) : Int)] ++ [.cptr [i64 (n.c : Int), i64 (n.r : Int), i64 (n.nd : Int)], .cptr [i64 (n.r : Int), i64 (n.c : Int), i64 (n.nd : Int)]]) (.one (.dv (i64 (turnK n k : Int)))) := fun k hk => f83 n ok _ _ (row_lt hk ok.c1) (Nat.mod_lt _ ok.c1)
    refine awp_frz 8 ?_
    refine awp_frz 2 ?_
    refine rd mixed ?_
    refine zv (m_ldpa sz23 ag23) ?_
    refine zv (m_ldpa sz23 ag23) ?_
    refine zv m_mv ?_
    refine zfn [8, 2] (by simp only [List.map, capsSV, capSV, allDv, List.drop, Option.map_some, List.append_nil, List.nil_append, List.cons_append, St.look, St.ev, lk, mkM, blkOf, svOf, svOfCell, reduceIte, Nat.reduceAdd, Nat.reduceEqDiff, Nat.reduceMul] <;> rfl) (by simp only [List.map, capsSV, capSV, allDv, List.drop, Option.map_some, List.append_nil, List.nil_append, List.cons_append, St.look, St.ev, lk, mkM, blkOf, svOf, svOfCell, reduceIte, Nat.reduceAdd, Nat.reduceEqDiff, Nat.reduceMul] <;> rfl) (by simp [St.ev, lk, svTag]) (by intro u hu; simp at hu; rcases hu with rfl | rfl <;> exact ⟨by simp, _, _, (by simp only [mkM, reduceIte, Nat.reduceEqDiff] <;> rfl), rfl⟩) ?_
    refine zqF (R := []) (f82 n ok v hv36 83 [.cptr [i64 (n.c : Int), i64 (n.r : Int), i64 (n.nd : Int)], .cptr [i64 (n.r : Int), i64 (n.c : Int), i64 (n.nd : Int)]] (turnK n) (fun k hk => turnK36 ok hk) hf) ?_
    refine zs (m_st sz23) ?_
    refine zv m_as ?_
    refine zv m_as ?_
    refine ⟨by rfl, ?_⟩
    show AWp cx _ _ _
    refine awp_ret ?_
    rw [turnM_ok ok hv, onWet_ok ok hv, hwe]
    exact x3c (rv := [.cell 4 23, .tmp 5, .tmp 6]) (.inr rfl) (by simp only [resSV, loadSV, St.look, St.ev, lk, mkM, blkOf, svOf, svOfCell, sz23, ag23, reduceIte, Nat.reduceEqDiff]; rfl) (.agg _ (by intro c hc; simp at hc; rcases hc with rfl | rfl | rfl <;> exact .int _ _)) (.int _ _) (.int _ _)

end Go.Ab.Tryd
