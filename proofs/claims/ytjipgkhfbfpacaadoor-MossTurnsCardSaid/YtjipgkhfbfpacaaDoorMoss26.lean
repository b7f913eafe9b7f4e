/- The functions of the moss laws, part 26. The walks are written by wip/gen/gw.py. -/
import Derived.Test.YtjipgkhfbfpacaaDoorMoss25
import Derived.Test.YtjipgkhfbfpacaaDoorAbI
import Derived.Test.YtjipgkhfbfpacaaDoorMossFacts
import Derived.Test.YtjipgkhfbfpacaaDoorMossD
set_option linter.all false
namespace Go.Ab.Tryd
open Go Go.Ab Go.Proofs Go.Ab.Moss

theorem ar86 : arrP Tryd.prog 86 = some (2, 3) := by kernel_rfl
/-- Where the squares of a set go. -/
def movF (v : Nat) (g : Nat → Nat) : Nat → Nat
  | 0 => 0
  | k + 1 => if v.testBit k then movF v g k ||| 2 ^ g k else movF v g k
theorem movF_lt {v : Nat} {g : Nat → Nat} : ∀ {k : Nat}, (∀ j, j < k → g j < 36) → movF v g k < 68719476736
  | 0, _ => by simp [movF]
  | k + 1, h => by
    have ih := movF_lt (v := v) (g := g) (k := k) fun j hj => h j (by omega)
    simp only [movF]
    split
    · exact or36 ih (two36 (by have := h k (by omega); omega))
    · exact ih
def turnK (n : Mn) (k : Nat) : Nat := k % n.c * n.r + (n.r - 1 - k / n.c)
def mirK (n : Mn) (k : Nat) : Nat := k / n.c * n.c + (n.c - 1 - k % n.c)
theorem turnK_lt {n : Mn} (ok : n.Ok) {k : Nat} (hk : k < n.r * n.c) : turnK n k < n.r * n.c := by
  have h1 := row_lt hk ok.c1
  have h2 := Nat.mod_lt k ok.c1
  have h3 : k % n.c * n.r + n.r ≤ n.c * n.r := by rw [← Nat.succ_mul]; exact Nat.mul_le_mul_right _ h2
  unfold turnK
  rw [Nat.mul_comm n.r n.c]
  generalize k / n.c = a at *
  generalize k % n.c * n.r = b at *
  generalize n.c * n.r = e at *
  omega
theorem mirK_lt {n : Mn} (ok : n.Ok) {k : Nat} (hk : k < n.r * n.c) : mirK n k < n.r * n.c := by
  have h1 := row_lt hk ok.c1
  have h2 := Nat.mod_lt k ok.c1
  have h3 : k / n.c * n.c + n.c ≤ n.r * n.c := by rw [← Nat.succ_mul]; exact Nat.mul_le_mul_right _ h1
  unfold mirK
  generalize k % n.c = a at *
  generalize k / n.c * n.c = b at *
  generalize n.r * n.c = e at *
  omega


theorem f83 (n : Mn) (ok : n.Ok) (i j : Nat) (hi : i < n.r) (hj : j < n.c) : ACallsF Tryd.prog 83 [i64 (i : Int), i64 (j : Int), .cptr [i64 (n.c : Int), i64 (n.r : Int), i64 (n.nd : Int)], .cptr [i64 (n.r : Int), i64 (n.c : Int), i64 (n.nd : Int)]] (.one (.dv (i64 ((j * n.r + (n.r - 1 - i) : Nat) : Int)))) := by
  have hr := ok.r2
  have hc := ok.c2
  have hm : j * n.r ≤ 6 * 6 := Nat.mul_le_mul (by omega) hr
  refine callsF_of Tryd.func83 rfl rfl (by rw [Tryd.ntmps83]; simp) fun cx hP hn hg => ?_
  rw [Tryd.ntmps83] at hn
  rw [startF_lk, none_mkM]
  simp only [List.nil_append, List.append_nil, List.cons_append, zipSV, Nat.reduceAdd]
  refine awp_seq ?_
  refine rg ?_
  refine qv m_as ?_
  show AWp cx _ _ _
  refine awp_seq ?_
  refine rg ?_
  refine qv m_mv ?_
  first | refine qv (m_fd fd23_1) ?_ | refine qv (m_fdp fd23_1) ?_
  first | refine qv (m_ld sz3 ag3) ?_ | refine qv (m_ldp sz3 ag3) ?_
  refine qv m_mulN ?_
  first | refine qv (m_fd fd23_0) ?_ | refine qv (m_fdp fd23_0) ?_
  first | refine qv (m_ld sz3 ag3) ?_ | refine qv (m_ldp sz3 ag3) ?_
  refine qv m_add ?_
  refine qv m_sub ?_
  refine qv m_mv ?_
  refine qv m_sub ?_
  refine qv m_as ?_
  show AWp cx _ _ _
  refine awp_ret ?_
  exact x1 (hr := (rI_ (by omega)))

theorem f84 (n : Mn) (ok : n.Ok) (i j : Nat) (hi : i < n.r) (hj : j < n.c) : ACallsF Tryd.prog 84 [i64 (i : Int), i64 (j : Int), .cptr [i64 (n.r : Int), i64 (n.c : Int), i64 (n.nd : Int)]] (.one (.dv (i64 ((i * n.c + (n.c - 1 - j) : Nat) : Int)))) := by
  have hr := ok.r2
  have hc := ok.c2
  have hm : i * n.c ≤ 6 * 6 := Nat.mul_le_mul (by omega) hc
  refine callsF_of Tryd.func84 rfl rfl (by rw [Tryd.ntmps84]; simp) fun cx hP hn hg => ?_
  rw [Tryd.ntmps84] at hn
  rw [startF_lk, none_mkM]
  simp only [List.nil_append, List.append_nil, List.cons_append, zipSV, Nat.reduceAdd]
  refine awp_seq ?_
  refine rg ?_
  refine qv m_as ?_
  show AWp cx _ _ _
  refine awp_seq ?_
  refine rg ?_
  refine qv m_mv ?_
  first | refine qv (m_fd fd23_1) ?_ | refine qv (m_fdp fd23_1) ?_
  first | refine qv (m_ld sz3 ag3) ?_ | refine qv (m_ldp sz3 ag3) ?_
  refine qv m_mulN ?_
  first | refine qv (m_fd fd23_1) ?_ | refine qv (m_fdp fd23_1) ?_
  first | refine qv (m_ld sz3 ag3) ?_ | refine qv (m_ldp sz3 ag3) ?_
  refine qv m_add ?_
  refine qv m_sub ?_
  refine qv m_mv ?_
  refine qv m_sub ?_
  refine qv m_as ?_
  show AWp cx _ _ _
  refine awp_ret ?_
  exact x1 (hr := (rI_ (by omega)))

set_option maxHeartbeats 4000000 in
theorem f82 (n : Mn) (ok : n.Ok) (v : Nat) (hv : v < 68719476736) (f : FuncId) (caps : List DV) (g : Nat → Nat) (hg0 : ∀ k, k < n.r * n.c → g k < 36) (hf : ∀ k, k < n.r * n.c → ACallsF Tryd.prog f ([] ++ [i64 ((k / n.c : Nat) : Int), i64 ((k % n.c : Nat) : Int)] ++ caps) (.one (.dv (i64 (g k : Int))))) :
    ACallsF Tryd.prog 82 [dMn n, i64 (v : Int), .fn f [] caps] (.one (.dv (i64 (movF v g (n.r * n.c) : Int)))) := by
  have hN := ok.N2
  refine callsR_of (ds := [i64 (movF v g (n.r * n.c) : Int)]) Tryd.func82 rfl rfl (by rw [Tryd.ntmps82]; simp) fun cx hP hn hg hrn hdq hfin => ?_
  rw [Tryd.ntmps82] at hn
  rw [startF_lk, none_mkM]
  simp only [List.nil_append, List.append_nil, List.cons_append, zipSV, Nat.reduceAdd]
  refine awp_seq ?_
  refine rg ?_
  refine qp m_box ?_
  refine qp m_box ?_
  refine qp m_box ?_
  refine qv m_as ?_
  show AWp cx _ _ _
  refine awp_seq ?_
  refine rg ?_
  refine qp (m_al ze3) ?_
  refine qs (m_st sz3) ?_
  show AWp cx _ _ _
  refine awp_seq_seq_rf ?_
  refine rg ?_
  refine qv (m_ldpa sz23 ag23) ?_
  refine qqA (f92 n) ?_
  show RfOk cx _ _ _ _
  refine rgf hg hrn hdq hfin hP hn (sq_seq ok) (l := [(4, .pt 4 0 0), (5, .pt 5 0 0), (7, .pt 7 0 0), (11, .dv (.fn 103 [] [.cptr [i64 (n.r : Int), i64 (n.c : Int), i64 (n.nd : Int)]]))]) (fun k => [(4, 0, some ⟨[.dv (i64 ((v : Int)))], 0, 3, 0, false⟩), (5, 0, some ⟨[.dv (.fn f [] caps)], 0, 71, 0, false⟩), (7, 0, some ⟨[.dv (i64 ((movF v g k : Nat) : Int))], 0, 3, 0, false⟩)]) (tl [(4, 4), (5, 5), (7, 7)] (hF := by simp [FLe, svLe, lk, mkM, isLive, tauL, movF]) (hM := by simp [MLe, blkLe, svLe, svLes, lk, mkM, isLive, tauL, svLes_ints, svLes_self, isDvs, isDvs_map, isDvs_app, isDvs_take, isDvs_set, isDvs_repl, movF])) (fun k x hx => ?_) fun cx2 hP2 hn2 hg2 => ?_
  · obtain ⟨hk, rfl⟩ := sq_get hx
    refine roundL (P := Tryd.prog) (N := 27) [(4, 4), (5, 5), (7, 7)] [(4, ⟨[.dv (i64 ((v : Int)))], 0, 3, 7, false⟩), (5, ⟨[.dv (.fn f [] caps)], 0, 71, 8, false⟩), (7, ⟨[.dv (i64 ((movF v g k : Nat) : Int))], 0, 3, 10, false⟩)] [(4, ⟨[.dv (i64 ((v : Int)))], 0, 3, 7, false⟩), (5, ⟨[.dv (.fn f [] caps)], 0, 71, 8, false⟩), (7, ⟨[.dv (i64 ((movF v g (k + 1) : Nat) : Int))], 0, 3, 10, false⟩)] [4, 5, 7] [(4, .pt 4 0 0), (5, .pt 5 0 0), (7, .pt 7 0 0), (11, .dv (.fn 103 [] [.cptr [i64 (n.r : Int), i64 (n.c : Int), i64 (n.nd : Int)]]))] (hle := (tl [(4, 4), (5, 5), (7, 7)] (hF := by simp [FLe, svLe, lk, mkM, isLive, tauL, movF]) (hM := by simp [MLe, blkLe, svLe, svLes, lk, mkM, isLive, tauL, svLes_ints, svLes_self, isDvs, isDvs_map, isDvs_app, isDvs_take, isDvs_set, isDvs_repl, movF]))) (k := fun cx1 hP1 hn1 hg1 => ?_)
    show AWp cx1 _ _ ⟨lk [(13, .dv (.agg [i64 ((k / n.c : Nat) : Int), i64 ((k % n.c : Nat) : Int)])), (12, .dv (i64 ((k : Nat)))), (4, .pt 4 0 0), (5, .pt 5 0 0), (7, .pt 7 0 0), (11, .dv (.fn 103 [] [.cptr [i64 (n.r : Int), i64 (n.c : Int), i64 (n.nd : Int)]]))], mkM [(4, 0, some ⟨[.dv (i64 ((v : Int)))], 0, 3, 7, false⟩), (5, 0, some ⟨[.dv (.fn f [] caps)], 0, 71, 8, false⟩), (7, 0, some ⟨[.dv (i64 ((movF v g k : Nat) : Int))], 0, 3, 10, false⟩)]⟩
    have hgk := hg0 k hk
    have hw36 := movF_lt (v := v) (g := g) (k := k) fun j hj => hg0 j (by omega)
    refine awp_seq ?_
    refine rg ?_
    refine qv m_as ?_
    show AWp cx1 _ _ _
    refine rg ?_
    refine qp (m_al ze86) ?_
    refine qs (m_st sz86) ?_
    refine asg fun cx1 hP1 hn1 hg1 => ?_
    refine awp_block ?_
    refine awp_seq ?_
    refine rg ?_
    refine qv (m_ldp sz3 ag3) ?_
    refine qv m_mv ?_
    refine qqF (f77 v k hv (by omega)) ?_
    show AWp cx1 _ _ _
    refine cd (fun hc0 => ?_) (fun hc0 => ?_)
    · skip
      refine rd mixed ?_
      first | refine zv (m_ldI sz3 ag3) ?_ | refine zv (m_ldp sz3 ag3) ?_
      refine zv (m_ldp sz71 ag71) ?_
      refine zv (m_ixA ar86 sz3) ?_
      refine zv (m_ldp sz3 ag3) ?_
      refine zv (m_ixA ar86 sz3) ?_
      refine zv (m_ldp sz3 ag3) ?_
      refine zqVF (R := []) (hf k hk) ?_
      refine zv (m_shlS (g k)) ?_
      refine zv (m_orS (ha := hw36) (hb := two36 (by omega))) ?_
      first | refine zs (m_stI sz3) ?_ | refine zs (m_st sz3) ?_
      refine ⟨by rfl, ?_⟩
      have hb : movF v g (k + 1) = movF v g k ||| 2 ^ g k := by simp only [movF]; rw [if_pos hc0]
      exact rend (tl [(4, 4), (5, 5), (7, 7)] (hF := by simp [FLe, svLe, lk, mkM, isLive, tauL, hb]) (hM := by simp [MLe, blkLe, svLe, svLes, lk, mkM, isLive, tauL, svLes_ints, svLes_self, isDvs, isDvs_map, isDvs_app, isDvs_take, isDvs_set, isDvs_repl, hb]))
    · skip
      refine awp_skip ?_
      have hb : movF v g (k + 1) = movF v g k := by simp only [movF]; rw [if_neg (by rw [hc0]; simp)]
      exact rend (tl [(4, 4), (5, 5), (7, 7)] (hF := by simp [FLe, svLe, lk, mkM, isLive, tauL, hb]) (hM := by simp [MLe, blkLe, svLe, svLes, lk, mkM, isLive, tauL, svLes_ints, svLes_self, isDvs, isDvs_map, isDvs_app, isDvs_take, isDvs_set, isDvs_repl, hb]))
  · try rw [List.length_map, List.length_range]
    refine awp_seq ?_
    refine rg ?_
    refine qv (m_ldp sz3 ag3) ?_
    refine qv m_as ?_
    show AWp cx2 _ _ _
    refine awp_ret ?_
    exact xs1

end Go.Ab.Tryd
