/- The functions of the moss laws, part 33. The walks are written by wip/gen/gw.py. -/
import Derived.Test.YtjipgkhfbfpacaaDoorMoss32
import Derived.Test.YtjipgkhfbfpacaaDoorMossEq
import Derived.Test.YtjipgkhfbfpacaaDoorMossFacts
import Derived.Test.YtjipgkhfbfpacaaDoorMossD
set_option linter.all false
namespace Go.Ab.Tryd
open Go Go.Ab Go.Proofs Go.Ab.Moss
theorem eql_run (a b c : Int) (ha : (Lit.int .i64 a).wf = true) (hb : (Lit.int .i64 b).wf = true) (hc : (Lit.int .i64 c).wf = true) (x y : Operand) (w : World) :
    (do eqGuard .eql 23 x y (.agg #[.int .i64 a, .int .i64 b, .int .i64 c]) (.agg #[.int .i64 a, .int .i64 b, .int .i64 c]); binOp .eql 23 (.agg #[.int .i64 a, .int .i64 b, .int .i64 c]) (.agg #[.int .i64 a, .int .i64 b, .int .i64 c]) : Sem Value).run Tryd.prog w = .ok (.bool true) w := by
  have hg : Tryd.prog.eqGuardType Tryd.prog.depth 23 = false := by kernel_rfl
  have h1 : (eqGuard .eql 23 x y (.agg #[.int .i64 a, .int .i64 b, .int .i64 c]) (.agg #[.int .i64 a, .int .i64 b, .int .i64 c]) : Sem Unit).run Tryd.prog w = .ok () w := by
    have hp : ∀ w : World, (Sem.run Tryd.prog (Sem.program Sem.pure) w : Result Program) = .ok Tryd.prog w := fun _ => rfl
    unfold eqGuard
    simp [Sem.run_bind, program, hp, hg]
  rw [Sem.run_bind, h1, Result.andThen_ok]
  show (do pure (.bool (← Op.equal 23 (.agg #[.int .i64 a, .int .i64 b, .int .i64 c]) (.agg #[.int .i64 a, .int .i64 b, .int .i64 c]))) : Sem Value).run Tryd.prog w = _
  simp only [Sem.run_bind, eq_run a b c ha hb hc, Result.andThen_ok, Sem.run_pure]
section
variable {cx : Cx} {N : Nat} {ops : Array Oper} {rest : List Oper} {l : List (Nat × SV)} {m : List (Nat × Nat × Option Blk)} {K : St → Prop}
  {d : Nat} {ty t2 : TypeId} {p : String} {af : Array Edge} {gd : Option (Nat × Bool)}
theorem qeqM {a b c : Int} {x y : Operand} {op : BinOp} {r : Bool} (hop : (op = .eql ∧ r = true) ∨ (op = .neq ∧ r = false)) (ha : (Lit.int .i64 a).wf = true) (hb : (Lit.int .i64 b).wf = true) (hc : (Lit.int .i64 c).wf = true)
    (kk : Chain cx ops rest ⟨lk ((d, .dv (.bool r)) :: l), mkM m⟩ K)
    (hx : St.ev ⟨lk l, mkM m⟩ x = .dv (.agg [i64 a, i64 b, i64 c])) (hy : St.ev ⟨lk l, mkM m⟩ y = .dv (.agg [i64 a, i64 b, i64 c])) (hP : cx.P = Tryd.prog := by assumption) (hn : cx.n = N := by assumption) (hd : d < N := by decide) (hgd : GOk ops ⟨lk l, mkM m⟩ gd := by (first | exact trivial | exact ⟨_, rfl, by (simp only [lk, reduceIte, Nat.reduceEqDiff])⟩)) :
    Chain cx ops (⟨some d, .binOp op 23 x y t2, ty, p, af, gd⟩ :: rest) ⟨lk l, mkM m⟩ K := by
  subst hn
  refine ⟨⟨lk ((d, .dv (.bool r)) :: l), mkM m⟩, gstep_of hgd (.sem fun hg a' w hsim => ?_), kk⟩
  obtain ⟨μ, h⟩ := hsim
  have hx1 := h.ev x
  have hy1 := h.ev y
  rw [hx] at hx1
  rw [hy] at hy1
  simp only [SVRep] at hx1 hy1
  have ex := rep_mw hx1
  have ey := rep_mw hy1
  have hrun : (execOp a'.eval ⟨some d, .binOp op 23 x y t2, ty, p, af, gd⟩).run cx.P w = .ok (.value (.bool r)) w := by
    unfold execOp
    rcases hop with ⟨rfl, rfl⟩ | ⟨rfl, rfl⟩
    · have hr := eql_run a b c ha hb hc x y w
      simp only [ex, ey, hP]
      simp only [Sem.run_bind] at hr ⊢
      rw [hr]
      rfl
    · have hr := neq_run a b c ha hb hc x y w
      simp only [ex, ey, hP]
      simp only [Sem.run_bind] at hr ⊢
      rw [hr]
      rfl
  refine (runs_val h hrun (r := .dv (.bool r)) (S' := ⟨lk ((d, .dv (.bool r)) :: l), mkM m⟩) ?_ ?_).does
  · simp only [SVRep]; exact .bool _
  · show (if d < cx.n then _ else _) = _
    rw [if_pos hd, upd_lk]
end
theorem f54t (T : Tx) (hT : T.length ≤ 2000) : ACallsF Tryd.prog 54 [.str (bs T)] (.many [.dv (dMw (pRes (refP T)).1), .dv (i64 (pRes (refP T)).2.1), .dv (i64 (pRes (refP T)).2.2)]) := by
  have h := f54 T hT
  rwa [parse_same] at h
theorem fmt_len {n : Mn} (ok : n.Ok) {v : Nat} : (fmtL n v).length ≤ 2000 := by
  have h1 := body_len n.c v ok.c1 (n.r * n.c)
  have h2 := ok.N2
  have h3 : n.r * n.c / n.c ≤ n.r * n.c := Nat.div_le_self _ _
  unfold fmtL
  simp only [List.length_append, hdL_len, h1, List.length_cons, List.length_nil]
  omega
theorem f54k {n : Mn} (ok : n.Ok) {v : Nat} (hv : v ≤ full n) : ACallsF Tryd.prog 54 [.str (bs (fmtL n v))] (.many [.dv (dMn n), .dv (i64 (v : Int)), .dv (i64 0)]) := by
  have h := f54t (fmtL n v) (fmt_len ok)
  rw [ref_fmt ok (by unfold full at hv; have := Nat.two_pow_pos (n.r * n.c); omega)] at h
  exact h
theorem pRes_wf (T : Tx) : (Lit.int .i64 (pRes (refP T)).1.rows).wf = true ∧ (Lit.int .i64 (pRes (refP T)).1.cols).wf = true ∧ (Lit.int .i64 (pRes (refP T)).1.need).wf = true := by
  cases h : refP T with
  | none => exact ⟨by decide, by decide, by decide⟩
  | some x =>
    obtain ⟨⟨a, b, c, d, e, f⟩, _⟩ := ref_some h
    exact ⟨wf_i64 (by simp only [pRes]; omega), wf_i64 (by simp only [pRes]; omega), wf_i64 (by simp only [pRes]; omega)⟩
set_option maxHeartbeats 8000000 in
theorem f16 (m : Mw) (w : Int) (T : Tx) : ACallsF Tryd.prog 16 [dMw m, i64 w, .str (bs T)] (.one (.dv (.bool true))) := by
  obtain ⟨wf1, wf2, wf3⟩ := pRes_wf T
  refine callsF_of Tryd.func16 rfl rfl (by rw [Tryd.ntmps16]; simp) fun cx hP hn hg => ?_
  rw [Tryd.ntmps16] at hn
  rw [startF_lk, none_mkM]
  simp only [List.nil_append, List.append_nil, List.cons_append, zipSV, Nat.reduceAdd]
  refine awp_seq ?_
  refine rg ?_
  refine qp m_box ?_
  refine qv m_as ?_
  show AWp cx _ _ _
  refine awp_seq ?_
  refine awp_seq ?_
  refine rg ?_
  refine qv m_mv ?_
  refine qv (m_slen is9) ?_
  refine qv m_gtr ?_
  show AWp cx _ _ _
  refine cd (fun hc0 => ?_) (fun hc0 => ?_)
  · try simp at hc0
    refine awp_seq ?_
    refine rg ?_
    refine qqF (f18) ?_
    refine qv m_as ?_
    show AWp cx _ _ _
    refine awp_ret ?_
    exact x1 (hr := (rB_))
  · try simp at hc0
    have hT : T.length ≤ 2000 := by omega
    refine awp_skip ?_
    show AWp cx _ _ _
    refine awp_seq ?_
    refine rg ?_
    refine qv (m_ldpa sz23 ag23) ?_
    refine qv m_mv ?_
    refine qqF (f52 m w) ?_
    refine qv m_mv ?_
    refine qv m_ext ?_
    refine qv m_ext ?_
    refine qv m_as ?_
    refine qv m_as ?_
    show AWp cx _ _ _
    refine awp_seq ?_
    refine rg ?_
    refine qv (m_ldpa sz23 ag23) ?_
    refine qv m_mv ?_
    refine qqF (f53 m w) ?_
    refine qv m_mv ?_
    refine qv m_ext ?_
    refine qv m_ext ?_
    refine qv m_as ?_
    refine qv m_as ?_
    show AWp cx _ _ _
    refine awp_seq ?_
    refine rg ?_
    refine qv m_mv ?_
    refine qqF (f54t T hT) ?_
    refine qv m_mv ?_
    refine qv m_ext ?_
    refine qv m_ext ?_
    refine qv m_ext ?_
    refine qp (m_al ze23) ?_
    refine qs (m_st sz23) ?_
    refine qv m_as ?_
    refine qv m_as ?_
    show AWp cx _ _ _
    refine awp_seq ?_
    refine rg ?_
    refine qv m_mv ?_
    refine qqF (f55 T hT) ?_
    refine qv m_mv ?_
    refine qv m_ext ?_
    refine qv m_ext ?_
    refine qv m_ext ?_
    refine qp (m_al ze23) ?_
    refine qs (m_st sz23) ?_
    refine qv m_as ?_
    refine qv m_as ?_
    show AWp cx _ _ _
    refine awp_seq ?_
    refine awp_seq ?_
    refine rg ?_
    refine qv m_mv ?_
    refine qv m_mv ?_
    refine qv m_sne ?_
    refine qx m_mv (fun hg51 => ?_) (fun hg51 => ?_)
    · exact absurd hg51 (by simp)
    refine qv m_mv ?_
    refine qv m_mv ?_
    refine qv m_neq ?_
    refine qv m_pk ?_
    refine qx m_mv (fun hg56 => ?_) (fun hg56 => ?_)
    · exact absurd hg56 (by simp)
    refine qv (m_ldpa sz23 ag23) ?_
    refine qv (m_ldpa sz23 ag23) ?_
    refine qeqM (.inr ⟨rfl, rfl⟩) wf1 wf2 wf3 ?_ (by simp only [St.ev, lk, reduceIte, Nat.reduceEqDiff] <;> rfl) (by simp only [St.ev, lk, reduceIte, Nat.reduceEqDiff] <;> rfl)
    refine qv m_pk ?_
    refine qx m_mv (fun hg61 => ?_) (fun hg61 => ?_)
    · exact absurd hg61 (by simp)
    refine qv m_mv ?_
    refine qv m_mv ?_
    refine qv m_neq ?_
    refine qv m_pk ?_
    refine qx m_mv (fun hg66 => ?_) (fun hg66 => ?_)
    · exact absurd hg66 (by simp)
    refine qv m_mv ?_
    refine qv m_mv ?_
    refine qv m_neq ?_
    refine qv m_pk ?_
    show AWp cx _ _ _
    refine cdF (hb := by simp) (ht := ?_)
    refine awp_skip ?_
    show AWp cx _ _ _
    refine awp_seq ?_
    refine awp_seq ?_
    refine rg ?_
    refine qv m_mv ?_
    refine qv m_neq ?_
    show AWp cx _ _ _
    refine cd (fun hc2 => ?_) (fun hc2 => ?_)
    · skip
      refine awp_seq ?_
      refine rg ?_
      refine qqF (f18) ?_
      refine qv m_as ?_
      show AWp cx _ _ _
      refine awp_ret ?_
      exact x1 (hr := (rB_))
    · skip
      have he : wetE m w = 0 := by simpa using hc2
      obtain ⟨n, v, ok, rfl, rfl, hv⟩ := wetE_ok he
      have hv36 := le36 ok hv
      have hwe := wetE_v ok hv
      rw [fmt_ok ok hv]
      obtain ⟨n1, n2, n3, n4, n5, n6⟩ := ok
      have ok : n.Ok := ⟨n1, n2, n3, n4, n5, n6⟩
      have wg1 : (Lit.int .i64 (n.r : Int)).wf = true := wf_i64 (by omega)
      have wg2 : (Lit.int .i64 (n.c : Int)).wf = true := wf_i64 (by omega)
      have wg3 : (Lit.int .i64 (n.nd : Int)).wf = true := wf_i64 (by omega)
      refine awp_skip ?_
      show AWp cx _ _ _
      refine awp_seq ?_
      refine rg ?_
      refine qv m_mv ?_
      refine qqF (f54k ok hv) ?_
      refine qv m_mv ?_
      refine qv m_ext ?_
      refine qv m_ext ?_
      refine qv m_ext ?_
      refine qp (m_al ze23) ?_
      refine qs (m_st sz23) ?_
      refine qv m_as ?_
      refine qv m_as ?_
      show AWp cx _ _ _
      refine awp_seq ?_
      refine rg ?_
      refine qv m_mv ?_
      refine qv m_eql ?_
      refine qx m_mv (fun hg82 => ?_) (fun hg82 => ?_)
      rotate_left
      · exact absurd hg82 (by simp)
      refine qv (m_ldpa sz23 ag23) ?_
      refine qv (m_ldpa sz23 ag23) ?_
      refine qeqM (.inl ⟨rfl, rfl⟩) wg1 wg2 wg3 ?_ (by simp only [St.ev, lk, reduceIte, Nat.reduceEqDiff] <;> rfl) (by simp only [St.ev, lk, reduceIte, Nat.reduceEqDiff] <;> rfl)
      refine qv m_pk ?_
      refine qx m_mv (fun hg87 => ?_) (fun hg87 => ?_)
      rotate_left
      · exact absurd hg87 (by simp)
      refine qv m_mv ?_
      refine qv m_mv ?_
      refine qv m_eql ?_
      refine qv m_pk ?_
      refine qx m_mv (fun hg92 => ?_) (fun hg92 => ?_)
      rotate_left
      · exact absurd hg92 (by simp)
      refine qqF (f18) ?_
      refine qv m_pk ?_
      refine qv m_as ?_
      show AWp cx _ _ _
      refine awp_ret ?_
      exact x1 (hr := (rB_))
end Go.Ab.Tryd
