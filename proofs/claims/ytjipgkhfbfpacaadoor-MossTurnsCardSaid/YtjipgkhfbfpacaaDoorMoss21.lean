/- The functions of the moss laws, part 21. The walks are written by wip/gen/gw.py. -/
import Derived.Test.YtjipgkhfbfpacaaDoorMoss20
import Derived.Test.YtjipgkhfbfpacaaDoorMossIb
import Derived.Test.YtjipgkhfbfpacaaDoorMossFacts
import Derived.Test.YtjipgkhfbfpacaaDoorMossD
set_option linter.all false
namespace Go.Ab.Tryd
open Go Go.Ab Go.Proofs Go.Ab.Moss

section
variable {cx : Cx} {ops : Array Oper} {o : Oper} {rest : List Oper} {K : St → Prop} {l : List (Nat × SV)} {m : List (Nat × Nat × Option Blk)}
/-- A block is frozen ahead of an operation. -/
theorem ch_frz (t : Nat) {g : Nat} {b : Blk} (k : Chain cx ops (o :: rest) ⟨lk l, mkM ((t, g, some { b with st := 1 }) :: m)⟩ K) (hgd : o.guard = none := by rfl) (h0 : mkM m t = (g, some b) := by (simp only [mkM, reduceIte, Nat.reduceEqDiff] <;> rfl)) (h1 : OwS b.st ∨ b.st = 1 := by (first | exact .inl (.inl rfl) | exact .inr rfl)) : Chain cx ops (o :: rest) ⟨lk l, mkM m⟩ K := by
  obtain ⟨S', hs, hk⟩ := k
  refine ⟨S', ?_, hk⟩
  unfold GStep at hs ⊢
  rw [hgd] at hs ⊢
  simp only at hs ⊢
  have hl := Le.freeze (cx := cx) (S := ⟨lk l, mkM m⟩) h0 h1
  rw [upd_mkM] at hl
  exact .sem fun hg a w h => Step.does hg (hl a w h) hs
end
/-- A square is taken where that changes nothing of what spreads. -/
def tstep (n : Mn) (s w k : Nat) : Nat := if (spr n (andn w (2 ^ k))).1 = s then andn w (2 ^ k) else w
def thL (n : Mn) (s : Nat) (l : List Nat) (w : Nat) : Nat := l.foldl (tstep n s) w
def thin (n : Mn) (v : Nat) : Nat := thL n (spr n v).1 (List.range (n.r * n.c)).reverse v
theorem andn_sub {a b : Nat} : Sub (andn a b) a := fun i hi => by rw [andn_bit, Bool.and_eq_true] at hi; exact hi.1
theorem tstep_sub {n : Mn} {s w k : Nat} : Sub (tstep n s w k) w := by
  unfold tstep
  split
  · exact andn_sub
  · exact .refl _
theorem thL_sub {n : Mn} {s : Nat} : ∀ {l : List Nat} {w : Nat}, Sub (thL n s l w) w
  | [], w => .refl _
  | k :: l, w => (thL_sub (l := l) (w := tstep n s w k)).trans tstep_sub
theorem tstep_skip {n : Mn} {s w k : Nat} (h : w.testBit k = false) : tstep n s w k = w := by
  have e : andn w (2 ^ k) = w := by
    apply Nat.eq_of_testBit_eq
    intro i
    rw [andn_bit, Nat.testBit_two_pow]
    by_cases hi : k = i
    · subst hi; simp [h]
    · simp [hi]
  unfold tstep
  rw [e]
  split <;> rfl
theorem thL_filter {n : Mn} {s v : Nat} : ∀ (l : List Nat) (w : Nat), Sub w v → thL n s (l.filter fun i => v.testBit i) w = thL n s l w
  | [], w, _ => rfl
  | k :: l, w, h => by
    rw [List.filter_cons]
    cases hv : v.testBit k with
    | true =>
      simp only [if_true]
      exact thL_filter l (tstep n s w k) (tstep_sub.trans h)
    | false =>
      have hw : w.testBit k = false := by
        cases hb : w.testBit k with
        | false => rfl
        | true => rw [h k hb] at hv; cases hv
      simp only [Bool.false_eq_true, if_false]
      rw [thL_filter l w h]
      show _ = thL n s l (tstep n s w k)
      rw [tstep_skip hw]
theorem thin_bl {n : Mn} (ok : n.Ok) {v : Nat} (hv : v ≤ full n) : thL n (spr n v).1 (bl v).reverse v = thin n v := by
  rw [bl_range ok hv, ← List.filter_reverse, thL_filter _ _ (.refl v)]; rfl
theorem thL_take {n : Mn} {s w k : Nat} {l : List Nat} (h : k < l.length) : thL n s (l.take (k + 1)) w = tstep n s (thL n s (l.take k) w) l[k] := by
  unfold thL
  rw [List.take_succ, List.getElem?_eq_getElem h, List.foldl_append]
  rfl
theorem bk_get {l : List Nat} {k : Nat} {x : List DV} (h : ((List.range (ns l).length).map (Go.Proofs.bkArg (fun i => (ns l).getD i 0) (ns l).length))[k]? = some x) : ∃ hk : k < l.reverse.length, x = [i64 ((l.length : Int) - 1 - k), i64 ((l.reverse[k] : Nat) : Int)] := by
  rw [List.getElem?_map, Option.map_eq_some_iff] at h
  obtain ⟨j, hj, rfl⟩ := h
  obtain ⟨h1, h2⟩ := List.getElem?_eq_some_iff.1 hj
  simp only [List.length_range, List.getElem_range] at h1 h2
  subst h2
  rw [ns_len] at h1
  refine ⟨by simpa using h1, ?_⟩
  unfold Go.Proofs.bkArg
  rw [ns_len, List.getElem_reverse]
  have e : (ns l).getD (l.length - 1 - k) 0 = (l[l.length - 1 - k] : Int) := by
    rw [List.getD_eq_getElem?_getD, ns_get (by omega)]; rfl
  dsimp only
  rw [e]


theorem f73 (L : List Int) : ACalls Tryd.prog 73 [ints L] (.one (.dv (.fn 95 [] [.cptr [ints L]]))) := by
  refine callsA_of Tryd.func73 rfl rfl (by rw [Tryd.ntmps73]; simp) fun cx hP hn hg => ?_
  rw [Tryd.ntmps73] at hn
  rw [startF_lk, none_mkM]
  simp only [List.nil_append, List.append_nil, List.cons_append, zipSV, Nat.reduceAdd]
  refine awp_seq ?_
  refine rg ?_
  refine qp m_box ?_
  refine qv m_as ?_
  show AWp cx _ _ _
  refine awp_seq ?_
  refine rg ?_
  refine qfn ?_
  refine qv m_as ?_
  show AWp cx _ _ _
  refine awp_ret ?_
  exact x1 (hr := (rD_))

set_option maxHeartbeats 4000000 in
theorem f31 (m : Mw) (w : Int) : ACallsF Tryd.prog 31 [dMw m, i64 w] (.many [.dv (i64 (onWet m w 0 fun n v => (thin n v : Int))), .dv (i64 (wetE m w))]) := by
  refine callsR_of (ds := [i64 (onWet m w 0 fun n v => (thin n v : Int)), i64 (wetE m w)]) Tryd.func31 rfl rfl (by rw [Tryd.ntmps31]; simp) fun cx hP hn hg hrn hdq hfin => ?_
  rw [Tryd.ntmps31] at hn
  rw [startF_lk, none_mkM]
  simp only [List.nil_append, List.append_nil, List.cons_append, zipSV, Nat.reduceAdd]
  refine awp_seq ?_
  refine rg ?_
  refine qp m_box ?_
  refine qp m_box ?_
  refine qv m_as ?_
  refine qv m_as ?_
  show AWp cx _ _ _
  refine awp_seq ?_
  refine awp_seq ?_
  refine rg ?_
  refine qv (m_ldpa sz23 ag23) ?_
  refine qv (m_ldp sz3 ag3) ?_
  refine qqF (f56 m w) ?_
  refine qv m_as ?_
  show AWp cx _ _ _
  refine awp_seq ?_
  refine rg ?_
  refine qv m_mv ?_
  refine qv m_neq ?_
  show AWp cx _ _ _
  refine cd (fun hc0 => ?_) (fun hc0 => ?_)
  · skip
    have hne : ¬ wetE m w = 0 := by simpa using hc0
    refine awp_seq ?_
    refine rg ?_
    refine qv m_mv ?_
    refine qv m_as ?_
    refine qv m_as ?_
    show AWp cx _ _ _
    refine awp_ret ?_
    rw [onWet_no hne]
    exact x2 (hr := (rI_)) (hr' := (rI_))
  · skip
    have he : wetE m w = 0 := by simpa using hc0
    obtain ⟨n, v, ok, rfl, rfl, hv⟩ := wetE_ok he
    have hv36 := le36 ok hv
    have hwe := wetE_v ok hv
    refine awp_skip ?_
    show AWp cx _ _ _
    refine awp_seq ?_
    refine rg ?_
    refine qv (m_ldpa sz23 ag23) ?_
    refine qv (m_ldp sz3 ag3) ?_
    refine qqF (f57 n ok v hv36) ?_
    refine qv m_mv ?_
    refine qv m_ext ?_
    refine qv m_ext ?_
    refine qp (m_al ze3) ?_
    refine qs (m_st sz3) ?_
    refine qv m_as ?_
    show AWp cx _ _ _
    refine awp_seq_seq_rf ?_
    have hlen : (ns (bl v)).length < 1000000 := by have := bl_len (x := v); rw [ns_len]; omega
    refine rg ?_
    refine qv (m_ldp sz3 ag3) ?_
    refine qqF (f58 v hv36) ?_
    refine ch_frz 26 ?_
    refine qqA (f73 (ns (bl v))) ?_ (ha := (args_cons (data_ints (by simp only [mkM, reduceIte, Nat.reduceEqDiff] <;> rfl) rfl rfl rfl rfl (fun _ => trivial)) args_nil))
    show RfOk cx _ _ _ _
    refine rgf hg hrn hdq hfin hP hn (Go.Proofs.Tryd.back_seq (ns (bl v)) hlen) (l := [(2, .pt 2 0 0), (3, .pt 3 0 0), (7, .pt 7 0 0), (27, .dv (.fn 95 [] [.cptr [ints (ns (bl v))]]))]) (fun k => [(2, 0, some ⟨[.dv (i64 ((n.r : Int))), .dv (i64 ((n.c : Int))), .dv (i64 ((n.nd : Int)))], 0, 23, 0, false⟩), (3, 0, some ⟨[.dv (i64 ((thL n (spr n v).1 ((bl v).reverse.take k) v : Nat) : Int))], 0, 3, 0, false⟩), (7, 0, some ⟨[.dv (i64 ((spr n v).1 : Int))], 0, 3, 0, false⟩)]) (tl [(2, 2), (3, 3), (7, 7)] (hF := by simp [FLe, svLe, lk, mkM, isLive, tauL, thL]) (hM := by simp [MLe, blkLe, svLe, svLes, lk, mkM, isLive, tauL, svLes_ints, svLes_self, isDvs, isDvs_map, isDvs_app, isDvs_take, isDvs_set, isDvs_repl, thL])) (fun k x hx => ?_) fun cx2 hP2 hn2 hg2 => ?_
    · obtain ⟨hk, rfl⟩ := bk_get hx
      refine roundL (P := Tryd.prog) (N := 47) [(2, 2), (3, 3), (7, 7)] [(2, ⟨[.dv (i64 ((n.r : Int))), .dv (i64 ((n.c : Int))), .dv (i64 ((n.nd : Int)))], 0, 23, 5, false⟩), (3, ⟨[.dv (i64 ((thL n (spr n v).1 ((bl v).reverse.take k) v : Nat) : Int))], 0, 3, 6, false⟩), (7, ⟨[.dv (i64 ((spr n v).1 : Int))], 0, 3, 10, false⟩)] [(2, ⟨[.dv (i64 ((n.r : Int))), .dv (i64 ((n.c : Int))), .dv (i64 ((n.nd : Int)))], 0, 23, 5, false⟩), (3, ⟨[.dv (i64 ((thL n (spr n v).1 ((bl v).reverse.take (k + 1)) v : Nat) : Int))], 0, 3, 6, false⟩), (7, ⟨[.dv (i64 ((spr n v).1 : Int))], 0, 3, 10, false⟩)] [2, 3, 7] [(2, .pt 2 0 0), (3, .pt 3 0 0), (7, .pt 7 0 0), (27, .dv (.fn 95 [] [.cptr [ints (ns (bl v))]]))] (hle := (tl [(2, 2), (3, 3), (7, 7)] (hF := by simp [FLe, svLe, lk, mkM, isLive, tauL, thL]) (hM := by simp [MLe, blkLe, svLe, svLes, lk, mkM, isLive, tauL, svLes_ints, svLes_self, isDvs, isDvs_map, isDvs_app, isDvs_take, isDvs_set, isDvs_repl, thL]))) (k := fun cx1 hP1 hn1 hg1 => ?_)
      show AWp cx1 _ _ ⟨lk [(29, .dv (i64 (((bl v).reverse[k] : Nat)))), (28, .dv (i64 ((((bl v).length : Int) - 1 - k)))), (2, .pt 2 0 0), (3, .pt 3 0 0), (7, .pt 7 0 0), (27, .dv (.fn 95 [] [.cptr [ints (ns (bl v))]]))], mkM [(2, 0, some ⟨[.dv (i64 ((n.r : Int))), .dv (i64 ((n.c : Int))), .dv (i64 ((n.nd : Int)))], 0, 23, 5, false⟩), (3, 0, some ⟨[.dv (i64 ((thL n (spr n v).1 ((bl v).reverse.take k) v : Nat) : Int))], 0, 3, 6, false⟩), (7, 0, some ⟨[.dv (i64 ((spr n v).1 : Int))], 0, 3, 10, false⟩)]⟩
      have hkm : (bl v).reverse[k] ∈ bl v := List.mem_reverse.1 (List.getElem_mem hk)
      have hkl := bl_in hv hkm
      have hN := ok.N2
      have hsub := thL_sub (n := n) (s := (spr n v).1) (l := (bl v).reverse.take k) (w := v)
      have hw36 := le36 ok (sub_full hsub hv)
      have htk := thL_take (n := n) (s := (spr n v).1) (w := v) hk
      refine rg ?_
      refine qv m_as ?_
      refine asg fun cx1 hP1 hn1 hg1 => ?_
      refine awp_block ?_
      refine awp_seq ?_
      refine rd mixed ?_
      refine zv (m_ldpa sz23 ag23) ?_
      first | refine zv (m_ldI sz3 ag3) ?_ | refine zv (m_ldp sz3 ag3) ?_
      refine zv m_mv ?_
      refine zv (m_shlS ((bl v).reverse[k])) ?_
      refine zv (m_andnS (ha := hw36) (hb := two36 (by omega))) ?_
      refine zqF (R := []) (f57 n ok (andn (thL n (spr n v).1 ((bl v).reverse.take k) v) (2 ^ (bl v).reverse[k])) (andn36 hw36)) ?_
      refine zv m_mv ?_
      refine zv m_ext ?_
      refine zv m_ext ?_
      refine zv m_as ?_
      refine zv m_as ?_
      refine ⟨by rfl, ?_⟩
      show AWp cx1 _ _ _
      refine awp_seq ?_
      refine rg ?_
      refine qv m_mv ?_
      refine qv (m_ldp sz3 ag3) ?_
      refine qv m_eql ?_
      show AWp cx1 _ _ _
      refine cd (fun hc1 => ?_) (fun hc1 => ?_)
      · skip
        refine rd mixed ?_
        first | refine zv (m_ldI sz3 ag3) ?_ | refine zv (m_ldp sz3 ag3) ?_
        refine zv m_mv ?_
        refine zv (m_shlS ((bl v).reverse[k])) ?_
        refine zv (m_andnS (ha := hw36) (hb := two36 (by omega))) ?_
        first | refine zs (m_stI sz3) ?_ | refine zs (m_st sz3) ?_
        refine ⟨by rfl, ?_⟩
        have hb : thL n (spr n v).1 ((bl v).reverse.take (k + 1)) v = andn (thL n (spr n v).1 ((bl v).reverse.take k) v) (2 ^ (bl v).reverse[k]) := by rw [htk]; unfold tstep; rw [if_pos (by have := hc1; simp at this ⊢; omega)]
        exact rend (tl [(2, 2), (3, 3), (7, 7)] (hF := by simp [FLe, svLe, lk, mkM, isLive, tauL, hb]) (hM := by simp [MLe, blkLe, svLe, svLes, lk, mkM, isLive, tauL, svLes_ints, svLes_self, isDvs, isDvs_map, isDvs_app, isDvs_take, isDvs_set, isDvs_repl, hb]))
      · skip
        refine awp_skip ?_
        have hb : thL n (spr n v).1 ((bl v).reverse.take (k + 1)) v = thL n (spr n v).1 ((bl v).reverse.take k) v := by rw [htk]; unfold tstep; rw [if_neg (by have := hc1; simp at this ⊢; omega)]
        exact rend (tl [(2, 2), (3, 3), (7, 7)] (hF := by simp [FLe, svLe, lk, mkM, isLive, tauL, hb]) (hM := by simp [MLe, blkLe, svLe, svLes, lk, mkM, isLive, tauL, svLes_ints, svLes_self, isDvs, isDvs_map, isDvs_app, isDvs_take, isDvs_set, isDvs_repl, hb]))
    · try rw [List.length_map, List.length_range]
      refine awp_seq ?_
      refine rg ?_
      refine qv (m_ldp sz3 ag3) ?_
      refine qv m_as ?_
      refine qv m_as ?_
      show AWp cx2 _ _ _
      refine awp_ret ?_
      have hT : (bl v).reverse.take (ns (bl v)).length = (bl v).reverse := List.take_of_length_le (by simp [ns_len])
      rw [onWet_ok ok hv, hT, thin_bl ok hv, hwe]
      exact xs2

end Go.Ab.Tryd
