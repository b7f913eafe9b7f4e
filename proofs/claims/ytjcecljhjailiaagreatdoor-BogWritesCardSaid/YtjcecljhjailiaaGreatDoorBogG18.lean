/- BogM5, BogM6, BogM7, MossL2, BogM8. -/
import Derived.Test.YtjcecljhjailiaaGreatDoorBogG17
import Derived.Test.YtjcecljhjailiaaGreatDoorBogG09
import Derived.Test.YtjcecljhjailiaaGreatDoorBogG17
import Derived.Test.YtjcecljhjailiaaGreatDoorBogG13
set_option linter.all false
namespace Go.Ab.Tryz
open Go Go.Ab Go.Proofs Go.Ab.Moss
theorem sq_seq {n : Mn} (ok : n.Ok) : ASeq Tryz.prog 231 [.cptr [i64 (n.r : Int), i64 (n.c : Int), i64 (n.nd : Int)]] ((List.range (n.r * n.c)).map (sqArg n.c)) := Go.Proofs.Tryz.squares_seq n.r n.c n.nd ⟨ok.r1, ok.r2⟩ ⟨ok.c1, ok.c2⟩
theorem f182 (n : Mn) (ok : n.Ok) (w : Nat) (hw : w < 68719476736) : ACallsF Tryz.prog 182 [dMn n, i64 (w : Int)] (.one (.dv (i64 (rdN n w : Int)))) := by
  have hN := ok.N2
  refine callsR_of (ds := [i64 (rdN n w : Int)]) Tryz.func182 rfl rfl (by rw [Tryz.ntmps182]; simp) fun cx hP hn hg hrn hdq hfin => ?_
  rw [Tryz.ntmps182] at hn
  rw [startF_lk, none_mkM]
  simp only [List.nil_append, List.append_nil, List.cons_append, zipSV, Nat.reduceAdd]
  refine awp_seq ?_
  refine rg ?_
  refine qp m_box ?_
  refine qp m_box ?_
  refine qv m_as ?_
  show AWp cx _ _ _
  refine awp_seq ?_
  refine rg ?_
  refine qp (m_al ze3) ?_
  refine qs (m_st sz3) ?_
  show AWp cx _ _ _
  refine awp_seq_seq_rf ?_
  refine rg ?_
  refine qv (m_ldpa sz65 ag65) ?_
  refine qqA (f207 n) ?_
  show RfOk cx _ _ _ _
  refine rgf hg hrn hdq hfin hP hn (sq_seq ok) (l := [(2, .pt 2 0 0), (3, .pt 3 0 0), (5, .pt 5 0 0), (8, .dv (.fn 231 [] [.cptr [i64 (n.r : Int), i64 (n.c : Int), i64 (n.nd : Int)]]))]) (fun k => [(2, 0, some ⟨[.dv (i64 (n.r)), .dv (i64 (n.c)), .dv (i64 (n.nd))], 0, 65, 0, false⟩), (3, 0, some ⟨[.dv (i64 ((w : Int)))], 0, 3, 0, false⟩), (5, 0, some ⟨[.dv (i64 ((bset (rdB n w) k : Nat) : Int))], 0, 3, 0, false⟩)]) (tl [(2, 2), (3, 3), (5, 5)] (hF := by simp [FLe, svLe, lk, mkM, isLive, tauL, bset]) (hM := by simp [MLe, blkLe, svLe, svLes, lk, mkM, isLive, tauL, svLes_ints, svLes_self, isDvs, isDvs_map, isDvs_app, isDvs_take, isDvs_set, isDvs_repl, bset])) (fun k x hx => ?_) fun cx2 hP2 hn2 hg2 => ?_
  · obtain ⟨hk, rfl⟩ := sq_get hx
    refine roundL (P := Tryz.prog) (N := 31) [(2, 2), (3, 3), (5, 5)] [(2, ⟨[.dv (i64 (n.r)), .dv (i64 (n.c)), .dv (i64 (n.nd))], 0, 65, 5, false⟩), (3, ⟨[.dv (i64 ((w : Int)))], 0, 3, 6, false⟩), (5, ⟨[.dv (i64 ((bset (rdB n w) k : Nat) : Int))], 0, 3, 8, false⟩)] [(2, ⟨[.dv (i64 (n.r)), .dv (i64 (n.c)), .dv (i64 (n.nd))], 0, 65, 5, false⟩), (3, ⟨[.dv (i64 ((w : Int)))], 0, 3, 6, false⟩), (5, ⟨[.dv (i64 ((bset (rdB n w) (k + 1) : Nat) : Int))], 0, 3, 8, false⟩)] [2, 3, 5] [(2, .pt 2 0 0), (3, .pt 3 0 0), (5, .pt 5 0 0), (8, .dv (.fn 231 [] [.cptr [i64 (n.r : Int), i64 (n.c : Int), i64 (n.nd : Int)]]))] (hle := (tl [(2, 2), (3, 3), (5, 5)] (hF := by simp [FLe, svLe, lk, mkM, isLive, tauL, bset]) (hM := by simp [MLe, blkLe, svLe, svLes, lk, mkM, isLive, tauL, svLes_ints, svLes_self, isDvs, isDvs_map, isDvs_app, isDvs_take, isDvs_set, isDvs_repl, bset]))) (k := fun cx1 hP1 hn1 hg1 => ?_)
    show AWp cx1 _ _ ⟨lk [(10, .dv (.agg [i64 ((k / n.c : Nat) : Int), i64 ((k % n.c : Nat) : Int)])), (9, .dv (i64 ((k : Nat)))), (2, .pt 2 0 0), (3, .pt 3 0 0), (5, .pt 5 0 0), (8, .dv (.fn 231 [] [.cptr [i64 (n.r : Int), i64 (n.c : Int), i64 (n.nd : Int)]]))], mkM [(2, 0, some ⟨[.dv (i64 (n.r)), .dv (i64 (n.c)), .dv (i64 (n.nd))], 0, 65, 5, false⟩), (3, 0, some ⟨[.dv (i64 ((w : Int)))], 0, 3, 6, false⟩), (5, 0, some ⟨[.dv (i64 ((bset (rdB n w) k : Nat) : Int))], 0, 3, 8, false⟩)]⟩
    have hb36 := bset_lt36 (p := rdB n w) (k := k) (by omega)
    have har := arN_lt ok hk
    refine rg ?_
    refine qv m_as ?_
    refine asg fun cx1 hP1 hn1 hg1 => ?_
    refine awp_block ?_
    refine awp_seq ?_
    refine rd mixed ?_
    refine zv (m_ldp sz3 ag3) ?_
    refine zv m_mv ?_
    refine zqF (R := []) (f208 w k hw (by omega)) ?_
    refine zv m_not ?_
    refine zx m_mv (fun hg15 => ?_) (fun hg15 => ?_)
    · try simp at hg15
      refine zv (m_ldpa sz65 ag65) ?_
      refine zv m_mv ?_
      refine zqF (R := []) (f210 n ok k hk) ?_
      refine zv (m_ldp sz3 ag3) ?_
      refine zv m_andS ?_
      refine zqF (R := []) (f209 (arN n k &&& w) (by exact and36 har)) ?_
      refine zv (m_fdp fd65_2) ?_
      refine zv (m_ldp sz3 ag3) ?_
      refine zv m_geq ?_
      refine zv m_pk ?_
      refine ⟨by rfl, ?_⟩
      show AWp cx1 _ _ _
      refine cd (fun hc0 => ?_) (fun hc0 => ?_)
      · try simp at hc0
        refine rd mixed ?_
        first | refine zv (m_ldI sz3 ag3) ?_ | refine zv (m_ldp sz3 ag3) ?_
        refine zv m_mv ?_
        refine zv (m_shlS k) ?_
        refine zv m_orS ?_
        first | refine zs (m_stI sz3) ?_ | refine zs (m_st sz3) ?_
        refine ⟨by rfl, ?_⟩
        have hb : bset (rdB n w) (k + 1) = bset (rdB n w) k ||| 2 ^ k := by simp [bset, rdB, hg15, hc0]
        exact rend (tl [(2, 2), (3, 3), (5, 5)] (hF := by simp [FLe, svLe, lk, mkM, isLive, tauL, hb]) (hM := by simp [MLe, blkLe, svLe, svLes, lk, mkM, isLive, tauL, svLes_ints, svLes_self, isDvs, isDvs_map, isDvs_app, isDvs_take, isDvs_set, isDvs_repl, hb]))
      · try simp at hc0
        refine awp_skip ?_
        have hr : rdB n w k = false := by simp [rdB, hg15]; omega
        have hb : bset (rdB n w) (k + 1) = bset (rdB n w) k := by simp [bset, hr]
        exact rend (tl [(2, 2), (3, 3), (5, 5)] (hF := by simp [FLe, svLe, lk, mkM, isLive, tauL, hb]) (hM := by simp [MLe, blkLe, svLe, svLes, lk, mkM, isLive, tauL, svLes_ints, svLes_self, isDvs, isDvs_map, isDvs_app, isDvs_take, isDvs_set, isDvs_repl, hb]))
    · try simp at hg15
      refine zk ?_
      refine zk ?_
      refine zk ?_
      refine zk ?_
      refine zk ?_
      refine zk ?_
      refine zk ?_
      refine zk ?_
      refine zk ?_
      refine zv m_pk ?_
      refine ⟨by rfl, ?_⟩
      show AWp cx1 _ _ _
      refine cdF (hb := by first | rfl | simp | simp_all) (ht := ?_)
      refine awp_skip ?_
      have hb : bset (rdB n w) (k + 1) = bset (rdB n w) k := by simp [bset, rdB, hg15]
      exact rend (tl [(2, 2), (3, 3), (5, 5)] (hF := by simp [FLe, svLe, lk, mkM, isLive, tauL, hb]) (hM := by simp [MLe, blkLe, svLe, svLes, lk, mkM, isLive, tauL, svLes_ints, svLes_self, isDvs, isDvs_map, isDvs_app, isDvs_take, isDvs_set, isDvs_repl, hb]))
  · try rw [List.length_map, List.length_range]
    refine awp_seq ?_
    refine rg ?_
    refine qv (m_ldp sz3 ag3) ?_
    refine qv m_as ?_
    show AWp cx2 _ _ _
    refine awp_ret ?_
    exact xs1
end Go.Ab.Tryz
set_option linter.all false
namespace Go.Ab.Tryz
open Go Go.Ab Go.Proofs Go.Ab.Moss
def idxF {α : Type} (p : α → Bool) (l : List α) : Int := if l.any p then (l.findIdx p : Int) else -1
theorem idxF_at {α : Type} {p : α → Bool} {l : List α} {i : Nat} (h : i < l.length) (hp : p l[i] = true) (hb : ∀ j (hj : j < i), p (l[j]'(by omega)) = false) : idxF p l = i := by
  unfold idxF
  rw [if_pos (List.any_eq_true.2 ⟨l[i], List.getElem_mem h, hp⟩), (List.findIdx_eq h).2 ⟨hp, hb⟩]
theorem idxF_no {α : Type} {p : α → Bool} {l : List α} (h : ∀ j (hj : j < l.length), p l[j] = false) : idxF p l = -1 := by
  unfold idxF
  rw [if_neg]
  intro ha
  obtain ⟨x, hx, hpx⟩ := List.any_eq_true.1 ha
  obtain ⟨j, hj, rfl⟩ := List.getElem_of_mem hx
  rw [h j hj] at hpx
  cases hpx
theorem idxF_nonneg {α : Type} (p : α → Bool) (l : List α) : decide (0 ≤ idxF p l) = l.any p := by
  unfold idxF
  cases h : l.any p <;> simp
abbrev PrOk (f : FuncId) (pre caps : List DV) (p : Int → Bool) (l : List Int) : Prop := ∀ x ∈ l, ACallsF Tryz.prog f (pre ++ [i64 x] ++ caps) (.one (.dv (.bool (p x))))
theorem f155 (l : List Int) (f : FuncId) (pre caps : List DV) (p : Int → Bool) (hp : PrOk f pre caps p l) (hl : l.length < 1000000) :
    ACallsF Tryz.prog 155 [ints l, .fn f pre caps] (.one (.dv (i64 (idxF p l)))) := by
  refine callsF_of Tryz.func155 rfl rfl (by rw [Tryz.ntmps155]; simp) fun cx hP hn hg => ?_
  rw [Tryz.ntmps155] at hn
  rw [startF_lk, none_mkM]
  simp only [List.nil_append, List.append_nil, List.cons_append, zipSV, Nat.reduceAdd]
  refine awp_seq ?_
  refine rg ?_
  refine qv m_as ?_
  show AWp cx _ _ _
  refine awp_seq ?_
  refine awp_seq ?_
  refine rg ?_
  refine qv m_mv ?_
  refine qv (m_len il25) ?_
  refine qv m_mv ?_
  show AWp cx _ _ _
  refine awp_block ?_
  refine awp_loop (ι := Nat) (fun i => ⟨lk [(0, .dv (ints (l))), (1, .dv (.fn f pre caps)), (7, .dv (i64 ((l.length : Int)))), (8, .dv (i64 (i : Nat)))], mkM []⟩) (fun i => i ≤ l.length ∧ ∀ j (hj : j < i) (h : j < l.length), p l[j] = false) (fun i => l.length - i) 0 ⟨Nat.zero_le _, fun j hj => absurd hj (Nat.not_lt_zero j)⟩ (tl []) ?_
  intro i hφ0
  refine awp_seq ?_
  refine rg ?_
  refine qv m_lss ?_
  show AWp cx _ _ _
  refine awp_seq ?_
  refine cd (fun hc0 => ?_) (fun hc0 => ?_)
  · try simp at hc0
    refine awp_skip ?_
    show AWp cx _ _ _
    refine awp_seq ?_
    refine awp_block ?_
    refine awp_seq ?_
    refine rg ?_
    refine qv m_mv ?_
    refine qv m_as ?_
    show AWp cx _ _ _
    refine awp_seq ?_
    refine rg ?_
    have hi : i < l.length := by omega
    have hx : l[i]? = some l[i] := List.getElem?_eq_getElem hi
    refine qv m_mv ?_
    refine qv m_mv ?_
    refine qv m_mv ?_
    first | refine qv (m_ixN el25 sz3) ?_ | refine qv (m_ix el25 sz3) ?_
    refine qv (m_ld sz3 ag3) ?_
    refine qqVF (hp l[i] (List.getElem_mem hi)) ?_
    show AWp cx _ _ _
    refine cd (fun hc1 => ?_) (fun hc1 => ?_)
    · try simp at hc1
      refine awp_seq ?_
      refine rg ?_
      refine qv m_mv ?_
      refine qv m_as ?_
      show AWp cx _ _ _
      refine awp_ret ?_
      rw [idxF_at hi (by simpa using hc1) (fun j hj => hφ0.2 j hj _)]
      exact x1 (hr := (rI_))
    · try simp at hc1
      refine awp_skip ?_
      show AWp cx _ _ _
      refine rg ?_
      refine qv m_add ?_
      refine qv m_mv ?_
      exact ⟨i + 1, ⟨hi, fun j hj h => by
          rcases Nat.lt_or_ge j i with h1 | h1
          · exact hφ0.2 j h1 h
          · obtain rfl : j = i := by omega
            simpa using hc1⟩, (by simp only; omega), (tl [])⟩
  · try simp at hc0
    refine awp_exit ?_
    show AWp cx _ _ _
    refine awp_seq ?_
    refine rg ?_
    refine qv m_as ?_
    show AWp cx _ _ _
    refine awp_ret ?_
    rw [idxF_no (fun j hj => hφ0.2 j (by omega) hj)]
    exact x1 (hr := (rI_))
theorem f106 (l : List Int) (f : FuncId) (pre caps : List DV) (p : Int → Bool) (hp : PrOk f pre caps p l) (hl : l.length < 1000000) :
    ACallsF Tryz.prog 106 [ints l, .fn f pre caps] (.one (.dv (.bool (l.any p)))) := by
  refine callsF_of Tryz.func106 rfl rfl (by rw [Tryz.ntmps106]; simp) fun cx hP hn hg => ?_
  rw [Tryz.ntmps106] at hn
  rw [startF_lk, none_mkM]
  simp only [List.nil_append, List.append_nil, List.cons_append, zipSV, Nat.reduceAdd]
  refine awp_seq ?_
  refine rg ?_
  refine qv m_as ?_
  show AWp cx _ _ _
  refine awp_seq ?_
  refine rg ?_
  refine qv m_mv ?_
  refine qv m_mv ?_
  refine qqF (f155 l f pre caps p hp hl) ?_
  refine qv m_geq ?_
  refine qv m_as ?_
  show AWp cx _ _ _
  refine awp_ret ?_
  exact x1 (hr := (rB_ (by simp [idxF_nonneg])))
end Go.Ab.Tryz
set_option linter.all false
namespace Go.Ab.Tryz
open Go Go.Ab Go.Proofs Go.Ab.Moss
def toMn (m : Mw) : Mn := ⟨m.rows.toNat, m.cols.toNat, m.need.toNat⟩
def onWet {α : Type} (m : Mw) (w : Int) (d : α) (g : Mn → Nat → α) : α := if wetE m w = 0 then g (toMn m) w.toNat else d
theorem wetE_v {n : Mn} (ok : n.Ok) {v : Nat} (hv : v ≤ full n) : wetE n.w (v : Int) = 0 := by
  rw [wetE_n ok, if_pos]
  simp only [fromB, Bool.and_eq_true, decide_eq_true_eq]; omega
theorem toMn_w (n : Mn) : toMn n.w = n := by simp [toMn]
theorem onWet_ok {α : Type} {n : Mn} (ok : n.Ok) {v : Nat} (hv : v ≤ full n) {d : α} {g : Mn → Nat → α} : onWet n.w (v : Int) d g = g n v := by
  simp only [onWet, wetE_v ok hv, if_true, toMn_w, Int.toNat_natCast]
theorem onWet_no {α : Type} {m : Mw} {w : Int} (h : ¬ wetE m w = 0) {d : α} {g : Mn → Nat → α} : onWet m w d g = d := by simp [onWet, h]
theorem le36 {n : Mn} (ok : n.Ok) {v : Nat} (hv : v ≤ full n) : v < 68719476736 := Nat.lt_of_le_of_lt hv (full_lt ok)
theorem f150 (m : Mw) (w : Int) : ACallsF Tryz.prog 150 [dMw m, i64 w] (.many [.dv (i64 (onWet m w 0 fun n v => ((v ||| rdN n v : Nat) : Int))), .dv (i64 (wetE m w))]) := by
  refine callsF_of Tryz.func150 rfl rfl (by rw [Tryz.ntmps150]; simp) fun cx hP hn hg => ?_
  rw [Tryz.ntmps150] at hn
  rw [startF_lk, none_mkM]
  simp only [List.nil_append, List.append_nil, List.cons_append, zipSV, Nat.reduceAdd]
  refine awp_seq ?_
  refine rg ?_
  refine qp m_box ?_
  refine qv m_as ?_
  refine qv m_as ?_
  show AWp cx _ _ _
  refine awp_seq ?_
  refine awp_seq ?_
  refine rg ?_
  refine qv (m_ldpa sz65 ag65) ?_
  refine qv m_mv ?_
  refine qqF (f181 m w) ?_
  refine qv m_as ?_
  show AWp cx _ _ _
  refine awp_seq ?_
  refine rg ?_
  refine qv m_mv ?_
  refine qv m_neq ?_
  show AWp cx _ _ _
  refine cd (fun hc0 => ?_) (fun hc0 => ?_)
  · skip
    have hne : ¬ wetE m w = 0 := by simpa using hc0
    refine awp_seq ?_
    refine rg ?_
    refine qv m_mv ?_
    refine qv m_as ?_
    refine qv m_as ?_
    show AWp cx _ _ _
    refine awp_ret ?_
    exact x2 (hr := (rI_ (by rw [onWet_no hne]))) (hr' := (rI_))
  · skip
    have he : wetE m w = 0 := by simpa using hc0
    obtain ⟨n, v, ok, rfl, rfl, hv⟩ := wetE_ok he
    have hv36 := le36 ok hv
    have hwe := wetE_v ok hv
    refine awp_skip ?_
    show AWp cx _ _ _
    refine awp_seq ?_
    refine rg ?_
    refine qv m_mv ?_
    refine qv (m_ldpa sz65 ag65) ?_
    refine qv m_mv ?_
    refine qqF (f182 n ok v hv36) ?_
    refine qv (m_orS (hb := rdN_lt ok)) ?_
    refine qv m_as ?_
    refine qv m_as ?_
    show AWp cx _ _ _
    refine awp_ret ?_
    exact x2 (hr := (rI_ (by rw [onWet_ok ok hv]))) (hr' := (rI_ (by rw [hwe])))
end Go.Ab.Tryz
set_option linter.all false
namespace Go.Ab.Moss
open Go Go.Ab
theorem sq_bd {a : Int} (h : -36 ≤ a ∧ a ≤ 36) : 0 ≤ a * a ∧ a * a ≤ 1296 := by
  have e : a * a = ((a.natAbs * a.natAbs : Nat) : Int) := (Int.natAbs_mul_self (a := a)).symm
  have h1 : a.natAbs ≤ 36 := by omega
  have h2 : a.natAbs * a.natAbs ≤ 36 * 36 := Nat.mul_le_mul h1 h1
  rw [e]; omega
def dr (n : Mn) (j k : Nat) : Int := ((j / n.c : Nat) : Int) - ((k / n.c : Nat) : Int)
def dc (n : Mn) (j k : Nat) : Int := ((j % n.c : Nat) : Int) - ((k % n.c : Nat) : Int)
def adjB (n : Mn) (k j : Nat) : Bool := decide (dr n j k * dr n j k + dc n j k * dc n j k = 1)
def nbL (n : Mn) (k : Nat) : List Nat := (List.range (n.r * n.c)).filter (adjB n k)
def cntR (n : Mn) (w k : Nat) : Nat := (nbL n k).countP fun j => w.testBit j
def stB (n : Mn) (w k : Nat) : Bool := decide (n.nd ≤ cntR n w k)
end Go.Ab.Moss
set_option linter.all false
namespace Go.Ab.Tryz
open Go Go.Ab Go.Proofs Go.Ab.Moss
theorem adjB_iff {n : Mn} {k j : Nat} : adjB n k j = true ↔ dr n j k * dr n j k + dc n j k * dc n j k = 1 := by unfold adjB; exact decide_eq_true_iff
theorem filter_snoc {p : Nat → Bool} {k : Nat} : (List.range (k + 1)).filter p = (List.range k).filter p ++ if p k then [k] else [] := by
  rw [List.range_succ, List.filter_append]
  by_cases h : p k = true <;> simp [h]
theorem ns_filter {p : Nat → Bool} {k : Nat} (h : p k = true) : ns ((List.range (k + 1)).filter p) = ns ((List.range k).filter p) ++ [(k : Int)] := by
  rw [filter_snoc, if_pos h, ns_snoc]
theorem ns_filter' {p : Nat → Bool} {k : Nat} (h : ¬ p k = true) : (List.range (k + 1)).filter p = (List.range k).filter p := by
  rw [filter_snoc, if_neg h, List.append_nil]
theorem filt_len {p : Nat → Bool} {k : Nat} : ((List.range k).filter p).length ≤ k := by
  have := List.length_filter_le p (List.range k)
  simpa using this
theorem f217 (n : Mn) (ok : n.Ok) (k : Nat) (hk : k < n.r * n.c) : ACallsF Tryz.prog 217 [dMn n, i64 (k : Int)] (.one (rI (ns (nbL n k)))) := by
  have hN := ok.N2
  have hcp := ok.c1
  have hcq := ok.c2
  refine callsF_of Tryz.func217 rfl rfl (by rw [Tryz.ntmps217]; simp) fun cx hP hn hg => ?_
  rw [Tryz.ntmps217] at hn
  rw [startF_lk, none_mkM]
  simp only [List.nil_append, List.append_nil, List.cons_append, zipSV, Nat.reduceAdd]
  refine awp_seq ?_
  refine rg ?_
  refine qp m_box ?_
  refine qv m_as ?_
  show AWp cx _ _ _
  refine awp_seq ?_
  refine rg ?_
  refine qv m_as ?_
  show AWp cx _ _ _
  refine awp_seq ?_
  refine awp_seq ?_
  refine rg ?_
  refine qv m_as ?_
  show AWp cx _ _ _
  refine awp_block ?_
  refine awp_loop (ι := Nat) (fun j => ⟨lk [(1, .dv (i64 ((k : Int)))), (2, .pt 2 0 0), (5, .sl 5 0 0 ((ns ((List.range j).filter (adjB n k))).length)), (6, .dv (i64 (j : Nat)))], mkM [(2, 0, some ⟨[.dv (i64 (n.r)), .dv (i64 (n.c)), .dv (i64 (n.nd))], 0, 65, 0, false⟩), (5, 0, some (rowI (ns ((List.range j).filter (adjB n k)))))]⟩) (fun j => j ≤ n.r * n.c) (fun j => n.r * n.c - j) 0 (by simp) (tl [(2, 2)] (hF := by simp [FLe, svLe, lk, mkM, isLive, tauL, ns]) (hM := by simp [MLe, blkLe, svLe, svLes, lk, mkM, isLive, tauL, svLes_ints, svLes_self, isDvs, isDvs_map, isDvs_app, isDvs_take, isDvs_set, isDvs_repl, ns])) ?_
  intro j hφ0
  have hfl := filt_len (p := adjB n k) (k := j)
  refine awp_seq ?_
  refine awp_seq ?_
  refine rg ?_
  refine qv m_mv ?_
  refine qv (m_ldpa sz65 ag65) ?_
  refine qqF (f187 n ok) ?_
  refine qv m_lss ?_
  show AWp cx _ _ _
  refine cd (fun hc0 => ?_) (fun hc0 => ?_)
  · try simp at hc0
    refine awp_skip ?_
    show AWp cx _ _ _
    refine awp_seq ?_
    refine awp_block ?_
    refine awp_seq ?_
    refine rd mixed ?_
    have hj : j < n.r * n.c := by omega
    have b1 := row_lt hj hcp
    have b2 := row_lt hk hcp
    have b3 := Nat.mod_lt j hcp
    have b4 := Nat.mod_lt k hcp
    have b5 := ok.r2
    have b6 : (0 : Int) ≤ ((j / n.c : Nat) : Int) := Int.natCast_nonneg _
    have b7 : (0 : Int) ≤ ((k / n.c : Nat) : Int) := Int.natCast_nonneg _
    have s1 := sq_bd (a := ((j / n.c : Nat) : Int) - ((k / n.c : Nat) : Int)) (by omega)
    have s2 := sq_bd (a := ((j % n.c : Nat) : Int) - ((k % n.c : Nat) : Int)) (by omega)
    refine zv m_mv ?_
    refine zv (m_fdp fd65_1) ?_
    refine zv (m_ldp sz3 ag3) ?_
    refine zv m_quoN ?_
    refine zv m_mv ?_
    refine zv (m_fdp fd65_1) ?_
    refine zv (m_ldp sz3 ag3) ?_
    refine zv m_quoN ?_
    refine zv m_sub ?_
    refine zv m_mv ?_
    refine zv (m_fdp fd65_1) ?_
    refine zv (m_ldp sz3 ag3) ?_
    refine zv m_remN ?_
    refine zv m_mv ?_
    refine zv (m_fdp fd65_1) ?_
    refine zv (m_ldp sz3 ag3) ?_
    refine zv m_remN ?_
    refine zv m_sub ?_
    refine zv m_as ?_
    refine zv m_as ?_
    refine ⟨by rfl, ?_⟩
    show AWp cx _ _ _
    refine awp_seq ?_
    refine rg ?_
    refine qv m_mv ?_
    refine qv m_mv ?_
    refine qv m_mul ?_
    refine qv m_mv ?_
    refine qv m_mv ?_
    refine qv m_mul ?_
    refine qv m_add ?_
    refine qv m_eql ?_
    show AWp cx _ _ _
    refine cd (fun hc1 => ?_) (fun hc1 => ?_)
    · skip
      have ha : adjB n k j = true := adjB_iff.2 (by simpa only [beq_iff_eq, dr, dc] using hc1)
      have hsn := ns_filter ha
      have hnl : (ns ((List.range j).filter (adjB n k))).length ≤ 36 := by rw [ns_len]; omega
      refine rg ?_
      refine qv m_mv ?_
      refine qv m_mv ?_
      refine qr (m_bsl el25 ze3 sz3) ?_
      refine qa1 (m_app1 el25 el25 ze3 sz3 by3) ?_
      refine qv m_as ?_
      show AWp cx _ _ _
      refine rg ?_
      refine qv m_mv ?_
      refine qv m_add ?_
      refine qv m_as ?_
      exact ⟨j + 1, hj, (by simp only; omega), (tl [(2, 2), (5, 44)] (hF := by simp [FLe, svLe, lk, mkM, isLive, tauL, hsn]) (hM := by simp [MLe, blkLe, svLe, svLes, lk, mkM, isLive, tauL, svLes_ints, svLes_self, isDvs, isDvs_map, isDvs_app, isDvs_take, isDvs_set, isDvs_repl, hsn]))⟩
    · skip
      have ha : ¬ adjB n k j = true := fun hh => absurd (adjB_iff.1 hh) (by simpa only [beq_eq_false_iff_ne, ne_eq, dr, dc] using hc1)
      have hsn := ns_filter' ha
      refine awp_skip ?_
      show AWp cx _ _ _
      refine rg ?_
      refine qv m_mv ?_
      refine qv m_add ?_
      refine qv m_as ?_
      exact ⟨j + 1, hj, (by simp only; omega), (tl [(2, 2), (5, 5)] (hF := by simp [FLe, svLe, lk, mkM, isLive, tauL, hsn]) (hM := by simp [MLe, blkLe, svLe, svLes, lk, mkM, isLive, tauL, svLes_ints, svLes_self, isDvs, isDvs_map, isDvs_app, isDvs_take, isDvs_set, isDvs_repl, hsn]))⟩
  · try simp at hc0
    refine awp_exit ?_
    show AWp cx _ _ _
    refine awp_seq ?_
    refine rg ?_
    refine qv m_mv ?_
    refine qv m_as ?_
    show AWp cx _ _ _
    refine awp_ret ?_
    obtain rfl : j = n.r * n.c := by omega
    exact x1 (hr := (rR_))
end Go.Ab.Tryz
