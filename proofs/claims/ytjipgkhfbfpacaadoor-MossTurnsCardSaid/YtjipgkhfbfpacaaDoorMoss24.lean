/- The functions of the moss laws, part 24. The walks are written by wip/gen/gw.py. -/
import Derived.Test.YtjipgkhfbfpacaaDoorMoss23
import Derived.Test.YtjipgkhfbfpacaaDoorMossFacts
import Derived.Test.YtjipgkhfbfpacaaDoorMossD
set_option linter.all false
namespace Go.Ab.Tryd
open Go Go.Ab Go.Proofs Go.Ab.Moss

theorem popc_eq {a b : Nat} (hb : b < 2 ^ 64) (h : Sub a b) (hp : popc b ≤ popc a) : a = b := by
  refine Sub.antisymm h fun i hi => ?_
  cases ha : a.testBit i with
  | true => rfl
  | false =>
    have hi64 : i < 64 := by
      rcases Nat.lt_or_ge i 64 with h1 | h1
      · exact h1
      · rw [testBit_high hb h1] at hi; cases hi
    have : popc a < popc b := countP_lt _ i (List.mem_range.2 hi64) (fun k _ hk => h k hk) hi ha
    omega
theorem andn_mono {a b c : Nat} (h : Sub a b) : Sub (andn a c) (andn b c) := fun i hi => by
  rw [andn_bit, Bool.and_eq_true] at hi ⊢
  exact ⟨h i hi.1, hi.2⟩
/-- Squares without which less spreads. -/
def needB (n : Mn) (v k : Nat) : Bool := decide ((spr n (andn v (2 ^ k))).1 ≠ (spr n v).1)
def needL (n : Mn) (v : Nat) : List Nat := (bl v).filter (needB n v)
theorem needL_range {n : Mn} (ok : n.Ok) {v : Nat} (hv : v ≤ full n) : needL n v = (List.range (n.r * n.c)).filter fun k => v.testBit k && needB n v k := by
  unfold needL
  rw [bl_range ok hv, List.filter_filter]
  refine List.filter_congr fun k _ => ?_
  rw [Bool.and_comm]
def needP (n : Mn) (v : Nat) (x : Int) : Bool := decide (popc (spr n v).1 ≤ popc (spr n (andn v (2 ^ x.toNat))).1)
theorem needP_eq {n : Mn} (ok : n.Ok) {v k : Nat} (hv : v ≤ full n) : needP n v (k : Int) = !needB n v k := by
  unfold needP needB
  rw [Int.toNat_natCast, Bool.eq_iff_iff, decide_eq_true_eq]
  simp only [ne_eq, decide_not, Bool.not_not, decide_eq_true_eq]
  have hs64 : (spr n v).1 < 2 ^ 64 := by have := le36 ok (spr_full (n := n) v hv); omega
  constructor
  · exact fun h => popc_eq hs64 (spr_mono ok andn_sub) h
  · intro h; rw [h]; exact Nat.le_refl _
theorem delF_need {n : Mn} (ok : n.Ok) {v : Nat} (hv : v ≤ full n) : delF (needP n v) (ns (bl v)) = ns (needL n v) := by
  unfold delF ns needL
  rw [List.filter_map]
  congr 1
  refine List.filter_congr fun k _ => ?_
  simp only [Function.comp]
  rw [needP_eq ok hv, Bool.not_not]
theorem f85z (L : List Int) (f : FuncId) (pre caps : List DV) (p : Int → Bool) (hp : PrOk f pre caps p L) (hl : L.length < 1000000) :
    ACallsG Tryd.prog 85 [.sl 100000 0 0 L.length, .dv (.fn f pre caps)] (mkB [(100000, lentI 0 L)]) ⟨[.sl 100000 0 0 (delF p L).length], mkB [(100000, lentI 0 (delF p L ++ List.replicate (L.length - (delF p L).length) 0))]⟩ := by
  have h := f85 L [] f pre caps p hp hl
  simpa only [List.append_nil] using h


theorem f86 (n : Mn) (ok : n.Ok) (v s k : Nat) (hv : v < 68719476736) (hs : s < 68719476736) (hk : k < 36) : ACallsF Tryd.prog 86 [i64 (k : Int), .cptr [i64 (n.r : Int), i64 (n.c : Int), i64 (n.nd : Int)], .cptr [i64 (v : Int)], .cptr [i64 (s : Int)]] (.one (.dv (.bool (decide (popc s ≤ popc (spr n (andn v (2 ^ k))).1))))) := by
  have hav := andn36 (b := 2 ^ k) hv
  have hsp := (spr_lt ok _ (andn v (2 ^ k)) (Nat.le_refl _) hav).1
  refine callsF_of Tryd.func86 rfl rfl (by rw [Tryd.ntmps86]; simp) fun cx hP hn hg => ?_
  rw [Tryd.ntmps86] at hn
  rw [startF_lk, none_mkM]
  simp only [List.nil_append, List.append_nil, List.cons_append, zipSV, Nat.reduceAdd]
  refine awp_seq ?_
  refine rg ?_
  refine qv m_as ?_
  show AWp cx _ _ _
  refine awp_seq ?_
  refine rd mixed ?_
  first | refine zv (m_lda sz23 ag23) ?_ | refine zv (m_ldpa sz23 ag23) ?_
  first | refine zv (m_ld sz3 ag3) ?_ | refine zv (m_ldp sz3 ag3) ?_
  refine zv m_mv ?_
  refine zv (m_shlS k) ?_
  refine zv (m_andnS (ha := hv) (hb := two36 (by omega))) ?_
  refine zqF (R := []) (f57 n ok (andn v (2 ^ k)) hav) ?_
  refine zv m_mv ?_
  refine zv m_ext ?_
  refine zv m_ext ?_
  refine zv m_as ?_
  refine zv m_as ?_
  refine ⟨by rfl, ?_⟩
  show AWp cx _ _ _
  refine awp_seq ?_
  refine rd mixed ?_
  refine zv m_mv ?_
  refine zqF (R := []) (f59 _ hsp) ?_
  first | refine zv (m_ld sz3 ag3) ?_ | refine zv (m_ldp sz3 ag3) ?_
  refine zqF (R := []) (f59 s hs) ?_
  refine zv m_geq ?_
  refine zv m_as ?_
  refine ⟨by rfl, ?_⟩
  show AWp cx _ _ _
  refine awp_ret ?_
  exact x1 (hr := (rB_))

set_option maxHeartbeats 4000000 in
theorem f50 (m : Mw) (w : Int) : ACallsF Tryd.prog 50 [dMw m, i64 w] (.many [.dv (ints (onWet m w [] fun n v => ns (needL n v))), .dv (i64 (wetE m w))]) := by
  refine callsF_of Tryd.func50 rfl rfl (by rw [Tryd.ntmps50]; simp) fun cx hP hn hg => ?_
  rw [Tryd.ntmps50] at hn
  rw [startF_lk, none_mkM]
  simp only [List.nil_append, List.append_nil, List.cons_append, zipSV, Nat.reduceAdd]
  refine awp_seq ?_
  refine rg ?_
  refine qp m_box ?_
  refine qp m_box ?_
  refine qv m_as ?_
  refine qv m_as ?_
  show AWp cx _ _ _
  refine awp_seq ?_
  refine awp_seq ?_
  refine rg ?_
  refine qv (m_ldpa sz23 ag23) ?_
  refine qv (m_ldp sz3 ag3) ?_
  refine qqF (f56 m w) ?_
  refine qv m_as ?_
  show AWp cx _ _ _
  refine awp_seq ?_
  refine rg ?_
  refine qv m_mv ?_
  refine qv m_neq ?_
  show AWp cx _ _ _
  refine cd (fun hc0 => ?_) (fun hc0 => ?_)
  · skip
    have hne : ¬ wetE m w = 0 := by simpa using hc0
    refine awp_seq ?_
    refine rg ?_
    refine qv m_mv ?_
    refine qv m_as ?_
    refine qv m_as ?_
    show AWp cx _ _ _
    refine awp_ret ?_
    exact x2 (hr := (rNd_ (by rw [onWet_no hne]))) (hr' := (rI_))
  · skip
    have he : wetE m w = 0 := by simpa using hc0
    obtain ⟨n, v, ok, rfl, rfl, hv⟩ := wetE_ok he
    have hv36 := le36 ok hv
    have hwe := wetE_v ok hv
    refine awp_skip ?_
    show AWp cx _ _ _
    refine awp_seq ?_
    refine rg ?_
    refine qv (m_ldpa sz23 ag23) ?_
    refine qv (m_ldp sz3 ag3) ?_
    refine qqF (f57 n ok v hv36) ?_
    refine qv m_mv ?_
    refine qv m_ext ?_
    refine qv m_ext ?_
    refine qp (m_al ze3) ?_
    refine qs (m_st sz3) ?_
    refine qv m_as ?_
    show AWp cx _ _ _
    refine awp_seq ?_
    have hbl := bl_len (x := v)
    have hnl := ns_len (bl v)
    have hs36 := le36 ok (spr_full (n := n) v hv)
    have hN := ok.N2
    have hp : PrOk 86 [] [.cptr [i64 (n.r : Int), i64 (n.c : Int), i64 (n.nd : Int)], .cptr [i64 (v : Int)], .cptr [i64 ((spr n v).1 : Int)]] (needP n v) (ns (bl v)) := by
      intro x hx
      obtain ⟨k, hk, rfl⟩ := List.mem_map.1 hx
      have hkl := bl_in hv hk
      exact f86 n ok v (spr n v).1 k hv36 hs36 (by omega)
    refine rg ?_
    refine qv (m_ldp sz3 ag3) ?_
    refine qqF (f58 v hv36) ?_
    refine qfn ?_
    refine qqG (f85z (ns (bl v)) 86 [] _ (needP n v) hp (by omega)) [] [(100000, 22)] [22] ?_
    refine qv m_as ?_
    refine qv m_as ?_
    show AWp cx _ _ _
    refine awp_ret ?_
    exact x2 (hr := by rw [onWet_ok ok hv, ← delF_need ok hv]; exact data_intsP (L := delF (needP n v) (ns (bl v))) (zs := List.replicate ((ns (bl v)).length - (delF (needP n v) (ns (bl v))).length) 0) (by simp only [mkM, reduceIte, Nat.reduceEqDiff] <;> rfl) trivial rfl rfl rfl (fun _ => .int _ _)) (hr' := (rI_ (by rw [hwe])))

end Go.Ab.Tryd
