/- The functions of the moss laws, part 7. The walks are written by wip/gen/gw.py. -/
import Derived.Test.YtjipgkhfbfpacaaDoorMossC
import Derived.Test.YtjipgkhfbfpacaaDoorMossFacts
import Derived.Test.YtjipgkhfbfpacaaDoorMossD
set_option linter.all false
namespace Go.Ab.Tryd
open Go Go.Ab Go.Proofs Go.Ab.Moss
def toMn (m : Mw) : Mn := ⟨m.rows.toNat, m.cols.toNat, m.need.toNat⟩
def onWet {α : Type} (m : Mw) (w : Int) (d : α) (g : Mn → Nat → α) : α := if wetE m w = 0 then g (toMn m) w.toNat else d
theorem wetE_v {n : Mn} (ok : n.Ok) {v : Nat} (hv : v ≤ full n) : wetE n.w (v : Int) = 0 := by
  rw [wetE_n ok, if_pos]
  simp only [fromB, Bool.and_eq_true, decide_eq_true_eq]; omega
theorem toMn_w (n : Mn) : toMn n.w = n := by simp [toMn]
theorem onWet_ok {α : Type} {n : Mn} (ok : n.Ok) {v : Nat} (hv : v ≤ full n) {d : α} {g : Mn → Nat → α} : onWet n.w (v : Int) d g = g n v := by
  simp only [onWet, wetE_v ok hv, if_true, toMn_w, Int.toNat_natCast]
theorem onWet_no {α : Type} {m : Mw} {w : Int} (h : ¬ wetE m w = 0) {d : α} {g : Mn → Nat → α} : onWet m w d g = d := by simp [onWet, h]
theorem le36 {n : Mn} (ok : n.Ok) {v : Nat} (hv : v ≤ full n) : v < 68719476736 := Nat.lt_of_le_of_lt hv (full_lt ok)
theorem bl_in {n : Mn} {v k : Nat} (hv : v ≤ full n) (hk : k ∈ bl v) : k < n.r * n.c := by
  have h1 := full_add (n := n)
  have h2 : v < 2 ^ (n.r * n.c) := by omega
  simp only [bl, List.mem_filter] at hk
  rcases Nat.lt_or_ge k (n.r * n.c) with h | h
  · exact h
  · rw [testBit_high h2 h] at hk; simp at hk
def sideN (n : Mn) (w k : Nat) : Int := 4 - (popc (arN n k &&& w) : Int)
def sumI (f : Nat → Int) (l : List Nat) : Int := (l.map f).sum
theorem sumI_snoc (f : Nat → Int) (l : List Nat) (k : Nat) : sumI f (l ++ [k]) = sumI f l + f k := by simp [sumI]
theorem ns_get {l : List Nat} {i : Nat} (h : i < l.length) : (ns l)[i]? = some (l[i] : Int) := by simp [ns, h]
theorem popc_le (x : Nat) : popc x ≤ 64 := by unfold popc pc; exact Nat.le_trans List.countP_le_length (by simp)
theorem sumI_bd {n : Mn} {w : Nat} : ∀ l : List Nat, -60 * (l.length : Int) ≤ sumI (sideN n w) l ∧ sumI (sideN n w) l ≤ 4 * (l.length : Int)
  | [] => by simp [sumI]
  | k :: l => by
    have h1 := sumI_bd (n := n) (w := w) l
    have h2 := popc_le (arN n k &&& w)
    have e : sumI (sideN n w) (k :: l) = sideN n w k + sumI (sideN n w) l := by simp [sumI]
    rw [e]
    simp only [sideN, List.length_cons] at *
    push_cast
    omega
def edgeR (n : Mn) (w : Nat) : Int := sumI (sideN n w) (bl w)
theorem f17 (m : Mw) (w : Int) : ACallsF Tryd.prog 17 [dMw m, i64 w] (.many [.dv (i64 (onWet m w 0 fun n v => ((spr n v).1 : Int))), .dv (i64 (onWet m w 0 fun n v => ((spr n v).2 : Int))), .dv (i64 (wetE m w))]) := by
  refine callsF_of Tryd.func17 rfl rfl (by rw [Tryd.ntmps17]; simp) fun cx hP hn hg => ?_
  rw [Tryd.ntmps17] at hn
  rw [startF_lk, none_mkM]
  simp only [List.nil_append, List.append_nil, List.cons_append, zipSV, Nat.reduceAdd]
  refine awp_seq ?_
  refine rg ?_
  refine qp m_box ?_
  refine qv m_as ?_
  refine qv m_as ?_
  refine qv m_as ?_
  show AWp cx _ _ _
  refine awp_seq ?_
  refine awp_seq ?_
  refine rg ?_
  refine qv (m_ldpa sz23 ag23) ?_
  refine qv m_mv ?_
  refine qqF (f56 m w) ?_
  refine qv m_as ?_
  show AWp cx _ _ _
  refine awp_seq ?_
  refine rg ?_
  refine qv m_mv ?_
  refine qv m_neq ?_
  show AWp cx _ _ _
  refine cd (fun hc0 => ?_) (fun hc0 => ?_)
  · skip
    have hne : ¬ wetE m w = 0 := by simpa using hc0
    refine awp_seq ?_
    refine rg ?_
    refine qv m_mv ?_
    refine qv m_as ?_
    refine qv m_as ?_
    refine qv m_as ?_
    show AWp cx _ _ _
    refine awp_ret ?_
    exact x3 (hr := (rI_ (by rw [onWet_no hne]))) (hr' := (rI_ (by rw [onWet_no hne]))) (hr'' := (rI_))
  · skip
    have he : wetE m w = 0 := by simpa using hc0
    obtain ⟨n, v, ok, rfl, rfl, hv⟩ := wetE_ok he
    have hv36 := le36 ok hv
    have hwe := wetE_v ok hv
    refine awp_skip ?_
    show AWp cx _ _ _
    refine awp_seq ?_
    refine rg ?_
    refine qv (m_ldpa sz23 ag23) ?_
    refine qv m_mv ?_
    refine qqF (f57 n ok v hv36) ?_
    refine qv m_mv ?_
    refine qv m_ext ?_
    refine qv m_ext ?_
    refine qv m_as ?_
    refine qv m_as ?_
    show AWp cx _ _ _
    refine awp_seq ?_
    refine rg ?_
    refine qv m_mv ?_
    refine qv m_mv ?_
    refine qv m_as ?_
    refine qv m_as ?_
    refine qv m_as ?_
    show AWp cx _ _ _
    refine awp_ret ?_
    exact x3 (hr := (rI_ (by rw [onWet_ok ok hv]))) (hr' := (rI_ (by rw [onWet_ok ok hv]))) (hr'' := (rI_ (by rw [hwe])))
theorem f19 (m : Mw) (w : Int) : ACallsF Tryd.prog 19 [dMw m, i64 w] (.many [.dv (i64 (onWet m w 0 edgeR)), .dv (i64 (wetE m w))]) := by
  refine callsF_of Tryd.func19 rfl rfl (by rw [Tryd.ntmps19]; simp) fun cx hP hn hg => ?_
  rw [Tryd.ntmps19] at hn
  rw [startF_lk, none_mkM]
  simp only [List.nil_append, List.append_nil, List.cons_append, zipSV, Nat.reduceAdd]
  refine awp_seq ?_
  refine rg ?_
  refine qp m_box ?_
  refine qv m_as ?_
  refine qv m_as ?_
  show AWp cx _ _ _
  refine awp_seq ?_
  refine awp_seq ?_
  refine rg ?_
  refine qv (m_ldpa sz23 ag23) ?_
  refine qv m_mv ?_
  refine qqF (f56 m w) ?_
  refine qv m_as ?_
  show AWp cx _ _ _
  refine awp_seq ?_
  refine rg ?_
  refine qv m_mv ?_
  refine qv m_neq ?_
  show AWp cx _ _ _
  refine cd (fun hc0 => ?_) (fun hc0 => ?_)
  · skip
    have hne : ¬ wetE m w = 0 := by simpa using hc0
    refine awp_seq ?_
    refine rg ?_
    refine qv m_mv ?_
    refine qv m_as ?_
    refine qv m_as ?_
    show AWp cx _ _ _
    refine awp_ret ?_
    exact x2 (hr := (rI_ (by rw [onWet_no hne]))) (hr' := (rI_))
  · skip
    have he : wetE m w = 0 := by simpa using hc0
    obtain ⟨n, v, ok, rfl, rfl, hv⟩ := wetE_ok he
    have hv36 := le36 ok hv
    have hwe := wetE_v ok hv
    refine awp_skip ?_
    show AWp cx _ _ _
    refine awp_seq ?_
    refine rg ?_
    refine qv m_as ?_
    show AWp cx _ _ _
    refine awp_seq ?_
    refine awp_seq ?_
    refine rg ?_
    refine qv m_mv ?_
    refine qqF (f58 v hv36) ?_
    refine qv (m_lenR il32) ?_
    refine qv m_mv ?_
    show AWp cx _ _ _
    refine awp_block ?_
    refine awp_loop (ι := Nat) (fun i => ⟨lk [(1, .dv (i64 ((v : Int)))), (2, .pt 2 0 0), (7, .dv (i64 (sumI (sideN n v) ((bl v).take i)))), (17, .sl 17 0 0 (ns (bl v)).length), (18, .dv (i64 (((ns (bl v)).length : Nat)))), (19, .dv (i64 (i : Nat)))], mkM [(2, 0, some ⟨[.dv (i64 ((n.r : Int))), .dv (i64 ((n.c : Int))), .dv (i64 ((n.nd : Int)))], 0, 23, 0, false⟩), (17, 0, some (rowI (ns (bl v))))]⟩) (fun i => i ≤ (ns (bl v)).length) (fun i => (ns (bl v)).length - i) 0 (by simp) (tl [(2, 2), (17, 17)] (hF := by simp [FLe, svLe, lk, mkM, isLive, tauL, sumI]) (hM := by simp [MLe, blkLe, svLe, svLes, lk, mkM, isLive, tauL, svLes_ints, svLes_self, isDvs, isDvs_map, isDvs_app, isDvs_take, isDvs_set, isDvs_repl, sumI])) ?_
    intro i hφ0
    refine awp_seq ?_
    refine rg ?_
    refine qv m_lss ?_
    show AWp cx _ _ _
    refine awp_seq ?_
    refine cd (fun hc1 => ?_) (fun hc1 => ?_)
    · try simp at hc1
      refine awp_skip ?_
      show AWp cx _ _ _
      refine awp_seq ?_
      refine awp_block ?_
      refine awp_seq ?_
      refine rg ?_
      have hbl := bl_len (x := v)
      have hi : i < (bl v).length := by rw [ns_len] at *; omega
      have hgi := ns_get hi
      have hkm : (bl v)[i] ∈ bl v := List.getElem_mem hi
      have hkl := bl_in hv hkm
      have htk : (bl v).take (i + 1) = (bl v).take i ++ [(bl v)[i]] := take_snoc (List.getElem?_eq_getElem hi)
      have hbd := sumI_bd (n := n) (w := v) ((bl v).take i)
      have hll : ((bl v).take i).length ≤ 64 := by have := bl_len (x := v); simp; omega
      have hsn := sumI_snoc (sideN n v) ((bl v).take i) (bl v)[i]
      rw [← htk] at hsn
      have hpl := popc_le (arN n (bl v)[i] &&& v)
      have har := arN_lt ok hkl
      have hsd : sideN n v (bl v)[i] = 4 - (popc (arN n (bl v)[i] &&& v) : Int) := rfl
      rw [hsd] at hsn
      refine qv (m_ixR el32 sz3) ?_
      first | refine qv (m_ldI sz3 ag3) ?_ | refine qv (m_ldp sz3 ag3) ?_
      refine qv m_as ?_
      show AWp cx _ _ _
      refine rg ?_
      refine qv m_mv ?_
      refine qv (m_ldpa sz23 ag23) ?_
      refine qv m_mv ?_
      refine qqF (f60 n ok (bl v)[i] hkl) ?_
      refine qv m_mv ?_
      refine qv m_andS ?_
      refine qqF (f59 (arN n (bl v)[i] &&& v) (and36 har)) ?_
      refine qv m_sub ?_
      refine qv m_add ?_
      refine qv m_as ?_
      show AWp cx _ _ _
      refine rg ?_
      refine qv m_add ?_
      refine qv m_mv ?_
      exact ⟨i + 1, by rw [ns_len]; exact hi, (by simp only; omega), (tl [(2, 2), (17, 17)] (hF := by simp [FLe, svLe, lk, mkM, isLive, tauL, hsn]) (hM := by simp [MLe, blkLe, svLe, svLes, lk, mkM, isLive, tauL, svLes_ints, svLes_self, isDvs, isDvs_map, isDvs_app, isDvs_take, isDvs_set, isDvs_repl, hsn]))⟩
    · try simp at hc1
      refine awp_exit ?_
      show AWp cx _ _ _
      refine awp_seq ?_
      refine rg ?_
      refine qv m_mv ?_
      refine qv m_as ?_
      refine qv m_as ?_
      show AWp cx _ _ _
      refine awp_ret ?_
      have e2 : (bl v).take i = bl v := List.take_of_length_le (by rw [ns_len] at *; omega)
      rw [e2]
      exact x2 (hr := (rI_ (by rw [onWet_ok ok hv]; rfl))) (hr' := (rI_ (by rw [hwe])))
end Go.Ab.Tryd
