/- The functions of the moss laws, part 7. The walks are written by wip/gen/gw.py. -/
import Derived.Test.YtjipgkhfbfpacaaDoorMossC
import Derived.Test.YtjipgkhfbfpacaaDoorMossFacts
import Derived.Test.YtjipgkhfbfpacaaDoorMossD
set_option linter.all false
namespace Go.Ab.Tryd
open Go Go.Ab Go.Proofs Go.Ab.Moss

def toMn (m : Mw) : Mn := ⟨m.rows.toNat, m.cols.toNat, m.need.toNat⟩
/-- What a function tells of a meadow and a set, where they are right. -/
def onWet {α : Type} (m : Mw) (w : Int) (d : α) (g : Mn → Nat → α) : α := if wetE m w = 0 then g (toMn m) w.toNat else d
theorem wetE_v {n : Mn} (ok : n.Ok) {v : Nat} (hv : v ≤ full n) : wetE n.w (v : Int) = 0 := by
  rw [wetE_n ok, if_pos]
  simp only [fromB, Bool.and_eq_true, decide_eq_true_eq]; omega
theorem toMn_w (n : Mn) : toMn n.w = n := by simp [toMn]
theorem onWet_ok {α : Type} {n : Mn} (ok : n.Ok) {v : Nat} (hv : v ≤ full n) {d : α} {g : Mn → Nat → α} : onWet n.w (v : Int) d g = g n v := by
  simp only [onWet, wetE_v ok hv, if_true, toMn_w, Int.toNat_natCast]
theorem onWet_no {α : Type} {m : Mw} {w : Int} (h : ¬ wetE m w = 0) {d : α} {g : Mn → Nat → α} : onWet m w d g = d := by simp [onWet, h]
theorem le36 {n : Mn} (ok : n.Ok) {v : Nat} (hv : v ≤ full n) : v < 68719476736 := Nat.lt_of_le_of_lt hv (full_lt ok)
theorem bl_in {n : Mn} {v k : Nat} (hv : v ≤ full n) (hk : k ∈ bl v) : k < n.r * n.c := by
  have h1 := full_add (n := n)
  have h2 : v < 2 ^ (n.r * n.c) := by omega
  simp only [bl, List.mem_filter] at hk
  rcases Nat.lt_or_ge k (n.r * n.c) with h | h
  · exact h
  · rw [testBit_high h2 h] at hk; simp at hk
/-- The sides between a square and what is not in the set; their sum over squares. -/
def sideN (n : Mn) (w k : Nat) : Int := 4 - (popc (arN n k &&& w) : Int)
def sumI (f : Nat → Int) (l : List Nat) : Int := (l.map f).sum
theorem sumI_snoc (f : Nat → Int) (l : List Nat) (k : Nat) : sumI f (l ++ [k]) = sumI f l + f k := by simp [sumI]
theorem ns_get {l : List Nat} {i : Nat} (h : i < l.length) : (ns l)[i]? = some (l[i] : Int) := by simp [ns, h]
theorem popc_le (x : Nat) : popc x ≤ 64 := by unfold popc pc; exact Nat.le_trans List.countP_le_length (by simp)
theorem sumI_bd {n : Mn} {w : Nat} : ∀ l : List Nat, -60 * (l.length : Int) ≤ sumI (sideN n w) l ∧ sumI (sideN n w) l ≤ 4 * (l.length : Int)
  | [] => by simp [sumI]
  | k :: l => by
    have h1 := sumI_bd (n := n) (w := w) l
    have h2 := popc_le (arN n k &&& w)
    have e : sumI (sideN n w) (k :: l) = sideN n w k + sumI (sideN n w) l := by simp [sumI]
    rw [e]
    simp only [sideN, List.length_cons] at *
    push_cast
    omega
def edgeR (n : Mn) (w : Nat) : Int := sumI (sideN n w) (bl w)
/-- Whether a square has many neighbors outside. -/
def outB (n : Mn) (core k : Nat) : Bool := decide (n.nd ≤ popc (andn (arN n k) core))
def coreB (n : Mn) (core : Nat) : Bool := !(bl core).any (outB n core)


theorem f17 (m : Mw) (w : Int) : ACallsF Tryd.prog 17 [dMw m, i64 w] (.many [.dv (i64 (onWet m w 0 fun n v => ((spr n v).1 : Int))), .dv (i64 (onWet m w 0 fun n v => ((spr n v).2 : Int))), .dv (i64 (wetE m w))]) := by
  refine callsF_of Tryd.func17 rfl rfl (by rw [Tryd.ntmps17]; simp) fun cx hP hn hg => ?_
  rw [Tryd.ntmps17] at hn
  rw [startF_lk, none_mkM]
  simp only [List.nil_append, List.append_nil, List.cons_append, zipSV, Nat.reduceAdd]
  refine awp_seq ?_
  refine rg ?_
  refine qp m_box ?_
  refine qv m_as ?_
  refine qv m_as ?_
  refine qv m_as ?_
  show AWp cx _ _ _
  refine awp_seq ?_
  refine awp_seq ?_
  refine rg ?_
  refine qv (m_ldpa sz23 ag23) ?_
  refine qv m_mv ?_
  refine qqF (f56 m w) ?_
  refine qv m_as ?_
  show AWp cx _ _ _
  refine awp_seq ?_
  refine rg ?_
  refine qv m_mv ?_
  refine qv m_neq ?_
  show AWp cx _ _ _
  refine cd (fun hc0 => ?_) (fun hc0 => ?_)
  · skip
    have hne : ¬ wetE m w = 0 := by simpa using hc0
    refine awp_seq ?_
    refine rg ?_
    refine qv m_mv ?_
    refine qv m_as ?_
    refine qv m_as ?_
    refine qv m_as ?_
    show AWp cx _ _ _
    refine awp_ret ?_
    exact x3 (hr := (rI_ (by rw [onWet_no hne]))) (hr' := (rI_ (by rw [onWet_no hne]))) (hr'' := (rI_))
  · skip
    have he : wetE m w = 0 := by simpa using hc0
    obtain ⟨n, v, ok, rfl, rfl, hv⟩ := wetE_ok he
    have hv36 := le36 ok hv
    have hwe := wetE_v ok hv
    refine awp_skip ?_
    show AWp cx _ _ _
    refine awp_seq ?_
    refine rg ?_
    refine qv (m_ldpa sz23 ag23) ?_
    refine qv m_mv ?_
    refine qqF (f57 n ok v hv36) ?_
    refine qv m_mv ?_
    refine qv m_ext ?_
    refine qv m_ext ?_
    refine qv m_as ?_
    refine qv m_as ?_
    show AWp cx _ _ _
    refine awp_seq ?_
    refine rg ?_
    refine qv m_mv ?_
    refine qv m_mv ?_
    refine qv m_as ?_
    refine qv m_as ?_
    refine qv m_as ?_
    show AWp cx _ _ _
    refine awp_ret ?_
    exact x3 (hr := (rI_ (by rw [onWet_ok ok hv]))) (hr' := (rI_ (by rw [onWet_ok ok hv]))) (hr'' := (rI_ (by rw [hwe])))

theorem f21 (m : Mw) (w : Int) : ACallsF Tryd.prog 21 [dMw m, i64 w] (.many [.dv (i64 (onWet m w 0 fun n v => ((v ||| rdN n v : Nat) : Int))), .dv (i64 (wetE m w))]) := by
  refine callsF_of Tryd.func21 rfl rfl (by rw [Tryd.ntmps21]; simp) fun cx hP hn hg => ?_
  rw [Tryd.ntmps21] at hn
  rw [startF_lk, none_mkM]
  simp only [List.nil_append, List.append_nil, List.cons_append, zipSV, Nat.reduceAdd]
  refine awp_seq ?_
  refine rg ?_
  refine qp m_box ?_
  refine qv m_as ?_
  refine qv m_as ?_
  show AWp cx _ _ _
  refine awp_seq ?_
  refine awp_seq ?_
  refine rg ?_
  refine qv (m_ldpa sz23 ag23) ?_
  refine qv m_mv ?_
  refine qqF (f56 m w) ?_
  refine qv m_as ?_
  show AWp cx _ _ _
  refine awp_seq ?_
  refine rg ?_
  refine qv m_mv ?_
  refine qv m_neq ?_
  show AWp cx _ _ _
  refine cd (fun hc0 => ?_) (fun hc0 => ?_)
  · skip
    have hne : ¬ wetE m w = 0 := by simpa using hc0
    refine awp_seq ?_
    refine rg ?_
    refine qv m_mv ?_
    refine qv m_as ?_
    refine qv m_as ?_
    show AWp cx _ _ _
    refine awp_ret ?_
    exact x2 (hr := (rI_ (by rw [onWet_no hne]))) (hr' := (rI_))
  · skip
    have he : wetE m w = 0 := by simpa using hc0
    obtain ⟨n, v, ok, rfl, rfl, hv⟩ := wetE_ok he
    have hv36 := le36 ok hv
    have hwe := wetE_v ok hv
    refine awp_skip ?_
    show AWp cx _ _ _
    refine awp_seq ?_
    refine rg ?_
    refine qv m_mv ?_
    refine qv (m_ldpa sz23 ag23) ?_
    refine qv m_mv ?_
    refine qqF (f64 n ok v hv36) ?_
    refine qv (m_orS (hb := rdN_lt ok)) ?_
    refine qv m_as ?_
    refine qv m_as ?_
    show AWp cx _ _ _
    refine awp_ret ?_
    exact x2 (hr := (rI_ (by rw [onWet_ok ok hv]))) (hr' := (rI_ (by rw [hwe])))

theorem f29 (m : Mw) (w : Int) : ACallsF Tryd.prog 29 [dMw m, i64 w] (.many [.dv (.bool (onWet m w false fun n v => decide ((spr n v).1 = full n))), .dv (i64 (wetE m w))]) := by
  refine callsF_of Tryd.func29 rfl rfl (by rw [Tryd.ntmps29]; simp) fun cx hP hn hg => ?_
  rw [Tryd.ntmps29] at hn
  rw [startF_lk, none_mkM]
  simp only [List.nil_append, List.append_nil, List.cons_append, zipSV, Nat.reduceAdd]
  refine awp_seq ?_
  refine rg ?_
  refine qp m_box ?_
  refine qv m_as ?_
  refine qv m_as ?_
  show AWp cx _ _ _
  refine awp_seq ?_
  refine rg ?_
  refine qv (m_ldpa sz23 ag23) ?_
  refine qv m_mv ?_
  refine qqF (f56 m w) ?_
  refine qv m_as ?_
  show AWp cx _ _ _
  refine awp_seq ?_
  refine rg ?_
  refine qv m_mv ?_
  refine qv m_eql ?_
  refine qx m_mv (fun hg12 => ?_) (fun hg12 => ?_)
  · try simp at hg12
    have he : wetE m w = 0 := by simpa using hg12
    obtain ⟨n, v, ok, rfl, rfl, hv⟩ := wetE_ok he
    have hv36 := le36 ok hv
    have hwe := wetE_v ok hv
    refine qv (m_ldpa sz23 ag23) ?_
    refine qv m_mv ?_
    refine qqF (f71 n ok v hv36) ?_
    refine qv m_pk ?_
    refine qv m_mv ?_
    refine qv m_as ?_
    refine qv m_as ?_
    show AWp cx _ _ _
    refine awp_ret ?_
    exact x2 (hr := (rB_ (by rw [onWet_ok ok hv]))) (hr' := (rI_))
  · try simp at hg12
    refine qk ?_
    refine qk ?_
    refine qk ?_
    refine qv m_pk ?_
    refine qv m_mv ?_
    refine qv m_as ?_
    refine qv m_as ?_
    show AWp cx _ _ _
    refine awp_ret ?_
    exact x2 (hr := (rB_ (by rw [onWet_no (by simpa using hg12)]))) (hr' := (rI_))

theorem f22 (m : Mw) (s : Int) : ACallsF Tryd.prog 22 [dMw m, i64 s] (.many [rI (if validB m && fromB s 0 (m.rows * m.cols - 1) then ns (bl (arN (toMn m) s.toNat)) else []), .dv (i64 (if validB m then if fromB s 0 (m.rows * m.cols - 1) then 0 else 4 else 1))]) := by
  refine callsF_of Tryd.func22 rfl rfl (by rw [Tryd.ntmps22]; simp) fun cx hP hn hg => ?_
  rw [Tryd.ntmps22] at hn
  rw [startF_lk, none_mkM]
  simp only [List.nil_append, List.append_nil, List.cons_append, zipSV, Nat.reduceAdd]
  refine awp_seq ?_
  refine rg ?_
  refine qp m_box ?_
  refine qv m_as ?_
  refine qv m_as ?_
  show AWp cx _ _ _
  refine awp_seq ?_
  refine awp_seq ?_
  refine rg ?_
  refine qv (m_ldpa sz23 ag23) ?_
  refine qqF (f24 m) ?_
  refine qv m_as ?_
  show AWp cx _ _ _
  refine awp_seq ?_
  refine rg ?_
  refine qv m_mv ?_
  refine qv m_neq ?_
  show AWp cx _ _ _
  refine cd (fun hc0 => ?_) (fun hc0 => ?_)
  · skip
    have hv : validB m = false := by simpa [valid] using hc0
    refine awp_seq ?_
    refine rg ?_
    refine qv m_mv ?_
    refine qv m_as ?_
    refine qv m_as ?_
    show AWp cx _ _ _
    refine awp_ret ?_
    exact x2 (hr := (rN_ (by simp [hv]))) (hr' := (rI_ (by simp [hv, valid])))
  · skip
    have hv : validB m = true := by simpa [valid] using hc0
    obtain ⟨n, ok, rfl⟩ := valid_n hv
    have e : (n.w.rows * n.w.cols - 1) = ((n.r * n.c : Nat) : Int) - 1 := by simp
    refine awp_skip ?_
    show AWp cx _ _ _
    refine awp_seq ?_
    refine awp_seq ?_
    refine rg ?_
    refine qv (m_ldpa sz23 ag23) ?_
    refine qv m_mv ?_
    refine qqF (f65 n ok s) ?_
    refine qv m_not ?_
    show AWp cx _ _ _
    refine cd (fun hc1 => ?_) (fun hc1 => ?_)
    · skip
      have hs : fromB s 0 ((n.r * n.c : Nat) - 1) = false := by simpa using hc1
      refine awp_seq ?_
      refine rg ?_
      refine qv m_as ?_
      refine qv m_as ?_
      show AWp cx _ _ _
      refine awp_ret ?_
      rw [e]
      simp only [hv, hs, Bool.and_false, Bool.false_eq_true, if_true, if_false]
      exact x2 (hr := (rN_)) (hr' := (rI_))
    · skip
      have hs : fromB s 0 ((n.r * n.c : Nat) - 1) = true := by simpa using hc1
      obtain ⟨k, hk, rfl⟩ : ∃ k : Nat, k < n.r * n.c ∧ s = (k : Int) := by
        simp only [fromB, Bool.and_eq_true, decide_eq_true_eq] at hs
        exact ⟨s.toNat, by omega, by omega⟩
      refine awp_skip ?_
      show AWp cx _ _ _
      refine awp_seq ?_
      refine rg ?_
      refine qv (m_ldpa sz23 ag23) ?_
      refine qv m_mv ?_
      refine qqF (f60 n ok k hk) ?_
      refine qqF (f58 (arN n k) (arN_lt ok hk)) ?_
      refine qv m_as ?_
      refine qv m_as ?_
      show AWp cx _ _ _
      refine awp_ret ?_
      rw [e]
      simp only [hv, hs, Bool.and_self, if_true, toMn_w, Int.toNat_natCast]
      exact x2 (hr := (rR_)) (hr' := (rI_))

theorem f19 (m : Mw) (w : Int) : ACallsF Tryd.prog 19 [dMw m, i64 w] (.many [.dv (i64 (onWet m w 0 edgeR)), .dv (i64 (wetE m w))]) := by
  refine callsF_of Tryd.func19 rfl rfl (by rw [Tryd.ntmps19]; simp) fun cx hP hn hg => ?_
  rw [Tryd.ntmps19] at hn
  rw [startF_lk, none_mkM]
  simp only [List.nil_append, List.append_nil, List.cons_append, zipSV, Nat.reduceAdd]
  refine awp_seq ?_
  refine rg ?_
  refine qp m_box ?_
  refine qv m_as ?_
  refine qv m_as ?_
  show AWp cx _ _ _
  refine awp_seq ?_
  refine awp_seq ?_
  refine rg ?_
  refine qv (m_ldpa sz23 ag23) ?_
  refine qv m_mv ?_
  refine qqF (f56 m w) ?_
  refine qv m_as ?_
  show AWp cx _ _ _
  refine awp_seq ?_
  refine rg ?_
  refine qv m_mv ?_
  refine qv m_neq ?_
  show AWp cx _ _ _
  refine cd (fun hc0 => ?_) (fun hc0 => ?_)
  · skip
    have hne : ¬ wetE m w = 0 := by simpa using hc0
    refine awp_seq ?_
    refine rg ?_
    refine qv m_mv ?_
    refine qv m_as ?_
    refine qv m_as ?_
    show AWp cx _ _ _
    refine awp_ret ?_
    exact x2 (hr := (rI_ (by rw [onWet_no hne]))) (hr' := (rI_))
  · skip
    have he : wetE m w = 0 := by simpa using hc0
    obtain ⟨n, v, ok, rfl, rfl, hv⟩ := wetE_ok he
    have hv36 := le36 ok hv
    have hwe := wetE_v ok hv
    refine awp_skip ?_
    show AWp cx _ _ _
    refine awp_seq ?_
    refine rg ?_
    refine qv m_as ?_
    show AWp cx _ _ _
    refine awp_seq ?_
    refine awp_seq ?_
    refine rg ?_
    refine qv m_mv ?_
    refine qqF (f58 v hv36) ?_
    refine qv (m_lenR il32) ?_
    refine qv m_mv ?_
    show AWp cx _ _ _
    refine awp_block ?_
    refine awp_loop (ι := Nat) (fun i => ⟨lk [(1, .dv (i64 ((v : Int)))), (2, .pt 2 0 0), (7, .dv (i64 (sumI (sideN n v) ((bl v).take i)))), (17, .sl 17 0 0 (ns (bl v)).length), (18, .dv (i64 (((ns (bl v)).length : Nat)))), (19, .dv (i64 (i : Nat)))], mkM [(2, 0, some ⟨[.dv (i64 ((n.r : Int))), .dv (i64 ((n.c : Int))), .dv (i64 ((n.nd : Int)))], 0, 23, 0, false⟩), (17, 0, some (rowI (ns (bl v))))]⟩) (fun i => i ≤ (ns (bl v)).length) (fun i => (ns (bl v)).length - i) 0 (by simp) (tl [(2, 2), (17, 17)] (hF := by simp [FLe, svLe, lk, mkM, isLive, tauL, sumI]) (hM := by simp [MLe, blkLe, svLe, svLes, lk, mkM, isLive, tauL, svLes_ints, svLes_self, isDvs, isDvs_map, isDvs_app, isDvs_take, isDvs_set, isDvs_repl, sumI])) ?_
    intro i hφ0
    refine awp_seq ?_
    refine rg ?_
    refine qv m_lss ?_
    show AWp cx _ _ _
    refine awp_seq ?_
    refine cd (fun hc1 => ?_) (fun hc1 => ?_)
    · try simp at hc1
      refine awp_skip ?_
      show AWp cx _ _ _
      refine awp_seq ?_
      refine awp_block ?_
      refine awp_seq ?_
      refine rg ?_
      have hbl := bl_len (x := v)
      have hi : i < (bl v).length := by rw [ns_len] at *; omega
      have hgi := ns_get hi
      have hkm : (bl v)[i] ∈ bl v := List.getElem_mem hi
      have hkl := bl_in hv hkm
      have htk : (bl v).take (i + 1) = (bl v).take i ++ [(bl v)[i]] := take_snoc (List.getElem?_eq_getElem hi)
      have hbd := sumI_bd (n := n) (w := v) ((bl v).take i)
      have hll : ((bl v).take i).length ≤ 64 := by have := bl_len (x := v); simp; omega
      have hsn := sumI_snoc (sideN n v) ((bl v).take i) (bl v)[i]
      rw [← htk] at hsn
      have hpl := popc_le (arN n (bl v)[i] &&& v)
      have har := arN_lt ok hkl
      have hsd : sideN n v (bl v)[i] = 4 - (popc (arN n (bl v)[i] &&& v) : Int) := rfl
      rw [hsd] at hsn
      refine qv (m_ixR el32 sz3) ?_
      first | refine qv (m_ldI sz3 ag3) ?_ | refine qv (m_ldp sz3 ag3) ?_
      refine qv m_as ?_
      show AWp cx _ _ _
      refine rg ?_
      refine qv m_mv ?_
      refine qv (m_ldpa sz23 ag23) ?_
      refine qv m_mv ?_
      refine qqF (f60 n ok (bl v)[i] hkl) ?_
      refine qv m_mv ?_
      refine qv m_andS ?_
      refine qqF (f59 (arN n (bl v)[i] &&& v) (and36 har)) ?_
      refine qv m_sub ?_
      refine qv m_add ?_
      refine qv m_as ?_
      show AWp cx _ _ _
      refine rg ?_
      refine qv m_add ?_
      refine qv m_mv ?_
      exact ⟨i + 1, by rw [ns_len]; exact hi, (by simp only; omega), (tl [(2, 2), (17, 17)] (hF := by simp [FLe, svLe, lk, mkM, isLive, tauL, hsn]) (hM := by simp [MLe, blkLe, svLe, svLes, lk, mkM, isLive, tauL, svLes_ints, svLes_self, isDvs, isDvs_map, isDvs_app, isDvs_take, isDvs_set, isDvs_repl, hsn]))⟩
    · try simp at hc1
      refine awp_exit ?_
      show AWp cx _ _ _
      refine awp_seq ?_
      refine rg ?_
      refine qv m_mv ?_
      refine qv m_as ?_
      refine qv m_as ?_
      show AWp cx _ _ _
      refine awp_ret ?_
      have e2 : (bl v).take i = bl v := List.take_of_length_le (by rw [ns_len] at *; omega)
      rw [e2]
      exact x2 (hr := (rI_ (by rw [onWet_ok ok hv]; rfl))) (hr' := (rI_ (by rw [hwe])))

theorem f97 (n : Mn) (ok : n.Ok) (core k : Nat) (hc : core < 68719476736) (hk : k < n.r * n.c) : ACallsF Tryd.prog 97 [i64 (k : Int), .cptr [i64 (n.r : Int), i64 (n.c : Int), i64 (n.nd : Int)], .cptr [i64 (core : Int)]] (.one (.dv (.bool (outB n core k)))) := by
  have har := arN_lt ok hk
  refine callsF_of Tryd.func97 rfl rfl (by rw [Tryd.ntmps97]; simp) fun cx hP hn hg => ?_
  rw [Tryd.ntmps97] at hn
  rw [startF_lk, none_mkM]
  simp only [List.nil_append, List.append_nil, List.cons_append, zipSV, Nat.reduceAdd]
  refine awp_seq ?_
  refine rg ?_
  refine qv m_as ?_
  show AWp cx _ _ _
  refine awp_seq ?_
  refine rd mixed ?_
  first | refine zv (m_lda sz23 ag23) ?_ | refine zv (m_ldpa sz23 ag23) ?_
  refine zv m_mv ?_
  refine zqF (R := []) (f60 n ok k hk) ?_
  first | refine zv (m_ld sz3 ag3) ?_ | refine zv (m_ldp sz3 ag3) ?_
  refine zv m_andnS ?_
  refine zqF (R := []) (f59 (andn (arN n k) core) (andn36 har)) ?_
  first | refine zv (m_fd fd23_2) ?_ | refine zv (m_fdp fd23_2) ?_
  first | refine zv (m_ld sz3 ag3) ?_ | refine zv (m_ldp sz3 ag3) ?_
  refine zv m_geq ?_
  refine zv m_as ?_
  refine ⟨by rfl, ?_⟩
  show AWp cx _ _ _
  refine awp_ret ?_
  exact x1 (hr := (rB_ (by simp [outB])))

theorem any_ns {l : List Nat} {p : Nat → Bool} : (ns l).any (fun x => p x.toNat) = l.any p := by simp [ns, List.any_map, Function.comp_def]

theorem f79 (n : Mn) (ok : n.Ok) (core : Nat) (hc : core ≤ full n) : ACallsF Tryd.prog 79 [dMn n, i64 (core : Int)] (.one (.dv (.bool (coreB n core)))) := by
  have hc36 := le36 ok hc
  have hp : PrOk 97 [] [.cptr [i64 (n.r : Int), i64 (n.c : Int), i64 (n.nd : Int)], .cptr [i64 (core : Int)]] (fun x => outB n core x.toNat) (ns (bl core)) := by
    intro x hx
    obtain ⟨k, hk, rfl⟩ := List.mem_map.1 hx
    exact f97 n ok core k hc36 (bl_in hc hk)
  have hbl := bl_len (x := core)
  refine callsF_of Tryd.func79 rfl rfl (by rw [Tryd.ntmps79]; simp) fun cx hP hn hg => ?_
  rw [Tryd.ntmps79] at hn
  rw [startF_lk, none_mkM]
  simp only [List.nil_append, List.append_nil, List.cons_append, zipSV, Nat.reduceAdd]
  refine awp_seq ?_
  refine rg ?_
  refine qp m_box ?_
  refine qp m_box ?_
  refine qv m_as ?_
  show AWp cx _ _ _
  refine awp_seq ?_
  refine rg ?_
  refine qv (m_ldp sz3 ag3) ?_
  refine qqF (f58 core hc36) ?_
  refine qfn ?_
  refine qqF (f75 (ns (bl core)) 97 [] _ _ hp (by rw [ns_len]; omega)) ?_
  refine qv m_not ?_
  refine qv m_as ?_
  show AWp cx _ _ _
  refine awp_ret ?_
  exact x1 (hr := (rB_ (by rw [any_ns]; rfl)))

theorem f35 (m : Mw) (w : Int) : ACallsF Tryd.prog 35 [dMw m, i64 w] (.one (.dv (i64 (if wetE m w = 0 then (if onWet m w false coreB then 0 else 7) else wetE m w)))) := by
  refine callsF_of Tryd.func35 rfl rfl (by rw [Tryd.ntmps35]; simp) fun cx hP hn hg => ?_
  rw [Tryd.ntmps35] at hn
  rw [startF_lk, none_mkM]
  simp only [List.nil_append, List.append_nil, List.cons_append, zipSV, Nat.reduceAdd]
  refine awp_seq ?_
  refine rg ?_
  refine qp m_box ?_
  refine qv m_as ?_
  show AWp cx _ _ _
  refine awp_seq ?_
  refine awp_seq ?_
  refine rg ?_
  refine qv (m_ldpa sz23 ag23) ?_
  refine qv m_mv ?_
  refine qqF (f56 m w) ?_
  refine qv m_as ?_
  show AWp cx _ _ _
  refine awp_seq ?_
  refine rg ?_
  refine qv m_mv ?_
  refine qv m_neq ?_
  show AWp cx _ _ _
  refine cd (fun hc0 => ?_) (fun hc0 => ?_)
  · skip
    have hne : ¬ wetE m w = 0 := by simpa using hc0
    refine awp_seq ?_
    refine rg ?_
    refine qv m_mv ?_
    refine qv m_as ?_
    show AWp cx _ _ _
    refine awp_ret ?_
    exact x1 (hr := (rI_ (by rw [if_neg hne])))
  · skip
    have he : wetE m w = 0 := by simpa using hc0
    obtain ⟨n, v, ok, rfl, rfl, hv⟩ := wetE_ok he
    have hv36 := le36 ok hv
    have hwe := wetE_v ok hv
    refine awp_skip ?_
    show AWp cx _ _ _
    refine awp_seq ?_
    refine awp_seq ?_
    refine rg ?_
    refine qv (m_ldpa sz23 ag23) ?_
    refine qv m_mv ?_
    refine qqF (f79 n ok v hv) ?_
    refine qv m_not ?_
    show AWp cx _ _ _
    refine cd (fun hc1 => ?_) (fun hc1 => ?_)
    · skip
      refine awp_seq ?_
      refine rg ?_
      refine qv m_as ?_
      show AWp cx _ _ _
      refine awp_ret ?_
      exact x1 (hr := (rI_ (by rw [hwe, onWet_ok ok hv]; simp_all)))
    · skip
      refine awp_skip ?_
      show AWp cx _ _ _
      refine awp_seq ?_
      refine rg ?_
      refine qv m_as ?_
      show AWp cx _ _ _
      refine awp_ret ?_
      exact x1 (hr := (rI_ (by rw [hwe, onWet_ok ok hv]; simp_all)))

end Go.Ab.Tryd
