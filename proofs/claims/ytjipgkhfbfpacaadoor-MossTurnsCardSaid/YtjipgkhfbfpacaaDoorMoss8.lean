/- The functions of the moss laws, part 8. The walks are written by wip/gen/gw.py. -/
import Derived.Test.YtjipgkhfbfpacaaDoorMoss7
import Derived.Test.YtjipgkhfbfpacaaDoorMossD
import Derived.Test.YtjipgkhfbfpacaaDoorMossFacts
import Derived.Test.YtjipgkhfbfpacaaDoorMossD
set_option linter.all false
namespace Go.Ab.Tryd
open Go Go.Ab Go.Proofs Go.Ab.Moss

theorem adjB_iff {n : Mn} {k j : Nat} : adjB n k j = true ↔ dr n j k * dr n j k + dc n j k * dc n j k = 1 := by unfold adjB; exact decide_eq_true_iff

theorem filter_snoc {p : Nat → Bool} {k : Nat} : (List.range (k + 1)).filter p = (List.range k).filter p ++ if p k then [k] else [] := by
  rw [List.range_succ, List.filter_append]
  by_cases h : p k = true <;> simp [h]
theorem ns_filter {p : Nat → Bool} {k : Nat} (h : p k = true) : ns ((List.range (k + 1)).filter p) = ns ((List.range k).filter p) ++ [(k : Int)] := by
  rw [filter_snoc, if_pos h, ns_snoc]
theorem ns_filter' {p : Nat → Bool} {k : Nat} (h : ¬ p k = true) : (List.range (k + 1)).filter p = (List.range k).filter p := by
  rw [filter_snoc, if_neg h, List.append_nil]
theorem countP_snoc {p : Nat → Bool} {l : List Nat} {i : Nat} (h : i < l.length) : (l.take (i + 1)).countP p = (l.take i).countP p + if p l[i] then 1 else 0 := by
  rw [take_snoc (List.getElem?_eq_getElem h), List.countP_append]
  by_cases hp : p l[i] = true <;> simp [hp]
theorem filt_len {p : Nat → Bool} {k : Nat} : ((List.range k).filter p).length ≤ k := by
  have := List.length_filter_le p (List.range k)
  simpa using this


theorem f67 (n : Mn) (ok : n.Ok) (k : Nat) (hk : k < n.r * n.c) : ACallsF Tryd.prog 67 [dMn n, i64 (k : Int)] (.one (rI (ns (nbL n k)))) := by
  have hN := ok.N2
  have hcp := ok.c1
  have hcq := ok.c2
  refine callsF_of Tryd.func67 rfl rfl (by rw [Tryd.ntmps67]; simp) fun cx hP hn hg => ?_
  rw [Tryd.ntmps67] at hn
  rw [startF_lk, none_mkM]
  simp only [List.nil_append, List.append_nil, List.cons_append, zipSV, Nat.reduceAdd]
  refine awp_seq ?_
  refine rg ?_
  refine qp m_box ?_
  refine qv m_as ?_
  show AWp cx _ _ _
  refine awp_seq ?_
  refine rg ?_
  refine qv m_as ?_
  show AWp cx _ _ _
  refine awp_seq ?_
  refine awp_seq ?_
  refine rg ?_
  refine qv m_as ?_
  show AWp cx _ _ _
  refine awp_block ?_
  refine awp_loop (ι := Nat) (fun j => ⟨lk [(1, .dv (i64 ((k : Int)))), (2, .pt 2 0 0), (5, .sl 5 0 0 ((ns ((List.range j).filter (adjB n k))).length)), (6, .dv (i64 (j : Nat)))], mkM [(2, 0, some ⟨[.dv (i64 (n.r)), .dv (i64 (n.c)), .dv (i64 (n.nd))], 0, 23, 0, false⟩), (5, 0, some (rowI (ns ((List.range j).filter (adjB n k)))))]⟩) (fun j => j ≤ n.r * n.c) (fun j => n.r * n.c - j) 0 (by simp) (tl [(2, 2)] (hF := by simp [FLe, svLe, lk, mkM, isLive, tauL, ns]) (hM := by simp [MLe, blkLe, svLe, svLes, lk, mkM, isLive, tauL, svLes_ints, svLes_self, isDvs, isDvs_map, isDvs_app, isDvs_take, isDvs_set, isDvs_repl, ns])) ?_
  intro j hφ0
  have hfl := filt_len (p := adjB n k) (k := j)
  refine awp_seq ?_
  refine awp_seq ?_
  refine rg ?_
  refine qv m_mv ?_
  refine qv (m_ldpa sz23 ag23) ?_
  refine qqF (f62 n ok) ?_
  refine qv m_lss ?_
  show AWp cx _ _ _
  refine cd (fun hc0 => ?_) (fun hc0 => ?_)
  · try simp at hc0
    refine awp_skip ?_
    show AWp cx _ _ _
    refine awp_seq ?_
    refine awp_block ?_
    refine awp_seq ?_
    refine rd mixed ?_
    have hj : j < n.r * n.c := by omega
    have b1 := row_lt hj hcp
    have b2 := row_lt hk hcp
    have b3 := Nat.mod_lt j hcp
    have b4 := Nat.mod_lt k hcp
    have b5 := ok.r2
    have b6 : (0 : Int) ≤ ((j / n.c : Nat) : Int) := Int.natCast_nonneg _
    have b7 : (0 : Int) ≤ ((k / n.c : Nat) : Int) := Int.natCast_nonneg _
    have s1 := sq_bd (a := ((j / n.c : Nat) : Int) - ((k / n.c : Nat) : Int)) (by omega)
    have s2 := sq_bd (a := ((j % n.c : Nat) : Int) - ((k % n.c : Nat) : Int)) (by omega)
    refine zv m_mv ?_
    refine zv (m_fdp fd23_1) ?_
    refine zv (m_ldp sz3 ag3) ?_
    refine zv m_quoN ?_
    refine zv m_mv ?_
    refine zv (m_fdp fd23_1) ?_
    refine zv (m_ldp sz3 ag3) ?_
    refine zv m_quoN ?_
    refine zv m_sub ?_
    refine zv m_mv ?_
    refine zv (m_fdp fd23_1) ?_
    refine zv (m_ldp sz3 ag3) ?_
    refine zv m_remN ?_
    refine zv m_mv ?_
    refine zv (m_fdp fd23_1) ?_
    refine zv (m_ldp sz3 ag3) ?_
    refine zv m_remN ?_
    refine zv m_sub ?_
    refine zv m_as ?_
    refine zv m_as ?_
    refine ⟨by rfl, ?_⟩
    show AWp cx _ _ _
    refine awp_seq ?_
    refine rg ?_
    refine qv m_mv ?_
    refine qv m_mv ?_
    refine qv m_mul ?_
    refine qv m_mv ?_
    refine qv m_mv ?_
    refine qv m_mul ?_
    refine qv m_add ?_
    refine qv m_eql ?_
    show AWp cx _ _ _
    refine cd (fun hc1 => ?_) (fun hc1 => ?_)
    · skip
      have ha : adjB n k j = true := adjB_iff.2 (by simpa only [beq_iff_eq, dr, dc] using hc1)
      have hsn := ns_filter ha
      have hnl : (ns ((List.range j).filter (adjB n k))).length ≤ 36 := by rw [ns_len]; omega
      refine rg ?_
      refine qv m_mv ?_
      refine qv m_mv ?_
      refine qr (m_bsl el32 ze3 sz3) ?_
      refine qa1 (m_app1 el32 el32 ze3 sz3 by3) ?_
      refine qv m_as ?_
      show AWp cx _ _ _
      refine rg ?_
      refine qv m_mv ?_
      refine qv m_add ?_
      refine qv m_as ?_
      exact ⟨j + 1, hj, (by simp only; omega), (tl [(2, 2), (5, 44)] (hF := by simp [FLe, svLe, lk, mkM, isLive, tauL, hsn]) (hM := by simp [MLe, blkLe, svLe, svLes, lk, mkM, isLive, tauL, svLes_ints, svLes_self, isDvs, isDvs_map, isDvs_app, isDvs_take, isDvs_set, isDvs_repl, hsn]))⟩
    · skip
      have ha : ¬ adjB n k j = true := fun hh => absurd (adjB_iff.1 hh) (by simpa only [beq_eq_false_iff_ne, ne_eq, dr, dc] using hc1)
      have hsn := ns_filter' ha
      refine awp_skip ?_
      show AWp cx _ _ _
      refine rg ?_
      refine qv m_mv ?_
      refine qv m_add ?_
      refine qv m_as ?_
      exact ⟨j + 1, hj, (by simp only; omega), (tl [(2, 2), (5, 5)] (hF := by simp [FLe, svLe, lk, mkM, isLive, tauL, hsn]) (hM := by simp [MLe, blkLe, svLe, svLes, lk, mkM, isLive, tauL, svLes_ints, svLes_self, isDvs, isDvs_map, isDvs_app, isDvs_take, isDvs_set, isDvs_repl, hsn]))⟩
  · try simp at hc0
    refine awp_exit ?_
    show AWp cx _ _ _
    refine awp_seq ?_
    refine rg ?_
    refine qv m_mv ?_
    refine qv m_as ?_
    show AWp cx _ _ _
    refine awp_ret ?_
    obtain rfl : j = n.r * n.c := by omega
    exact x1 (hr := (rR_))

theorem f63 (n : Mn) (ok : n.Ok) (w k : Nat) (hw : w < 68719476736) (hk : k < n.r * n.c) : ACallsF Tryd.prog 63 [dMn n, i64 (w : Int), i64 (k : Int)] (.one (.dv (i64 (cntR n w k : Int)))) := by
  have hN := ok.N2
  have hbl := nb_len (n := n) (k := k)
  refine callsF_of Tryd.func63 rfl rfl (by rw [Tryd.ntmps63]; simp) fun cx hP hn hg => ?_
  rw [Tryd.ntmps63] at hn
  rw [startF_lk, none_mkM]
  simp only [List.nil_append, List.append_nil, List.cons_append, zipSV, Nat.reduceAdd]
  refine awp_seq ?_
  refine rg ?_
  refine qp m_box ?_
  refine qv m_as ?_
  show AWp cx _ _ _
  refine awp_seq ?_
  refine rg ?_
  refine qv (m_ldpa sz23 ag23) ?_
  refine qv m_mv ?_
  refine qqF (f67 n ok k hk) ?_
  refine qv m_as ?_
  show AWp cx _ _ _
  refine awp_seq ?_
  refine rg ?_
  refine qv m_as ?_
  show AWp cx _ _ _
  refine awp_seq ?_
  refine awp_seq ?_
  refine rg ?_
  refine qv m_as ?_
  show AWp cx _ _ _
  refine awp_block ?_
  refine awp_loop (ι := Nat) (fun i => ⟨lk [(1, .dv (i64 ((w : Int)))), (7, .sl 12 0 0 (ns (nbL n k)).length), (8, .dv (i64 (((nbL n k).take i).countP (fun j => w.testBit j) : Nat))), (9, .dv (i64 (i : Nat)))], mkM [(12, 0, some (rowI (ns (nbL n k))))]⟩) (fun i => i ≤ (nbL n k).length) (fun i => (nbL n k).length - i) 0 (by simp) (tl [(12, 12)]) ?_
  intro i hφ0
  have hcl : ((nbL n k).take i).countP (fun j => w.testBit j) ≤ 36 := Nat.le_trans List.countP_le_length (by simp; omega)
  refine awp_seq ?_
  refine awp_seq ?_
  refine rg ?_
  refine qv m_mv ?_
  refine qv m_mv ?_
  refine qv (m_lenR il32) ?_
  refine qv m_lss ?_
  show AWp cx _ _ _
  refine cd (fun hc0 => ?_) (fun hc0 => ?_)
  · try simp at hc0
    refine awp_skip ?_
    show AWp cx _ _ _
    refine awp_seq ?_
    refine awp_block ?_
    refine awp_seq ?_
    refine rg ?_
    refine qv m_mv ?_
    refine qv m_mv ?_
    refine qv m_mv ?_
    have hi : i < (nbL n k).length := by rw [ns_len] at *; omega
    have hgi := ns_get hi
    have hkm : (nbL n k)[i] ∈ nbL n k := List.getElem_mem hi
    have hkl := nb_lt hkm
    have hct := countP_snoc (p := fun j => w.testBit j) hi
    refine qv (m_ixR el32 sz3) ?_
    first | refine qv (m_ldI sz3 ag3) ?_ | refine qv (m_ldp sz3 ag3) ?_
    refine qqF (f36 w (nbL n k)[i] hw (by omega)) ?_
    show AWp cx _ _ _
    refine cd (fun hc1 => ?_) (fun hc1 => ?_)
    · try simp at hc1
      rw [hc1] at hct
      simp only [if_true] at hct
      refine rg ?_
      refine qv m_mv ?_
      refine qv m_add ?_
      refine qv m_as ?_
      show AWp cx _ _ _
      refine rg ?_
      refine qv m_mv ?_
      refine qv m_add ?_
      refine qv m_as ?_
      exact ⟨i + 1, hi, (by simp only; omega), (tl [(12, 12)] (hF := by simp [FLe, svLe, lk, mkM, isLive, tauL, hct]) (hM := by simp [MLe, blkLe, svLe, svLes, lk, mkM, isLive, tauL, svLes_ints, svLes_self, isDvs, isDvs_map, isDvs_app, isDvs_take, isDvs_set, isDvs_repl, hct]))⟩
    · try simp at hc1
      rw [hc1] at hct
      simp only [Bool.false_eq_true, if_false, Nat.add_zero] at hct
      refine awp_skip ?_
      show AWp cx _ _ _
      refine rg ?_
      refine qv m_mv ?_
      refine qv m_add ?_
      refine qv m_as ?_
      exact ⟨i + 1, hi, (by simp only; omega), (tl [(12, 12)] (hF := by simp [FLe, svLe, lk, mkM, isLive, tauL, hct]) (hM := by simp [MLe, blkLe, svLe, svLes, lk, mkM, isLive, tauL, svLes_ints, svLes_self, isDvs, isDvs_map, isDvs_app, isDvs_take, isDvs_set, isDvs_repl, hct]))⟩
  · try simp at hc0
    refine awp_exit ?_
    show AWp cx _ _ _
    refine awp_seq ?_
    refine rg ?_
    refine qv m_mv ?_
    refine qv m_as ?_
    show AWp cx _ _ _
    refine awp_ret ?_
    have e2 : (nbL n k).take i = nbL n k := List.take_of_length_le (by rw [ns_len] at *; omega)
    rw [e2]
    exact x1 (hr := (rI_))

theorem f69 (n : Mn) (ok : n.Ok) (w : Nat) (hw : w < 68719476736) : ACallsF Tryd.prog 69 [dMn n, i64 (w : Int)] (.one (.dv (i64 (stN n w : Int)))) := by
  have hN := ok.N2
  refine callsF_of Tryd.func69 rfl rfl (by rw [Tryd.ntmps69]; simp) fun cx hP hn hg => ?_
  rw [Tryd.ntmps69] at hn
  rw [startF_lk, none_mkM]
  simp only [List.nil_append, List.append_nil, List.cons_append, zipSV, Nat.reduceAdd]
  refine awp_seq ?_
  refine rg ?_
  refine qp m_box ?_
  refine qv m_as ?_
  show AWp cx _ _ _
  refine awp_seq ?_
  refine rg ?_
  refine qv m_mv ?_
  refine qv m_as ?_
  show AWp cx _ _ _
  refine awp_seq ?_
  refine awp_seq ?_
  refine rg ?_
  refine qv m_as ?_
  show AWp cx _ _ _
  refine awp_block ?_
  refine awp_loop (ι := Nat) (fun k => ⟨lk [(1, .dv (i64 ((w : Int)))), (2, .pt 2 0 0), (5, .dv (i64 (w ||| bset (stB n w) k : Nat))), (6, .dv (i64 (k : Nat)))], mkM [(2, 0, some ⟨[.dv (i64 (n.r)), .dv (i64 (n.c)), .dv (i64 (n.nd))], 0, 23, 0, false⟩)]⟩) (fun k => k ≤ n.r * n.c) (fun k => n.r * n.c - k) 0 (by simp) (tl [(2, 2)] (hF := by simp [FLe, svLe, lk, mkM, isLive, tauL, bset]) (hM := by simp [MLe, blkLe, svLe, svLes, lk, mkM, isLive, tauL, svLes_ints, svLes_self, isDvs, isDvs_map, isDvs_app, isDvs_take, isDvs_set, isDvs_repl, bset])) ?_
  intro k hφ0
  have hb36 := bset_lt36 (p := stB n w) (k := k) (by omega)
  refine awp_seq ?_
  refine awp_seq ?_
  refine rg ?_
  refine qv m_mv ?_
  refine qv (m_ldpa sz23 ag23) ?_
  refine qqF (f62 n ok) ?_
  refine qv m_lss ?_
  show AWp cx _ _ _
  refine cd (fun hc0 => ?_) (fun hc0 => ?_)
  · try simp at hc0
    refine awp_skip ?_
    show AWp cx _ _ _
    refine awp_seq ?_
    refine awp_block ?_
    refine awp_seq ?_
    refine rd mixed ?_
    have hk : k < n.r * n.c := by omega
    refine zv (m_ldpa sz23 ag23) ?_
    refine zv m_mv ?_
    refine zv m_mv ?_
    refine zqF (R := []) (f63 n ok w k hw hk) ?_
    refine zv (m_fdp fd23_2) ?_
    refine zv (m_ldp sz3 ag3) ?_
    refine zv m_geq ?_
    refine ⟨by rfl, ?_⟩
    show AWp cx _ _ _
    refine cd (fun hc1 => ?_) (fun hc1 => ?_)
    · try simp at hc1
      have hb : w ||| bset (stB n w) (k + 1) = (w ||| bset (stB n w) k) ||| 2 ^ k := by simp [bset, stB, hc1, Nat.or_assoc]
      refine rg ?_
      refine qv m_mv ?_
      refine qv m_mv ?_
      refine qv (m_cnvU kd3 kd41) ?_
      refine qv (m_shlS k) ?_
      refine qv m_orS ?_
      refine qv m_as ?_
      show AWp cx _ _ _
      refine rg ?_
      refine qv m_mv ?_
      refine qv m_add ?_
      refine qv m_as ?_
      exact ⟨k + 1, hk, (by simp only; omega), (tl [(2, 2)] (hF := by simp [FLe, svLe, lk, mkM, isLive, tauL, hb]) (hM := by simp [MLe, blkLe, svLe, svLes, lk, mkM, isLive, tauL, svLes_ints, svLes_self, isDvs, isDvs_map, isDvs_app, isDvs_take, isDvs_set, isDvs_repl, hb]))⟩
    · try simp at hc1
      have hr : stB n w k = false := by simp [stB]; omega
      have hb : w ||| bset (stB n w) (k + 1) = w ||| bset (stB n w) k := by simp [bset, hr]
      refine awp_skip ?_
      show AWp cx _ _ _
      refine rg ?_
      refine qv m_mv ?_
      refine qv m_add ?_
      refine qv m_as ?_
      exact ⟨k + 1, hk, (by simp only; omega), (tl [(2, 2)] (hF := by simp [FLe, svLe, lk, mkM, isLive, tauL, hb]) (hM := by simp [MLe, blkLe, svLe, svLes, lk, mkM, isLive, tauL, svLes_ints, svLes_self, isDvs, isDvs_map, isDvs_app, isDvs_take, isDvs_set, isDvs_repl, hb]))⟩
  · try simp at hc0
    refine awp_exit ?_
    show AWp cx _ _ _
    refine awp_seq ?_
    refine rg ?_
    refine qv m_mv ?_
    refine qv m_as ?_
    show AWp cx _ _ _
    refine awp_ret ?_
    obtain rfl : k = n.r * n.c := by omega
    exact x1 (hr := (rI_))

theorem rd_sub {n : Mn} {w : Nat} (h : w ||| rdN n w = w) : rdN n w = 0 := by
  rcases Nat.eq_zero_or_pos (rdN n w) with h0 | h0
  · exact h0
  · obtain ⟨i, hi⟩ := Nat.exists_testBit_of_ne_zero (by omega : rdN n w ≠ 0)
    have h1 := rd_dry hi
    have h2 := congrArg (fun x => x.testBit i) h
    simp only [Nat.testBit_or, hi, h1] at h2
    cases h2

theorem f70 (n : Mn) (ok : n.Ok) (w0 : Nat) (hw0 : w0 < 68719476736) : ACallsF Tryd.prog 70 [dMn n, i64 (w0 : Int)] (.many [.dv (i64 ((spr n w0).1 : Int)), .dv (i64 ((spr n w0).2 : Int))]) := by
  have hN := ok.N2
  have hb0 := spr_lt ok _ w0 (Nat.le_refl _) hw0
  have hd0 := dryC_le (n := n) (w := w0)
  refine callsF_of Tryd.func70 rfl rfl (by rw [Tryd.ntmps70]; simp) fun cx hP hn hg => ?_
  rw [Tryd.ntmps70] at hn
  rw [startF_lk, none_mkM]
  simp only [List.nil_append, List.append_nil, List.cons_append, zipSV, Nat.reduceAdd]
  refine awp_seq ?_
  refine rg ?_
  refine qp m_box ?_
  refine qv m_as ?_
  refine qv m_as ?_
  show AWp cx _ _ _
  refine awp_seq ?_
  refine rg ?_
  refine qv m_as ?_
  show AWp cx _ _ _
  refine awp_seq ?_
  refine awp_block ?_
  refine awp_loop (ι := Nat × Nat) (fun q => ⟨lk [(1, .dv (i64 (q.1 : Nat))), (2, .pt 2 0 0), (6, .dv (i64 (q.2 : Nat)))], mkM [(2, 0, some ⟨[.dv (i64 (n.r)), .dv (i64 (n.c)), .dv (i64 (n.nd))], 0, 23, 0, false⟩)]⟩) (fun q => q.1 < 68719476736 ∧ spr n w0 = ((spr n q.1).1, (spr n q.1).2 + q.2)) (fun q => dryC n q.1) (w0, 0) ⟨hw0, rfl⟩ (tl [(2, 2)]) ?_
  intro q hφ0
  obtain ⟨hq1, hq2⟩ := hφ0
  have hst := stN_eq ok q.1
  refine awp_seq ?_
  refine awp_seq ?_
  refine rg ?_
  refine qv (m_ldpa sz23 ag23) ?_
  refine qv m_mv ?_
  refine qqF (f69 n ok q.1 hq1) ?_
  refine qv m_mv ?_
  refine qv m_neq ?_
  show AWp cx _ _ _
  refine cd (fun hc0 => ?_) (fun hc0 => ?_)
  · skip
    have h0 : rdN n q.1 ≠ 0 := by
      intro h0
      rw [hst, h0] at hc0
      simp at hc0
    have hq3 := congrArg Prod.snd hq2
    rw [spr_step h0] at hq3
    simp only at hq3
    refine awp_skip ?_
    show AWp cx _ _ _
    refine awp_block ?_
    refine awp_seq ?_
    refine rg ?_
    refine qv (m_ldpa sz23 ag23) ?_
    refine qv m_mv ?_
    refine qqF (f69 n ok q.1 hq1) ?_
    refine qv m_as ?_
    show AWp cx _ _ _
    refine rg ?_
    refine qv m_mv ?_
    refine qv (m_addN (b := 1) (ha := by omega)) ?_
    refine qv m_as ?_
    exact ⟨(q.1 ||| rdN n q.1, q.2 + 1), ⟨or36 hq1 (rdN_lt ok), by rw [hq2, spr_step h0]; simp only [Prod.mk.injEq, true_and]; omega⟩, dryC_lt h0, (tl [(2, 2)] (hF := by simp [FLe, svLe, lk, mkM, isLive, tauL, hst]) (hM := by simp [MLe, blkLe, svLe, svLes, lk, mkM, isLive, tauL, svLes_ints, svLes_self, isDvs, isDvs_map, isDvs_app, isDvs_take, isDvs_set, isDvs_repl, hst]))⟩
  · skip
    have h0 : rdN n q.1 = 0 := by
      rw [hst] at hc0
      have hc0' := hc0
      simp only [bne_eq_false_iff_eq] at hc0'
      exact rd_sub (by omega)
    rw [spr_zero h0] at hq2
    refine awp_exit ?_
    show AWp cx _ _ _
    refine awp_seq ?_
    refine rg ?_
    refine qv m_mv ?_
    refine qv m_mv ?_
    refine qv m_as ?_
    refine qv m_as ?_
    show AWp cx _ _ _
    refine awp_ret ?_
    exact x2 (hr := (rI_ (by rw [hq2]))) (hr' := (rI_ (by rw [hq2]; simp)))

theorem f28 (m : Mw) (w : Int) : ACallsF Tryd.prog 28 [dMw m, i64 w] (.many [.dv (i64 (onWet m w 0 fun n v => ((spr n v).1 : Int))), .dv (i64 (onWet m w 0 fun n v => ((spr n v).2 : Int))), .dv (i64 (wetE m w))]) := by
  refine callsF_of Tryd.func28 rfl rfl (by rw [Tryd.ntmps28]; simp) fun cx hP hn hg => ?_
  rw [Tryd.ntmps28] at hn
  rw [startF_lk, none_mkM]
  simp only [List.nil_append, List.append_nil, List.cons_append, zipSV, Nat.reduceAdd]
  refine awp_seq ?_
  refine rg ?_
  refine qp m_box ?_
  refine qv m_as ?_
  refine qv m_as ?_
  refine qv m_as ?_
  show AWp cx _ _ _
  refine awp_seq ?_
  refine rg ?_
  refine qv (m_ldpa sz23 ag23) ?_
  refine qv m_mv ?_
  refine qqF (f61 m w) ?_
  refine qv m_as ?_
  show AWp cx _ _ _
  refine awp_seq ?_
  refine awp_seq ?_
  refine rg ?_
  refine qv m_mv ?_
  refine qv m_neq ?_
  show AWp cx _ _ _
  refine cd (fun hc0 => ?_) (fun hc0 => ?_)
  · skip
    have hne : ¬ wetE m w = 0 := by simpa using hc0
    refine awp_seq ?_
    refine rg ?_
    refine qv m_mv ?_
    refine qv m_as ?_
    refine qv m_as ?_
    refine qv m_as ?_
    show AWp cx _ _ _
    refine awp_ret ?_
    exact x3 (hr := (rI_ (by rw [onWet_no hne]))) (hr' := (rI_ (by rw [onWet_no hne]))) (hr'' := (rI_))
  · skip
    have he : wetE m w = 0 := by simpa using hc0
    obtain ⟨n, v, ok, rfl, rfl, hv⟩ := wetE_ok he
    have hv36 := le36 ok hv
    have hwe := wetE_v ok hv
    refine awp_skip ?_
    show AWp cx _ _ _
    refine awp_seq ?_
    refine rg ?_
    refine qv (m_ldpa sz23 ag23) ?_
    refine qv m_mv ?_
    refine qqF (f70 n ok v hv36) ?_
    refine qv m_mv ?_
    refine qv m_ext ?_
    refine qv m_ext ?_
    refine qv m_as ?_
    refine qv m_as ?_
    show AWp cx _ _ _
    refine awp_seq ?_
    refine rg ?_
    refine qv m_mv ?_
    refine qv m_mv ?_
    refine qv m_as ?_
    refine qv m_as ?_
    refine qv m_as ?_
    show AWp cx _ _ _
    refine awp_ret ?_
    exact x3 (hr := (rI_ (by rw [onWet_ok ok hv]))) (hr' := (rI_ (by rw [onWet_ok ok hv]))) (hr'' := (rI_ (by rw [hwe])))

theorem f27 (m : Mw) (w : Int) : ACallsF Tryd.prog 27 [dMw m, i64 w] (.many [.dv (i64 (onWet m w 0 fun n v => ((v ||| rdN n v : Nat) : Int))), .dv (i64 (wetE m w))]) := by
  refine callsF_of Tryd.func27 rfl rfl (by rw [Tryd.ntmps27]; simp) fun cx hP hn hg => ?_
  rw [Tryd.ntmps27] at hn
  rw [startF_lk, none_mkM]
  simp only [List.nil_append, List.append_nil, List.cons_append, zipSV, Nat.reduceAdd]
  refine awp_seq ?_
  refine rg ?_
  refine qp m_box ?_
  refine qv m_as ?_
  refine qv m_as ?_
  show AWp cx _ _ _
  refine awp_seq ?_
  refine rg ?_
  refine qv (m_ldpa sz23 ag23) ?_
  refine qv m_mv ?_
  refine qqF (f61 m w) ?_
  refine qv m_as ?_
  show AWp cx _ _ _
  refine awp_seq ?_
  refine awp_seq ?_
  refine rg ?_
  refine qv m_mv ?_
  refine qv m_neq ?_
  show AWp cx _ _ _
  refine cd (fun hc0 => ?_) (fun hc0 => ?_)
  · skip
    have hne : ¬ wetE m w = 0 := by simpa using hc0
    refine awp_seq ?_
    refine rg ?_
    refine qv m_mv ?_
    refine qv m_as ?_
    refine qv m_as ?_
    show AWp cx _ _ _
    refine awp_ret ?_
    exact x2 (hr := (rI_ (by rw [onWet_no hne]))) (hr' := (rI_))
  · skip
    have he : wetE m w = 0 := by simpa using hc0
    obtain ⟨n, v, ok, rfl, rfl, hv⟩ := wetE_ok he
    have hv36 := le36 ok hv
    have hwe := wetE_v ok hv
    refine awp_skip ?_
    show AWp cx _ _ _
    refine awp_seq ?_
    refine rg ?_
    refine qv (m_ldpa sz23 ag23) ?_
    refine qv m_mv ?_
    refine qqF (f69 n ok v hv36) ?_
    refine qv m_as ?_
    refine qv m_as ?_
    show AWp cx _ _ _
    refine awp_ret ?_
    exact x2 (hr := (rI_ (by rw [onWet_ok ok hv, stN_eq ok]))) (hr' := (rI_ (by rw [hwe])))

theorem f23 (m : Mw) (s : Int) : ACallsF Tryd.prog 23 [dMw m, i64 s] (.many [rI (if validB m && fromB s 0 (m.rows * m.cols - 1) then ns (bl (arN (toMn m) s.toNat)) else []), .dv (i64 (if validB m then if fromB s 0 (m.rows * m.cols - 1) then 0 else 4 else 1))]) := by
  refine callsF_of Tryd.func23 rfl rfl (by rw [Tryd.ntmps23]; simp) fun cx hP hn hg => ?_
  rw [Tryd.ntmps23] at hn
  rw [startF_lk, none_mkM]
  simp only [List.nil_append, List.append_nil, List.cons_append, zipSV, Nat.reduceAdd]
  refine awp_seq ?_
  refine rg ?_
  refine qp m_box ?_
  refine qv m_as ?_
  refine qv m_as ?_
  show AWp cx _ _ _
  refine awp_seq ?_
  refine rg ?_
  refine qv (m_ldpa sz23 ag23) ?_
  refine qqF (f25 m) ?_
  refine qv m_as ?_
  show AWp cx _ _ _
  refine awp_seq ?_
  refine awp_seq ?_
  refine rg ?_
  refine qv m_mv ?_
  refine qv m_neq ?_
  show AWp cx _ _ _
  refine cd (fun hc0 => ?_) (fun hc0 => ?_)
  · skip
    have hv : validB m = false := by simpa [valid] using hc0
    refine awp_seq ?_
    refine rg ?_
    refine qv m_mv ?_
    refine qv m_as ?_
    refine qv m_as ?_
    show AWp cx _ _ _
    refine awp_ret ?_
    exact x2 (hr := (rN_ (by simp [hv]))) (hr' := (rI_ (by simp [hv, valid])))
  · skip
    have hv : validB m = true := by simpa [valid] using hc0
    obtain ⟨n, ok, rfl⟩ := valid_n hv
    have e : (n.w.rows * n.w.cols - 1) = ((n.r * n.c : Nat) : Int) - 1 := by simp
    have hN := ok.N2
    refine awp_skip ?_
    show AWp cx _ _ _
    refine awp_seq ?_
    refine awp_seq ?_
    refine rg ?_
    refine qv m_mv ?_
    refine qv (m_ldpa sz23 ag23) ?_
    refine qqF (f62 n ok) ?_
    refine qv m_sub ?_
    refine qqF (f66 s 0 ((n.r * n.c : Nat) - 1)) ?_
    refine qv m_not ?_
    show AWp cx _ _ _
    refine cd (fun hc1 => ?_) (fun hc1 => ?_)
    · skip
      have hs : fromB s 0 ((n.r * n.c : Nat) - 1) = false := by simpa using hc1
      refine awp_seq ?_
      refine rg ?_
      refine qv m_as ?_
      refine qv m_as ?_
      show AWp cx _ _ _
      refine awp_ret ?_
      rw [e]
      simp only [hv, hs, Bool.and_false, Bool.false_eq_true, if_true, if_false]
      exact x2 (hr := (rN_)) (hr' := (rI_))
    · skip
      have hs : fromB s 0 ((n.r * n.c : Nat) - 1) = true := by simpa using hc1
      obtain ⟨k, hk, rfl⟩ : ∃ k : Nat, k < n.r * n.c ∧ s = (k : Int) := by
        simp only [fromB, Bool.and_eq_true, decide_eq_true_eq] at hs
        exact ⟨s.toNat, by omega, by omega⟩
      refine awp_skip ?_
      show AWp cx _ _ _
      refine awp_seq ?_
      refine rg ?_
      refine qv (m_ldpa sz23 ag23) ?_
      refine qv m_mv ?_
      refine qqF (f67 n ok k hk) ?_
      refine qv m_as ?_
      refine qv m_as ?_
      show AWp cx _ _ _
      refine awp_ret ?_
      rw [e]
      simp only [hv, hs, Bool.and_self, if_true, toMn_w, Int.toNat_natCast, bl_arN ok hk]
      exact x2 (hr := (rR_)) (hr' := (rI_))

end Go.Ab.Tryd
