/- Moss1, Moss2, Moss3. -/
import Derived.Test.YtjipgkhfbfpacaaDoorMossIt
import Derived.Test.YtjipgkhfbfpacaaDoorMossFacts
import Derived.Test.YtjipgkhfbfpacaaDoorMossD
set_option linter.all false
namespace Go.Ab.Tryd
open Go Go.Ab Go.Proofs Go.Ab.Moss
theorem f68 (n lo hi : Int) : ACallsF Tryd.prog 68 [i64 n, i64 lo, i64 hi] (.one (.dv (.bool (fromB n lo hi)))) := by
  refine callsF_of Tryd.func68 rfl rfl (by rw [Tryd.ntmps68]; simp) fun cx hP hn hg => ?_
  rw [Tryd.ntmps68] at hn
  rw [startF_lk, none_mkM]
  simp only [List.nil_append, List.append_nil, List.cons_append, zipSV, Nat.reduceAdd]
  refine awp_seq ?_
  refine rg ?_
  refine qv m_as ?_
  show AWp cx _ _ _
  refine awp_seq ?_
  refine rg ?_
  refine qv m_mv ?_
  refine qv m_mv ?_
  refine qv m_leq ?_
  refine qx m_mv (fun hg10 => ?_) (fun hg10 => ?_)
  · try simp at hg10
    refine qv m_mv ?_
    refine qv m_mv ?_
    refine qv m_leq ?_
    refine qv m_pk ?_
    refine qv m_as ?_
    show AWp cx _ _ _
    refine awp_ret ?_
    exact x1 (hr := (rB_ (by first | (simp_all [fromB]; done) | (simp_all [fromB]; omega))))
  · try simp at hg10
    refine qk ?_
    refine qk ?_
    refine qk ?_
    refine qv m_pk ?_
    refine qv m_as ?_
    show AWp cx _ _ _
    refine awp_ret ?_
    exact x1 (hr := (rB_ (by first | (simp_all [fromB]; done) | (simp_all [fromB]; omega))))
theorem f66 (n lo hi : Int) : ACallsF Tryd.prog 66 [i64 n, i64 lo, i64 hi] (.one (.dv (.bool (fromB n lo hi)))) := by
  refine callsF_of Tryd.func66 rfl rfl (by rw [Tryd.ntmps66]; simp) fun cx hP hn hg => ?_
  rw [Tryd.ntmps66] at hn
  rw [startF_lk, none_mkM]
  simp only [List.nil_append, List.append_nil, List.cons_append, zipSV, Nat.reduceAdd]
  refine awp_seq ?_
  refine rg ?_
  refine qv m_as ?_
  show AWp cx _ _ _
  refine awp_seq ?_
  refine rg ?_
  refine qv m_mv ?_
  refine qv m_mv ?_
  refine qv m_geq ?_
  refine qx m_mv (fun hg10 => ?_) (fun hg10 => ?_)
  · try simp at hg10
    refine qv m_mv ?_
    refine qv m_mv ?_
    refine qv m_leq ?_
    refine qv m_pk ?_
    refine qv m_as ?_
    show AWp cx _ _ _
    refine awp_ret ?_
    exact x1 (hr := (rB_ (by first | (simp_all [fromB]; done) | (simp_all [fromB]; omega))))
  · try simp at hg10
    refine qk ?_
    refine qk ?_
    refine qk ?_
    refine qv m_pk ?_
    refine qv m_as ?_
    show AWp cx _ _ _
    refine awp_ret ?_
    exact x1 (hr := (rB_ (by first | (simp_all [fromB]; done) | (simp_all [fromB]; omega))))
theorem f77 (s k : Nat) (hs : s < 68719476736) (hk : k ≤ 62) : ACallsF Tryd.prog 77 [i64 (s : Int), i64 (k : Int)] (.one (.dv (.bool (s.testBit k)))) := by
  refine callsF_of Tryd.func77 rfl rfl (by rw [Tryd.ntmps77]; simp) fun cx hP hn hg => ?_
  rw [Tryd.ntmps77] at hn
  rw [startF_lk, none_mkM]
  simp only [List.nil_append, List.append_nil, List.cons_append, zipSV, Nat.reduceAdd]
  refine awp_seq ?_
  refine rg ?_
  refine qv m_as ?_
  show AWp cx _ _ _
  refine awp_seq ?_
  refine rg ?_
  refine qv m_mv ?_
  refine qv m_mv ?_
  refine qv (m_shrS k) ?_
  refine qv (m_and1 (a := s / 2 ^ k) (Nat.lt_of_le_of_lt (Nat.div_le_self _ _) (by omega))) ?_
  refine qv m_eql ?_
  refine qv m_as ?_
  show AWp cx _ _ _
  refine awp_ret ?_
  exact x1 (hr := (rB_ (by rw [Nat.testBit_eq_decide_div_mod_eq]; generalize s / 2 ^ k = q; rw [Bool.eq_iff_iff]; simp; omega)))
theorem f36 (s k : Nat) (hs : s < 68719476736) (hk : k ≤ 62) : ACallsF Tryd.prog 36 [i64 (s : Int), i64 (k : Int)] (.one (.dv (.bool (s.testBit k)))) := by
  refine callsF_of Tryd.func36 rfl rfl (by rw [Tryd.ntmps36]; simp) fun cx hP hn hg => ?_
  rw [Tryd.ntmps36] at hn
  rw [startF_lk, none_mkM]
  simp only [List.nil_append, List.append_nil, List.cons_append, zipSV, Nat.reduceAdd]
  refine awp_seq ?_
  refine rg ?_
  refine qv m_as ?_
  show AWp cx _ _ _
  refine awp_seq ?_
  refine rg ?_
  refine qv m_mv ?_
  refine qv m_mv ?_
  refine qv (m_cnvU kd3 kd41) ?_
  refine qv (m_shrS k) ?_
  refine qv (m_and1 (a := s / 2 ^ k) (Nat.lt_of_le_of_lt (Nat.div_le_self _ _) (by omega))) ?_
  refine qv m_eql ?_
  refine qv m_as ?_
  show AWp cx _ _ _
  refine awp_ret ?_
  exact x1 (hr := (rB_ (by rw [Nat.testBit_eq_decide_div_mod_eq]; generalize s / 2 ^ k = q; rw [Bool.eq_iff_iff]; simp; omega)))
theorem f94 (x : Nat) (hx : x < 18446744073709551616) : ACallsF Tryd.prog 94 [u64 (x : Int)] (.one (.dv (i64 (popc x : Int)))) := by
  obtain ⟨h1, h2, h3, h4⟩ := trick_steps x hx
  unfold trick at h4
  simp only at h4
  obtain ⟨A, hA⟩ : ∃ A, S1 6148914691236517205 x = A := ⟨_, rfl⟩
  rw [hA] at h1 h2 h3 h4
  obtain ⟨B, hB⟩ : ∃ B, S2 3689348814741910323 A = B := ⟨_, rfl⟩
  rw [hB] at h2 h3 h4
  obtain ⟨C, hC⟩ : ∃ C, S3 1085102592571150095 B = C := ⟨_, rfl⟩
  rw [hC] at h3 h4
  obtain ⟨D, hD⟩ : ∃ D, C + C / 256 = D := ⟨_, rfl⟩
  rw [hD] at h4
  obtain ⟨E, hE⟩ : ∃ E, D + D / 65536 = E := ⟨_, rfl⟩
  rw [hE] at h4
  obtain ⟨G, hG⟩ : ∃ G, E + E / 4294967296 = G := ⟨_, rfl⟩
  rw [hG] at h4
  have e1 : (x / 2 ^ 1 &&& 6148914691236517205) + (x &&& 6148914691236517205) = A := hA
  have e2 : (A / 2 ^ 2 &&& 3689348814741910323) + (A &&& 3689348814741910323) = B := hB
  have e3 : (B / 2 ^ 4 + B) &&& 1085102592571150095 = C := by rw [Nat.add_comm]; exact hC
  have e4 : C + C / 2 ^ 8 = D := hD
  have e5 : D + D / 2 ^ 16 = E := hE
  have e6 : E + E / 2 ^ 32 = G := hG
  have e7 : G &&& 127 = popc x := by rw [← h4]; exact Nat.and_two_pow_sub_one_eq_mod G 7
  refine callsF_of Tryd.func94 rfl rfl (by rw [Tryd.ntmps94]; simp) fun cx hP hn hg => ?_
  rw [Tryd.ntmps94] at hn
  rw [startF_lk, none_mkM]
  simp only [List.nil_append, List.append_nil, List.cons_append, zipSV, Nat.reduceAdd]
  refine awp_seq ?_
  refine rg ?_
  refine qv m_as ?_
  show AWp cx _ _ _
  refine awp_seq ?_
  refine rg ?_
  refine qv m_mv ?_
  refine qv (m_shrU (b := 1)) ?_
  refine qv (m_andU (b := 6148914691236517205)) ?_
  refine qv m_mv ?_
  refine qv (m_andU (b := 6148914691236517205)) ?_
  refine qv (m_addU (h := by rw [e1]; exact h1)) ?_
  refine qv m_as ?_
  show AWp cx _ _ _
  refine awp_seq ?_
  rw [e1]
  refine rg ?_
  skip
  refine qv m_mv ?_
  refine qv (m_shrU (b := 2)) ?_
  refine qv (m_andU (b := 3689348814741910323)) ?_
  refine qv m_mv ?_
  refine qv (m_andU (b := 3689348814741910323)) ?_
  refine qv (m_addU (h := by rw [e2]; omega)) ?_
  refine qv m_as ?_
  show AWp cx _ _ _
  refine awp_seq ?_
  rw [e2]
  refine rg ?_
  refine qv m_mv ?_
  refine qv (m_shrU (b := 4)) ?_
  refine qv m_mv ?_
  refine qv m_addU ?_
  refine qv (m_andU (b := 1085102592571150095)) ?_
  refine qv m_as ?_
  show AWp cx _ _ _
  refine awp_seq ?_
  rw [e3]
  refine rg ?_
  refine qv m_mv ?_
  refine qv m_mv ?_
  refine qv (m_shrU (b := 8)) ?_
  refine qv m_addU ?_
  refine qv m_as ?_
  show AWp cx _ _ _
  refine awp_seq ?_
  rw [e4]
  refine rg ?_
  refine qv m_mv ?_
  refine qv m_mv ?_
  refine qv (m_shrU (b := 16)) ?_
  refine qv m_addU ?_
  refine qv m_as ?_
  show AWp cx _ _ _
  refine awp_seq ?_
  rw [e5]
  refine rg ?_
  refine qv m_mv ?_
  refine qv m_mv ?_
  refine qv (m_shrU (b := 32)) ?_
  refine qv m_addU ?_
  refine qv m_as ?_
  show AWp cx _ _ _
  refine awp_seq ?_
  rw [e6]
  refine rg ?_
  refine qv m_mv ?_
  refine qv (m_cnvI kd67 kd3) ?_
  refine qv (m_andW (b := 127)) ?_
  refine qv m_as ?_
  show AWp cx _ _ _
  refine awp_ret ?_
  rw [e7]
  exact x1 (hr := (rI_))
end Go.Ab.Tryd
set_option linter.all false
namespace Go.Ab.Tryd
open Go Go.Ab Go.Proofs Go.Ab.Moss
theorem deBruijn_get {t : Nat} (ht : t < 64) : (deBruijnI.map (Value.int .u8))[tzIx (2 ^ t)]? = some (DV.int .u8 (t : Int)).val := by
  have h := (deBruijn_ok t ht).2
  have e : deBruijnI = deBruijn.map fun n : Nat => (n : Int) := by decide
  rw [e, List.map_map, List.getElem?_map, h]
  rfl
theorem ty89 : Tryd.prog.underlying 89 = some (.array 64 5) := by kernel_rfl
theorem full_add {n : Mn} : full n + 1 = 2 ^ (n.r * n.c) := by
  have := Nat.two_pow_pos (n.r * n.c)
  unfold full; omega
theorem f74 (x : Nat) (hx : x < 18446744073709551616) (h0 : x ≠ 0) : ACallsF Tryd.prog 74 [u64 (x : Int)] (.one (.dv (i64 (tz x : Int)))) := by
  obtain ⟨t1, t2, t3⟩ := tz_spec h0 hx
  have hneg := and_neg h0 hx
  obtain ⟨d1, d2⟩ := deBruijn_ok _ t1
  refine callsF_of Tryd.func74 rfl rfl (by rw [Tryd.ntmps74]; simp) fun cx hP hn hg => ?_
  rw [Tryd.ntmps74] at hn
  rw [startF_lk, none_mkM]
  simp only [List.nil_append, List.append_nil, List.cons_append, zipSV, Nat.reduceAdd]
  refine awp_seq ?_
  refine rg ?_
  refine qv m_as ?_
  show AWp cx _ _ _
  refine awp_seq ?_
  refine awp_seq ?_
  refine rg ?_
  refine qv m_mv ?_
  refine qv m_eql ?_
  show AWp cx _ _ _
  refine cdF (hb := by simp; omega) (ht := ?_)
  refine awp_skip ?_
  show AWp cx _ _ _
  refine awp_seq ?_
  refine rg ?_
  refine qv m_mv ?_
  refine qv m_mv ?_
  refine qv m_negU ?_
  refine qv (m_andU (b := 18446744073709551616 - x)) ?_
  refine qv (m_mulU (b := 285870213051353865) (hx := by simp only [St.look, St.ev, lk, mkM, blkOf, svOf, svOfCell, reduceIte, Nat.reduceAdd, Nat.reduceEqDiff, Nat.reduceMul]; rw [hneg])) ?_
  refine qv (m_shrU (b := 58)) ?_
  refine qgix (k := .u64) (c := .int .u8 (tz x : Int)) (i := tzIx (2 ^ tz x)) ty89 sz5 (by simp [laidTab]) (deBruijn_get t1) rfl d1 (z := ((tzIx (2 ^ tz x) : Nat) : Int)) rfl ?_ (hy := by simp only [St.look, St.ev, lk, mkM, blkOf, svOf, svOfCell, reduceIte, Nat.reduceAdd, Nat.reduceEqDiff, Nat.reduceMul, tzIx])
  refine qv (m_ld sz5 ag5) ?_
  refine qv (m_cnvI kd5 kd3) ?_
  refine qv m_as ?_
  show AWp cx _ _ _
  refine awp_ret ?_
  exact x1 (hr := (rI_))
theorem f59 (x : Nat) (hx : x < 68719476736) : ACallsF Tryd.prog 59 [i64 (x : Int)] (.one (.dv (i64 (popc x : Int)))) := by
  refine callsF_of Tryd.func59 rfl rfl (by rw [Tryd.ntmps59]; simp) fun cx hP hn hg => ?_
  rw [Tryd.ntmps59] at hn
  rw [startF_lk, none_mkM]
  simp only [List.nil_append, List.append_nil, List.cons_append, zipSV, Nat.reduceAdd]
  refine awp_seq ?_
  refine rg ?_
  refine qv m_as ?_
  show AWp cx _ _ _
  refine awp_seq ?_
  refine rg ?_
  refine qv m_mv ?_
  refine qv (m_cnvU kd3 kd67) ?_
  refine qqF (f94 x (by omega)) ?_
  refine qv m_as ?_
  show AWp cx _ _ _
  refine awp_ret ?_
  exact x1 (hr := (rI_))
theorem f78 (n : Mn) (ok : n.Ok) : ACallsF Tryd.prog 78 [dMn n] (.one (.dv (i64 (full n : Int)))) := by
  have hN := ok.N2
  have hf := full_add (n := n)
  have hlt := full_lt ok
  refine callsF_of Tryd.func78 rfl rfl (by rw [Tryd.ntmps78]; simp) fun cx hP hn hg => ?_
  rw [Tryd.ntmps78] at hn
  rw [startF_lk, none_mkM]
  simp only [List.nil_append, List.append_nil, List.cons_append, zipSV, Nat.reduceAdd]
  refine awp_seq ?_
  refine rg ?_
  refine qp m_box ?_
  refine qv m_as ?_
  show AWp cx _ _ _
  refine awp_seq ?_
  refine rg ?_
  refine qv (m_fdp fd23_0) ?_
  refine qv (m_ldp sz3 ag3) ?_
  refine qv (m_fdp fd23_1) ?_
  refine qv (m_ldp sz3 ag3) ?_
  refine qv m_mulN ?_
  refine qv (m_shlS (n.r * n.c)) ?_
  refine qv (m_subN (full n)) ?_
  refine qv m_as ?_
  show AWp cx _ _ _
  refine awp_ret ?_
  exact x1 (hr := (rI_))
end Go.Ab.Tryd
set_option linter.all false
namespace Go.Ab.Tryd
open Go Go.Ab Go.Proofs Go.Ab.Moss
theorem f58 (x : Nat) (hx : x < 68719476736) : ACallsF Tryd.prog 58 [i64 (x : Int)] (.one (rI (ns (bl x)))) := by
  have hx64 : x < 2 ^ 64 := Nat.lt_of_lt_of_le hx (by decide)
  refine callsF_of Tryd.func58 rfl rfl (by rw [Tryd.ntmps58]; simp) fun cx hP hn hg => ?_
  rw [Tryd.ntmps58] at hn
  rw [startF_lk, none_mkM]
  simp only [List.nil_append, List.append_nil, List.cons_append, zipSV, Nat.reduceAdd]
  refine awp_seq ?_
  refine rg ?_
  refine qv m_as ?_
  show AWp cx _ _ _
  refine awp_seq ?_
  refine rg ?_
  refine qv m_as ?_
  show AWp cx _ _ _
  refine awp_seq ?_
  refine awp_block ?_
  have hbl := bl_len (x := x)
  refine awp_loop (ι := Nat) (fun k => ⟨lk [(0, .dv (i64 (rem x k : Int))), (3, .sl 3 0 0 k)], mkM [(3, 0, some (rowI (ns ((bl x).take k))))]⟩) (fun k => k ≤ (bl x).length) (fun k => (bl x).length - k) 0 (by simp) (tl [] (hF := by simp [FLe, svLe, lk, mkM, isLive, tauL, rem, ns]) (hM := by simp [MLe, blkLe, svLe, svLes, lk, mkM, isLive, tauL, svLes_ints, svLes_self, isDvs, isDvs_map, isDvs_app, isDvs_take, isDvs_set, isDvs_repl, rem, ns])) ?_
  intro k hφ0
  have hrl := rem_le x k
  have hrz := rem_zero hx64 (k := k)
  have hnl : (ns ((bl x).take k)).length = k := by rw [ns_len, List.length_take]; omega
  refine awp_seq ?_
  refine awp_seq ?_
  refine rg ?_
  refine qv m_mv ?_
  refine qv m_neq ?_
  show AWp cx _ _ _
  refine cd (fun hc0 => ?_) (fun hc0 => ?_)
  · skip
    have h0 : rem x k ≠ 0 := by intro h; rw [h] at hc0; simp at hc0
    have htk := bl_take hx64 h0
    have hk : k < (bl x).length := by omega
    refine awp_skip ?_
    show AWp cx _ _ _
    refine awp_seq ?_
    refine awp_block ?_
    refine rg ?_
    refine qv m_mv ?_
    refine qv m_mv ?_
    refine qv (m_cnvU kd3 kd67) ?_
    refine qqF (f74 (rem x k) (by omega) h0) ?_
    refine qr (m_bsl el32 ze3 sz3) ?_
    refine qa1 (m_app1 el32 el32 ze3 sz3 by3) ?_
    refine qv m_as ?_
    show AWp cx _ _ _
    refine rg ?_
    refine qv m_mv ?_
    refine qv m_mv ?_
    refine qv (m_subN (rem x k - 1)) ?_
    refine qv (m_andS (a := rem x k) (b := rem x k - 1)) ?_
    refine qv m_as ?_
    exact ⟨k + 1, by omega, (by simp only; omega), (tl [(3, 15)] (hF := by simp [FLe, svLe, lk, mkM, isLive, tauL, htk, rem]) (hM := by simp [MLe, blkLe, svLe, svLes, lk, mkM, isLive, tauL, svLes_ints, svLes_self, isDvs, isDvs_map, isDvs_app, isDvs_take, isDvs_set, isDvs_repl, htk, rem]))⟩
  · skip
    refine awp_exit ?_
    show AWp cx _ _ _
    refine awp_seq ?_
    refine rg ?_
    refine qv m_mv ?_
    refine qv m_as ?_
    show AWp cx _ _ _
    refine awp_ret ?_
    have hz : rem x k = 0 := by simpa using hc0
    have e : (bl x).take k = bl x := List.take_of_length_le (hrz.1 hz)
    rw [e] at hnl ⊢
    exact x1 (hr := (rR_ (hl := hnl.symm)))
theorem f60 (n : Mn) (ok : n.Ok) (k : Nat) (hk : k < n.r * n.c) : ACallsF Tryd.prog 60 [dMn n, i64 (k : Int)] (.one (.dv (i64 (arN n k : Int)))) := by
  have hN := ok.N2
  have hcp := ok.c1
  have hcq := ok.c2
  refine callsF_of Tryd.func60 rfl rfl (by rw [Tryd.ntmps60]; simp) fun cx hP hn hg => ?_
  rw [Tryd.ntmps60] at hn
  rw [startF_lk, none_mkM]
  simp only [List.nil_append, List.append_nil, List.cons_append, zipSV, Nat.reduceAdd]
  refine awp_seq ?_
  refine rg ?_
  refine qp m_box ?_
  refine qv m_as ?_
  show AWp cx _ _ _
  refine awp_seq ?_
  refine rg ?_
  refine qv m_as ?_
  show AWp cx _ _ _
  refine awp_seq ?_
  refine rd mixed ?_
  refine zv m_mv ?_
  refine zv (m_fdp fd23_1) ?_
  refine zv (m_ldp sz3 ag3) ?_
  refine zv m_quoN ?_
  refine zv m_mv ?_
  refine zv (m_fdp fd23_1) ?_
  refine zv (m_ldp sz3 ag3) ?_
  refine zv m_remN ?_
  refine zv m_as ?_
  refine zv m_as ?_
  refine ⟨by rfl, ?_⟩
  show AWp cx _ _ _
  refine awp_seq ?_
  refine awp_seq ?_
  refine rg ?_
  refine qv m_mv ?_
  refine qv m_gtr ?_
  show AWp cx _ _ _
  refine cd (fun hc0 => ?_) (fun hc0 => ?_)
  · simp only [decide_eq_true_eq, decide_eq_false_iff_not] at hc0
    have g0 : 0 < k / n.c := by omega
    have u0 := up_le g0
    refine rg ?_
    refine qv m_mv ?_
    refine qv m_mv ?_
    refine qv (m_fdp fd23_1) ?_
    refine qv (m_ldp sz3 ag3) ?_
    refine qv (m_subN (k - n.c)) ?_
    refine qv (m_shlS (k - n.c)) ?_
    first | refine qv m_orS ?_ | refine qv (m_orS (a := 0)) ?_
    refine qv m_as ?_
    show AWp cx _ _ _
    refine awp_seq ?_
    refine awp_seq ?_
    refine rg ?_
    refine qv m_mv ?_
    refine qv m_gtr ?_
    show AWp cx _ _ _
    refine cd (fun hc1 => ?_) (fun hc1 => ?_)
    · simp only [decide_eq_true_eq, decide_eq_false_iff_not] at hc1
      have g1 : 0 < k % n.c := by omega
      have u1 := left_le g1
      refine rg ?_
      refine qv m_mv ?_
      refine qv m_mv ?_
      refine qv (m_subN (k - 1)) ?_
      refine qv (m_shlS (k - 1)) ?_
      first | refine qv m_orS ?_ | refine qv (m_orS (a := 0)) ?_
      refine qv m_as ?_
      show AWp cx _ _ _
      refine awp_seq ?_
      refine awp_seq ?_
      refine rg ?_
      refine qv m_mv ?_
      refine qv (m_addN (a := k % n.c) (b := 1) (ha := by have := Nat.mod_lt k hcp; omega)) ?_
      refine qv (m_fdp fd23_1) ?_
      refine qv (m_ldp sz3 ag3) ?_
      refine qv m_lss ?_
      show AWp cx _ _ _
      refine cd (fun hc2 => ?_) (fun hc2 => ?_)
      · simp only [decide_eq_true_eq, decide_eq_false_iff_not] at hc2
        have g2 : k % n.c + 1 < n.c := by omega
        have u2 := right_lt hk hcp g2
        refine rg ?_
        refine qv m_mv ?_
        refine qv m_mv ?_
        refine qv (m_addN (b := 1)) ?_
        refine qv (m_shlS (k + 1)) ?_
        first | refine qv m_orS ?_ | refine qv (m_orS (a := 0)) ?_
        refine qv m_as ?_
        show AWp cx _ _ _
        refine awp_seq ?_
        refine awp_seq ?_
        refine rg ?_
        refine qv m_mv ?_
        refine qv (m_addN (a := k / n.c) (b := 1) (ha := by have := row_lt hk hcp; have := ok.r2; omega)) ?_
        refine qv (m_fdp fd23_0) ?_
        refine qv (m_ldp sz3 ag3) ?_
        refine qv m_lss ?_
        show AWp cx _ _ _
        refine cd (fun hc3 => ?_) (fun hc3 => ?_)
        · simp only [decide_eq_true_eq, decide_eq_false_iff_not] at hc3
          have g3 : k / n.c + 1 < n.r := by omega
          have u3 := down_lt hcp g3
          refine rg ?_
          refine qv m_mv ?_
          refine qv m_mv ?_
          refine qv (m_fdp fd23_1) ?_
          refine qv (m_ldp sz3 ag3) ?_
          refine qv m_addN ?_
          refine qv (m_shlS (k + n.c)) ?_
          first | refine qv m_orS ?_ | refine qv (m_orS (a := 0)) ?_
          refine qv m_as ?_
          show AWp cx _ _ _
          refine awp_seq ?_
          refine rg ?_
          refine qv m_mv ?_
          refine qv m_as ?_
          show AWp cx _ _ _
          refine awp_ret ?_
          exact x1 (hr := (rI_ (by simp only [arN, ar3, ar2, ar1, g0, g1, g2, g3, if_true, if_false] <;> rfl)))
        · simp only [decide_eq_true_eq, decide_eq_false_iff_not] at hc3
          have g3 : ¬ k / n.c + 1 < n.r := by omega
          refine awp_skip ?_
          show AWp cx _ _ _
          refine awp_seq ?_
          refine rg ?_
          refine qv m_mv ?_
          refine qv m_as ?_
          show AWp cx _ _ _
          refine awp_ret ?_
          exact x1 (hr := (rI_ (by simp only [arN, ar3, ar2, ar1, g0, g1, g2, g3, if_true, if_false] <;> rfl)))
      · simp only [decide_eq_true_eq, decide_eq_false_iff_not] at hc2
        have g2 : ¬ k % n.c + 1 < n.c := by omega
        refine awp_skip ?_
        show AWp cx _ _ _
        refine awp_seq ?_
        refine awp_seq ?_
        refine rg ?_
        refine qv m_mv ?_
        refine qv (m_addN (a := k / n.c) (b := 1) (ha := by have := row_lt hk hcp; have := ok.r2; omega)) ?_
        refine qv (m_fdp fd23_0) ?_
        refine qv (m_ldp sz3 ag3) ?_
        refine qv m_lss ?_
        show AWp cx _ _ _
        refine cd (fun hc3 => ?_) (fun hc3 => ?_)
        · simp only [decide_eq_true_eq, decide_eq_false_iff_not] at hc3
          have g3 : k / n.c + 1 < n.r := by omega
          have u3 := down_lt hcp g3
          refine rg ?_
          refine qv m_mv ?_
          refine qv m_mv ?_
          refine qv (m_fdp fd23_1) ?_
          refine qv (m_ldp sz3 ag3) ?_
          refine qv m_addN ?_
          refine qv (m_shlS (k + n.c)) ?_
          first | refine qv m_orS ?_ | refine qv (m_orS (a := 0)) ?_
          refine qv m_as ?_
          show AWp cx _ _ _
          refine awp_seq ?_
          refine rg ?_
          refine qv m_mv ?_
          refine qv m_as ?_
          show AWp cx _ _ _
          refine awp_ret ?_
          exact x1 (hr := (rI_ (by simp only [arN, ar3, ar2, ar1, g0, g1, g2, g3, if_true, if_false] <;> rfl)))
        · simp only [decide_eq_true_eq, decide_eq_false_iff_not] at hc3
          have g3 : ¬ k / n.c + 1 < n.r := by omega
          refine awp_skip ?_
          show AWp cx _ _ _
          refine awp_seq ?_
          refine rg ?_
          refine qv m_mv ?_
          refine qv m_as ?_
          show AWp cx _ _ _
          refine awp_ret ?_
          exact x1 (hr := (rI_ (by simp only [arN, ar3, ar2, ar1, g0, g1, g2, g3, if_true, if_false] <;> rfl)))
    · simp only [decide_eq_true_eq, decide_eq_false_iff_not] at hc1
      have g1 : ¬ 0 < k % n.c := by omega
      refine awp_skip ?_
      show AWp cx _ _ _
      refine awp_seq ?_
      refine awp_seq ?_
      refine rg ?_
      refine qv m_mv ?_
      refine qv (m_addN (a := k % n.c) (b := 1) (ha := by have := Nat.mod_lt k hcp; omega)) ?_
      refine qv (m_fdp fd23_1) ?_
      refine qv (m_ldp sz3 ag3) ?_
      refine qv m_lss ?_
      show AWp cx _ _ _
      refine cd (fun hc2 => ?_) (fun hc2 => ?_)
      · simp only [decide_eq_true_eq, decide_eq_false_iff_not] at hc2
        have g2 : k % n.c + 1 < n.c := by omega
        have u2 := right_lt hk hcp g2
        refine rg ?_
        refine qv m_mv ?_
        refine qv m_mv ?_
        refine qv (m_addN (b := 1)) ?_
        refine qv (m_shlS (k + 1)) ?_
        first | refine qv m_orS ?_ | refine qv (m_orS (a := 0)) ?_
        refine qv m_as ?_
        show AWp cx _ _ _
        refine awp_seq ?_
        refine awp_seq ?_
        refine rg ?_
        refine qv m_mv ?_
        refine qv (m_addN (a := k / n.c) (b := 1) (ha := by have := row_lt hk hcp; have := ok.r2; omega)) ?_
        refine qv (m_fdp fd23_0) ?_
        refine qv (m_ldp sz3 ag3) ?_
        refine qv m_lss ?_
        show AWp cx _ _ _
        refine cd (fun hc3 => ?_) (fun hc3 => ?_)
        · simp only [decide_eq_true_eq, decide_eq_false_iff_not] at hc3
          have g3 : k / n.c + 1 < n.r := by omega
          have u3 := down_lt hcp g3
          refine rg ?_
          refine qv m_mv ?_
          refine qv m_mv ?_
          refine qv (m_fdp fd23_1) ?_
          refine qv (m_ldp sz3 ag3) ?_
          refine qv m_addN ?_
          refine qv (m_shlS (k + n.c)) ?_
          first | refine qv m_orS ?_ | refine qv (m_orS (a := 0)) ?_
          refine qv m_as ?_
          show AWp cx _ _ _
          refine awp_seq ?_
          refine rg ?_
          refine qv m_mv ?_
          refine qv m_as ?_
          show AWp cx _ _ _
          refine awp_ret ?_
          exact x1 (hr := (rI_ (by simp only [arN, ar3, ar2, ar1, g0, g1, g2, g3, if_true, if_false] <;> rfl)))
        · simp only [decide_eq_true_eq, decide_eq_false_iff_not] at hc3
          have g3 : ¬ k / n.c + 1 < n.r := by omega
          refine awp_skip ?_
          show AWp cx _ _ _
          refine awp_seq ?_
          refine rg ?_
          refine qv m_mv ?_
          refine qv m_as ?_
          show AWp cx _ _ _
          refine awp_ret ?_
          exact x1 (hr := (rI_ (by simp only [arN, ar3, ar2, ar1, g0, g1, g2, g3, if_true, if_false] <;> rfl)))
      · simp only [decide_eq_true_eq, decide_eq_false_iff_not] at hc2
        have g2 : ¬ k % n.c + 1 < n.c := by omega
        refine awp_skip ?_
        show AWp cx _ _ _
        refine awp_seq ?_
        refine awp_seq ?_
        refine rg ?_
        refine qv m_mv ?_
        refine qv (m_addN (a := k / n.c) (b := 1) (ha := by have := row_lt hk hcp; have := ok.r2; omega)) ?_
        refine qv (m_fdp fd23_0) ?_
        refine qv (m_ldp sz3 ag3) ?_
        refine qv m_lss ?_
        show AWp cx _ _ _
        refine cd (fun hc3 => ?_) (fun hc3 => ?_)
        · simp only [decide_eq_true_eq, decide_eq_false_iff_not] at hc3
          have g3 : k / n.c + 1 < n.r := by omega
          have u3 := down_lt hcp g3
          refine rg ?_
          refine qv m_mv ?_
          refine qv m_mv ?_
          refine qv (m_fdp fd23_1) ?_
          refine qv (m_ldp sz3 ag3) ?_
          refine qv m_addN ?_
          refine qv (m_shlS (k + n.c)) ?_
          first | refine qv m_orS ?_ | refine qv (m_orS (a := 0)) ?_
          refine qv m_as ?_
          show AWp cx _ _ _
          refine awp_seq ?_
          refine rg ?_
          refine qv m_mv ?_
          refine qv m_as ?_
          show AWp cx _ _ _
          refine awp_ret ?_
          exact x1 (hr := (rI_ (by simp only [arN, ar3, ar2, ar1, g0, g1, g2, g3, if_true, if_false] <;> rfl)))
        · simp only [decide_eq_true_eq, decide_eq_false_iff_not] at hc3
          have g3 : ¬ k / n.c + 1 < n.r := by omega
          refine awp_skip ?_
          show AWp cx _ _ _
          refine awp_seq ?_
          refine rg ?_
          refine qv m_mv ?_
          refine qv m_as ?_
          show AWp cx _ _ _
          refine awp_ret ?_
          exact x1 (hr := (rI_ (by simp only [arN, ar3, ar2, ar1, g0, g1, g2, g3, if_true, if_false] <;> rfl)))
  · simp only [decide_eq_true_eq, decide_eq_false_iff_not] at hc0
    have g0 : ¬ 0 < k / n.c := by omega
    refine awp_skip ?_
    show AWp cx _ _ _
    refine awp_seq ?_
    refine awp_seq ?_
    refine rg ?_
    refine qv m_mv ?_
    refine qv m_gtr ?_
    show AWp cx _ _ _
    refine cd (fun hc1 => ?_) (fun hc1 => ?_)
    · simp only [decide_eq_true_eq, decide_eq_false_iff_not] at hc1
      have g1 : 0 < k % n.c := by omega
      have u1 := left_le g1
      refine rg ?_
      refine qv m_mv ?_
      refine qv m_mv ?_
      refine qv (m_subN (k - 1)) ?_
      refine qv (m_shlS (k - 1)) ?_
      first | refine qv m_orS ?_ | refine qv (m_orS (a := 0)) ?_
      refine qv m_as ?_
      show AWp cx _ _ _
      refine awp_seq ?_
      refine awp_seq ?_
      refine rg ?_
      refine qv m_mv ?_
      refine qv (m_addN (a := k % n.c) (b := 1) (ha := by have := Nat.mod_lt k hcp; omega)) ?_
      refine qv (m_fdp fd23_1) ?_
      refine qv (m_ldp sz3 ag3) ?_
      refine qv m_lss ?_
      show AWp cx _ _ _
      refine cd (fun hc2 => ?_) (fun hc2 => ?_)
      · simp only [decide_eq_true_eq, decide_eq_false_iff_not] at hc2
        have g2 : k % n.c + 1 < n.c := by omega
        have u2 := right_lt hk hcp g2
        refine rg ?_
        refine qv m_mv ?_
        refine qv m_mv ?_
        refine qv (m_addN (b := 1)) ?_
        refine qv (m_shlS (k + 1)) ?_
        first | refine qv m_orS ?_ | refine qv (m_orS (a := 0)) ?_
        refine qv m_as ?_
        show AWp cx _ _ _
        refine awp_seq ?_
        refine awp_seq ?_
        refine rg ?_
        refine qv m_mv ?_
        refine qv (m_addN (a := k / n.c) (b := 1) (ha := by have := row_lt hk hcp; have := ok.r2; omega)) ?_
        refine qv (m_fdp fd23_0) ?_
        refine qv (m_ldp sz3 ag3) ?_
        refine qv m_lss ?_
        show AWp cx _ _ _
        refine cd (fun hc3 => ?_) (fun hc3 => ?_)
        · simp only [decide_eq_true_eq, decide_eq_false_iff_not] at hc3
          have g3 : k / n.c + 1 < n.r := by omega
          have u3 := down_lt hcp g3
          refine rg ?_
          refine qv m_mv ?_
          refine qv m_mv ?_
          refine qv (m_fdp fd23_1) ?_
          refine qv (m_ldp sz3 ag3) ?_
          refine qv m_addN ?_
          refine qv (m_shlS (k + n.c)) ?_
          first | refine qv m_orS ?_ | refine qv (m_orS (a := 0)) ?_
          refine qv m_as ?_
          show AWp cx _ _ _
          refine awp_seq ?_
          refine rg ?_
          refine qv m_mv ?_
          refine qv m_as ?_
          show AWp cx _ _ _
          refine awp_ret ?_
          exact x1 (hr := (rI_ (by simp only [arN, ar3, ar2, ar1, g0, g1, g2, g3, if_true, if_false] <;> rfl)))
        · simp only [decide_eq_true_eq, decide_eq_false_iff_not] at hc3
          have g3 : ¬ k / n.c + 1 < n.r := by omega
          refine awp_skip ?_
          show AWp cx _ _ _
          refine awp_seq ?_
          refine rg ?_
          refine qv m_mv ?_
          refine qv m_as ?_
          show AWp cx _ _ _
          refine awp_ret ?_
          exact x1 (hr := (rI_ (by simp only [arN, ar3, ar2, ar1, g0, g1, g2, g3, if_true, if_false] <;> rfl)))
      · simp only [decide_eq_true_eq, decide_eq_false_iff_not] at hc2
        have g2 : ¬ k % n.c + 1 < n.c := by omega
        refine awp_skip ?_
        show AWp cx _ _ _
        refine awp_seq ?_
        refine awp_seq ?_
        refine rg ?_
        refine qv m_mv ?_
        refine qv (m_addN (a := k / n.c) (b := 1) (ha := by have := row_lt hk hcp; have := ok.r2; omega)) ?_
        refine qv (m_fdp fd23_0) ?_
        refine qv (m_ldp sz3 ag3) ?_
        refine qv m_lss ?_
        show AWp cx _ _ _
        refine cd (fun hc3 => ?_) (fun hc3 => ?_)
        · simp only [decide_eq_true_eq, decide_eq_false_iff_not] at hc3
          have g3 : k / n.c + 1 < n.r := by omega
          have u3 := down_lt hcp g3
          refine rg ?_
          refine qv m_mv ?_
          refine qv m_mv ?_
          refine qv (m_fdp fd23_1) ?_
          refine qv (m_ldp sz3 ag3) ?_
          refine qv m_addN ?_
          refine qv (m_shlS (k + n.c)) ?_
          first | refine qv m_orS ?_ | refine qv (m_orS (a := 0)) ?_
          refine qv m_as ?_
          show AWp cx _ _ _
          refine awp_seq ?_
          refine rg ?_
          refine qv m_mv ?_
          refine qv m_as ?_
          show AWp cx _ _ _
          refine awp_ret ?_
          exact x1 (hr := (rI_ (by simp only [arN, ar3, ar2, ar1, g0, g1, g2, g3, if_true, if_false] <;> rfl)))
        · simp only [decide_eq_true_eq, decide_eq_false_iff_not] at hc3
          have g3 : ¬ k / n.c + 1 < n.r := by omega
          refine awp_skip ?_
          show AWp cx _ _ _
          refine awp_seq ?_
          refine rg ?_
          refine qv m_mv ?_
          refine qv m_as ?_
          show AWp cx _ _ _
          refine awp_ret ?_
          exact x1 (hr := (rI_ (by simp only [arN, ar3, ar2, ar1, g0, g1, g2, g3, if_true, if_false] <;> rfl)))
    · simp only [decide_eq_true_eq, decide_eq_false_iff_not] at hc1
      have g1 : ¬ 0 < k % n.c := by omega
      refine awp_skip ?_
      show AWp cx _ _ _
      refine awp_seq ?_
      refine awp_seq ?_
      refine rg ?_
      refine qv m_mv ?_
      refine qv (m_addN (a := k % n.c) (b := 1) (ha := by have := Nat.mod_lt k hcp; omega)) ?_
      refine qv (m_fdp fd23_1) ?_
      refine qv (m_ldp sz3 ag3) ?_
      refine qv m_lss ?_
      show AWp cx _ _ _
      refine cd (fun hc2 => ?_) (fun hc2 => ?_)
      · simp only [decide_eq_true_eq, decide_eq_false_iff_not] at hc2
        have g2 : k % n.c + 1 < n.c := by omega
        have u2 := right_lt hk hcp g2
        refine rg ?_
        refine qv m_mv ?_
        refine qv m_mv ?_
        refine qv (m_addN (b := 1)) ?_
        refine qv (m_shlS (k + 1)) ?_
        first | refine qv m_orS ?_ | refine qv (m_orS (a := 0)) ?_
        refine qv m_as ?_
        show AWp cx _ _ _
        refine awp_seq ?_
        refine awp_seq ?_
        refine rg ?_
        refine qv m_mv ?_
        refine qv (m_addN (a := k / n.c) (b := 1) (ha := by have := row_lt hk hcp; have := ok.r2; omega)) ?_
        refine qv (m_fdp fd23_0) ?_
        refine qv (m_ldp sz3 ag3) ?_
        refine qv m_lss ?_
        show AWp cx _ _ _
        refine cd (fun hc3 => ?_) (fun hc3 => ?_)
        · simp only [decide_eq_true_eq, decide_eq_false_iff_not] at hc3
          have g3 : k / n.c + 1 < n.r := by omega
          have u3 := down_lt hcp g3
          refine rg ?_
          refine qv m_mv ?_
          refine qv m_mv ?_
          refine qv (m_fdp fd23_1) ?_
          refine qv (m_ldp sz3 ag3) ?_
          refine qv m_addN ?_
          refine qv (m_shlS (k + n.c)) ?_
          first | refine qv m_orS ?_ | refine qv (m_orS (a := 0)) ?_
          refine qv m_as ?_
          show AWp cx _ _ _
          refine awp_seq ?_
          refine rg ?_
          refine qv m_mv ?_
          refine qv m_as ?_
          show AWp cx _ _ _
          refine awp_ret ?_
          exact x1 (hr := (rI_ (by simp only [arN, ar3, ar2, ar1, g0, g1, g2, g3, if_true, if_false] <;> rfl)))
        · simp only [decide_eq_true_eq, decide_eq_false_iff_not] at hc3
          have g3 : ¬ k / n.c + 1 < n.r := by omega
          refine awp_skip ?_
          show AWp cx _ _ _
          refine awp_seq ?_
          refine rg ?_
          refine qv m_mv ?_
          refine qv m_as ?_
          show AWp cx _ _ _
          refine awp_ret ?_
          exact x1 (hr := (rI_ (by simp only [arN, ar3, ar2, ar1, g0, g1, g2, g3, if_true, if_false] <;> rfl)))
      · simp only [decide_eq_true_eq, decide_eq_false_iff_not] at hc2
        have g2 : ¬ k % n.c + 1 < n.c := by omega
        refine awp_skip ?_
        show AWp cx _ _ _
        refine awp_seq ?_
        refine awp_seq ?_
        refine rg ?_
        refine qv m_mv ?_
        refine qv (m_addN (a := k / n.c) (b := 1) (ha := by have := row_lt hk hcp; have := ok.r2; omega)) ?_
        refine qv (m_fdp fd23_0) ?_
        refine qv (m_ldp sz3 ag3) ?_
        refine qv m_lss ?_
        show AWp cx _ _ _
        refine cd (fun hc3 => ?_) (fun hc3 => ?_)
        · simp only [decide_eq_true_eq, decide_eq_false_iff_not] at hc3
          have g3 : k / n.c + 1 < n.r := by omega
          have u3 := down_lt hcp g3
          refine rg ?_
          refine qv m_mv ?_
          refine qv m_mv ?_
          refine qv (m_fdp fd23_1) ?_
          refine qv (m_ldp sz3 ag3) ?_
          refine qv m_addN ?_
          refine qv (m_shlS (k + n.c)) ?_
          first | refine qv m_orS ?_ | refine qv (m_orS (a := 0)) ?_
          refine qv m_as ?_
          show AWp cx _ _ _
          refine awp_seq ?_
          refine rg ?_
          refine qv m_mv ?_
          refine qv m_as ?_
          show AWp cx _ _ _
          refine awp_ret ?_
          exact x1 (hr := (rI_ (by simp only [arN, ar3, ar2, ar1, g0, g1, g2, g3, if_true, if_false] <;> rfl)))
        · simp only [decide_eq_true_eq, decide_eq_false_iff_not] at hc3
          have g3 : ¬ k / n.c + 1 < n.r := by omega
          refine awp_skip ?_
          show AWp cx _ _ _
          refine awp_seq ?_
          refine rg ?_
          refine qv m_mv ?_
          refine qv m_as ?_
          show AWp cx _ _ _
          refine awp_ret ?_
          exact x1 (hr := (rI_ (by simp only [arN, ar3, ar2, ar1, g0, g1, g2, g3, if_true, if_false] <;> rfl)))
end Go.Ab.Tryd
