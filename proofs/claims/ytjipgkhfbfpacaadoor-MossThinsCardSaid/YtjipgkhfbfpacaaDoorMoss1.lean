/- The functions of the moss laws, part 1. The walks are written by wip/gen/gw.py. -/
import Derived.Test.YtjipgkhfbfpacaaDoorMossIt
import Derived.Test.YtjipgkhfbfpacaaDoorMossFacts
import Derived.Test.YtjipgkhfbfpacaaDoorMossT
set_option linter.all false
namespace Go.Ab.Tryd
open Go Go.Ab Go.Proofs Go.Ab.Moss


theorem f68 (n lo hi : Int) : ACallsF Tryd.prog 68 [i64 n, i64 lo, i64 hi] (.one (.dv (.bool (fromB n lo hi)))) := by
  refine callsF_of Tryd.func68 rfl rfl (by rw [Tryd.ntmps68]; simp) fun cx hP hn hg => ?_
  rw [Tryd.ntmps68] at hn
  rw [startF_lk, none_mkM]
  simp only [List.nil_append, List.append_nil, List.cons_append, zipSV, Nat.reduceAdd]
  refine awp_seq ?_
  refine rg ?_
  refine qv m_as ?_
  show AWp cx _ _ _
  refine awp_seq ?_
  refine rg ?_
  refine qv m_mv ?_
  refine qv m_mv ?_
  refine qv m_leq ?_
  refine qx m_mv (fun hg10 => ?_) (fun hg10 => ?_)
  · try simp at hg10
    refine qv m_mv ?_
    refine qv m_mv ?_
    refine qv m_leq ?_
    refine qv m_pk ?_
    refine qv m_as ?_
    show AWp cx _ _ _
    refine awp_ret ?_
    exact x1 (hr := (rB_ (by first | (simp_all [fromB]; done) | (simp_all [fromB]; omega))))
  · try simp at hg10
    refine qk ?_
    refine qk ?_
    refine qk ?_
    refine qv m_pk ?_
    refine qv m_as ?_
    show AWp cx _ _ _
    refine awp_ret ?_
    exact x1 (hr := (rB_ (by first | (simp_all [fromB]; done) | (simp_all [fromB]; omega))))

theorem f66 (n lo hi : Int) : ACallsF Tryd.prog 66 [i64 n, i64 lo, i64 hi] (.one (.dv (.bool (fromB n lo hi)))) := by
  refine callsF_of Tryd.func66 rfl rfl (by rw [Tryd.ntmps66]; simp) fun cx hP hn hg => ?_
  rw [Tryd.ntmps66] at hn
  rw [startF_lk, none_mkM]
  simp only [List.nil_append, List.append_nil, List.cons_append, zipSV, Nat.reduceAdd]
  refine awp_seq ?_
  refine rg ?_
  refine qv m_as ?_
  show AWp cx _ _ _
  refine awp_seq ?_
  refine rg ?_
  refine qv m_mv ?_
  refine qv m_mv ?_
  refine qv m_geq ?_
  refine qx m_mv (fun hg10 => ?_) (fun hg10 => ?_)
  · try simp at hg10
    refine qv m_mv ?_
    refine qv m_mv ?_
    refine qv m_leq ?_
    refine qv m_pk ?_
    refine qv m_as ?_
    show AWp cx _ _ _
    refine awp_ret ?_
    exact x1 (hr := (rB_ (by first | (simp_all [fromB]; done) | (simp_all [fromB]; omega))))
  · try simp at hg10
    refine qk ?_
    refine qk ?_
    refine qk ?_
    refine qv m_pk ?_
    refine qv m_as ?_
    show AWp cx _ _ _
    refine awp_ret ?_
    exact x1 (hr := (rB_ (by first | (simp_all [fromB]; done) | (simp_all [fromB]; omega))))

theorem f77 (s k : Nat) (hs : s < 68719476736) (hk : k ≤ 62) : ACallsF Tryd.prog 77 [i64 (s : Int), i64 (k : Int)] (.one (.dv (.bool (s.testBit k)))) := by
  refine callsF_of Tryd.func77 rfl rfl (by rw [Tryd.ntmps77]; simp) fun cx hP hn hg => ?_
  rw [Tryd.ntmps77] at hn
  rw [startF_lk, none_mkM]
  simp only [List.nil_append, List.append_nil, List.cons_append, zipSV, Nat.reduceAdd]
  refine awp_seq ?_
  refine rg ?_
  refine qv m_as ?_
  show AWp cx _ _ _
  refine awp_seq ?_
  refine rg ?_
  refine qv m_mv ?_
  refine qv m_mv ?_
  refine qv (m_shrS k) ?_
  refine qv (m_and1 (a := s / 2 ^ k) (Nat.lt_of_le_of_lt (Nat.div_le_self _ _) (by omega))) ?_
  refine qv m_eql ?_
  refine qv m_as ?_
  show AWp cx _ _ _
  refine awp_ret ?_
  exact x1 (hr := (rB_ (by rw [Nat.testBit_eq_decide_div_mod_eq]; generalize s / 2 ^ k = q; rw [Bool.eq_iff_iff]; simp; omega)))

theorem f36 (s k : Nat) (hs : s < 68719476736) (hk : k ≤ 62) : ACallsF Tryd.prog 36 [i64 (s : Int), i64 (k : Int)] (.one (.dv (.bool (s.testBit k)))) := by
  refine callsF_of Tryd.func36 rfl rfl (by rw [Tryd.ntmps36]; simp) fun cx hP hn hg => ?_
  rw [Tryd.ntmps36] at hn
  rw [startF_lk, none_mkM]
  simp only [List.nil_append, List.append_nil, List.cons_append, zipSV, Nat.reduceAdd]
  refine awp_seq ?_
  refine rg ?_
  refine qv m_as ?_
  show AWp cx _ _ _
  refine awp_seq ?_
  refine rg ?_
  refine qv m_mv ?_
  refine qv m_mv ?_
  refine qv (m_cnvU kd3 kd41) ?_
  refine qv (m_shrS k) ?_
  refine qv (m_and1 (a := s / 2 ^ k) (Nat.lt_of_le_of_lt (Nat.div_le_self _ _) (by omega))) ?_
  refine qv m_eql ?_
  refine qv m_as ?_
  show AWp cx _ _ _
  refine awp_ret ?_
  exact x1 (hr := (rB_ (by rw [Nat.testBit_eq_decide_div_mod_eq]; generalize s / 2 ^ k = q; rw [Bool.eq_iff_iff]; simp; omega)))

theorem f94 (x : Nat) (hx : x < 18446744073709551616) : ACallsF Tryd.prog 94 [u64 (x : Int)] (.one (.dv (i64 (popc x : Int)))) := by
  obtain ⟨h1, h2, h3, h4⟩ := trick_steps x hx
  unfold trick at h4
  simp only at h4
  obtain ⟨A, hA⟩ : ∃ A, S1 6148914691236517205 x = A := ⟨_, rfl⟩
  rw [hA] at h1 h2 h3 h4
  obtain ⟨B, hB⟩ : ∃ B, S2 3689348814741910323 A = B := ⟨_, rfl⟩
  rw [hB] at h2 h3 h4
  obtain ⟨C, hC⟩ : ∃ C, S3 1085102592571150095 B = C := ⟨_, rfl⟩
  rw [hC] at h3 h4
  obtain ⟨D, hD⟩ : ∃ D, C + C / 256 = D := ⟨_, rfl⟩
  rw [hD] at h4
  obtain ⟨E, hE⟩ : ∃ E, D + D / 65536 = E := ⟨_, rfl⟩
  rw [hE] at h4
  obtain ⟨G, hG⟩ : ∃ G, E + E / 4294967296 = G := ⟨_, rfl⟩
  rw [hG] at h4
  have e1 : (x / 2 ^ 1 &&& 6148914691236517205) + (x &&& 6148914691236517205) = A := hA
  have e2 : (A / 2 ^ 2 &&& 3689348814741910323) + (A &&& 3689348814741910323) = B := hB
  have e3 : (B / 2 ^ 4 + B) &&& 1085102592571150095 = C := by rw [Nat.add_comm]; exact hC
  have e4 : C + C / 2 ^ 8 = D := hD
  have e5 : D + D / 2 ^ 16 = E := hE
  have e6 : E + E / 2 ^ 32 = G := hG
  have e7 : G &&& 127 = popc x := by rw [← h4]; exact Nat.and_two_pow_sub_one_eq_mod G 7
  refine callsF_of Tryd.func94 rfl rfl (by rw [Tryd.ntmps94]; simp) fun cx hP hn hg => ?_
  rw [Tryd.ntmps94] at hn
  rw [startF_lk, none_mkM]
  simp only [List.nil_append, List.append_nil, List.cons_append, zipSV, Nat.reduceAdd]
  refine awp_seq ?_
  refine rg ?_
  refine qv m_as ?_
  show AWp cx _ _ _
  refine awp_seq ?_
  refine rg ?_
  refine qv m_mv ?_
  refine qv (m_shrU (b := 1)) ?_
  refine qv (m_andU (b := 6148914691236517205)) ?_
  refine qv m_mv ?_
  refine qv (m_andU (b := 6148914691236517205)) ?_
  refine qv (m_addU (h := by rw [e1]; exact h1)) ?_
  refine qv m_as ?_
  show AWp cx _ _ _
  refine awp_seq ?_
  rw [e1]
  refine rg ?_
  skip
  refine qv m_mv ?_
  refine qv (m_shrU (b := 2)) ?_
  refine qv (m_andU (b := 3689348814741910323)) ?_
  refine qv m_mv ?_
  refine qv (m_andU (b := 3689348814741910323)) ?_
  refine qv (m_addU (h := by rw [e2]; omega)) ?_
  refine qv m_as ?_
  show AWp cx _ _ _
  refine awp_seq ?_
  rw [e2]
  refine rg ?_
  refine qv m_mv ?_
  refine qv (m_shrU (b := 4)) ?_
  refine qv m_mv ?_
  refine qv m_addU ?_
  refine qv (m_andU (b := 1085102592571150095)) ?_
  refine qv m_as ?_
  show AWp cx _ _ _
  refine awp_seq ?_
  rw [e3]
  refine rg ?_
  refine qv m_mv ?_
  refine qv m_mv ?_
  refine qv (m_shrU (b := 8)) ?_
  refine qv m_addU ?_
  refine qv m_as ?_
  show AWp cx _ _ _
  refine awp_seq ?_
  rw [e4]
  refine rg ?_
  refine qv m_mv ?_
  refine qv m_mv ?_
  refine qv (m_shrU (b := 16)) ?_
  refine qv m_addU ?_
  refine qv m_as ?_
  show AWp cx _ _ _
  refine awp_seq ?_
  rw [e5]
  refine rg ?_
  refine qv m_mv ?_
  refine qv m_mv ?_
  refine qv (m_shrU (b := 32)) ?_
  refine qv m_addU ?_
  refine qv m_as ?_
  show AWp cx _ _ _
  refine awp_seq ?_
  rw [e6]
  refine rg ?_
  refine qv m_mv ?_
  refine qv (m_cnvI kd67 kd3) ?_
  refine qv (m_andW (b := 127)) ?_
  refine qv m_as ?_
  show AWp cx _ _ _
  refine awp_ret ?_
  rw [e7]
  exact x1 (hr := (rI_))

end Go.Ab.Tryd
