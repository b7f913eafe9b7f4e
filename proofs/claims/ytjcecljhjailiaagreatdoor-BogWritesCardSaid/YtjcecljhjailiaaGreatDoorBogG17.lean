/- MossL1, MossT, BogM1, BogM2, BogM3, BogM4. -/
import Derived.Test.YtjcecljhjailiaaGreatDoorBogG16
import Derived.Test.YtjcecljhjailiaaGreatDoorBogG14
import Derived.Test.YtjcecljhjailiaaGreatDoorBogG16
import Derived.Test.YtjcecljhjailiaaGreatDoorBogG09
set_option linter.all false
namespace Go.Ab.Moss
open Go.Ab
end Go.Ab.Moss
set_option linter.all false
namespace Go.Ab.Moss
open Go Go.Ab
structure Mw where
  rows : Int
  cols : Int
  need : Int
abbrev dMw (m : Mw) : DV := .agg [i64 m.rows, i64 m.cols, i64 m.need]
structure Mn where
  r : Nat
  c : Nat
  nd : Nat
abbrev dMn (n : Mn) : DV := .agg [i64 (n.r : Int), i64 (n.c : Int), i64 (n.nd : Int)]
structure Mn.Ok (n : Mn) : Prop where
  r1 : 1 ≤ n.r
  r2 : n.r ≤ 6
  c1 : 1 ≤ n.c
  c2 : n.c ≤ 6
  n1 : 1 ≤ n.nd
  n2 : n.nd ≤ 3
abbrev Mn.w (n : Mn) : Mw := ⟨n.r, n.c, n.nd⟩
def Mn.N (n : Mn) : Nat := n.r * n.c
theorem Mn.Ok.N2 {n : Mn} (h : n.Ok) : n.r * n.c ≤ 36 := Nat.mul_le_mul h.r2 h.c2
def full (n : Mn) : Nat := 2 ^ (n.r * n.c) - 1
theorem full_lt {n : Mn} (h : n.Ok) : full n < 68719476736 := by
  have h1 : 2 ^ (n.r * n.c) ≤ 2 ^ 36 := Nat.pow_le_pow_right (by decide) h.N2
  have h2 : 0 < 2 ^ (n.r * n.c) := Nat.two_pow_pos _
  unfold full
  omega
def fromB (n lo hi : Int) : Bool := decide (lo ≤ n) && decide (n ≤ hi)
def validB (m : Mw) : Bool := fromB m.rows 1 6 && fromB m.cols 1 6 && fromB m.need 1 3
def valid (m : Mw) : Int := if validB m then 0 else 1
theorem valid_n {m : Mw} (h : validB m = true) : ∃ n : Mn, n.Ok ∧ m = n.w := by
  obtain ⟨r, c, d⟩ := m
  simp only [validB, fromB, Bool.and_eq_true, decide_eq_true_eq] at h
  refine ⟨⟨r.toNat, c.toNat, d.toNat⟩, ⟨?_, ?_, ?_, ?_, ?_, ?_⟩, ?_⟩ <;> simp only [Mw.mk.injEq] <;> omega
theorem n_valid {n : Mn} (h : n.Ok) : validB n.w = true := by
  obtain ⟨h1, h2, h3, h4, h5, h6⟩ := h
  simp only [validB, fromB, Bool.and_eq_true, decide_eq_true_eq]
  omega
def bset (p : Nat → Bool) : Nat → Nat
  | 0 => 0
  | k + 1 => if p k then bset p k ||| 2 ^ k else bset p k
theorem testBit_bset (p : Nat → Bool) : ∀ k i, (bset p k).testBit i = (decide (i < k) && p i)
  | 0, i => by simp [bset]
  | k + 1, i => by
    simp only [bset]
    have e : (decide (i < k + 1)) = (decide (i < k) || decide (i = k)) := by
      rw [Bool.eq_iff_iff]; simp; omega
    split
    · rename_i h
      rw [Nat.testBit_or, testBit_bset p k, Nat.testBit_two_pow, e]
      by_cases hi : k = i
      · subst hi; simp [h]
      · have : ¬ i = k := fun h => hi h.symm
        simp [hi, this]
    · rename_i h
      rw [testBit_bset p k, e]
      by_cases hi : i = k
      · subst hi; simp [h]
      · simp [hi]
theorem bset_lt (p : Nat → Bool) (k : Nat) : bset p k < 2 ^ k := by
  apply Nat.lt_pow_two_of_testBit
  intro i hi
  rw [testBit_bset]
  simp; omega
theorem bset_lt36 {p : Nat → Bool} {k : Nat} (h : k ≤ 36) : bset p k < 68719476736 := Nat.lt_of_lt_of_le (bset_lt p k) (Nat.pow_le_pow_right (n := 2) (by decide) h)
def ar1 (n : Mn) (k : Nat) : Nat := if 0 < k / n.c then 0 ||| 2 ^ (k - n.c) else 0
def ar2 (n : Mn) (k : Nat) : Nat := if 0 < k % n.c then ar1 n k ||| 2 ^ (k - 1) else ar1 n k
def ar3 (n : Mn) (k : Nat) : Nat := if k % n.c + 1 < n.c then ar2 n k ||| 2 ^ (k + 1) else ar2 n k
def arN (n : Mn) (k : Nat) : Nat := if k / n.c + 1 < n.r then ar3 n k ||| 2 ^ (k + n.c) else ar3 n k
theorem row_lt {n : Mn} {k : Nat} (hk : k < n.r * n.c) (hc : 0 < n.c) : k / n.c < n.r := Nat.div_lt_of_lt_mul (by rw [Nat.mul_comm]; exact hk)
theorem down_lt {n : Mn} {k : Nat} (hc : 0 < n.c) (h : k / n.c + 1 < n.r) : k + n.c < n.r * n.c := by
  have h1 := Nat.div_add_mod k n.c
  have h2 := Nat.mod_lt k hc
  have h3 := Nat.mul_le_mul_left n.c (show k / n.c + 2 ≤ n.r by omega)
  rw [Nat.mul_comm n.r, Nat.mul_add] at *
  omega
theorem right_lt {n : Mn} {k : Nat} (hk : k < n.r * n.c) (hc : 0 < n.c) (h : k % n.c + 1 < n.c) : k + 1 < n.r * n.c := by
  have h1 := Nat.div_add_mod k n.c
  have h3 := Nat.mul_le_mul_left n.c (show k / n.c + 1 ≤ n.r from row_lt hk hc)
  rw [Nat.mul_comm n.r, Nat.mul_add] at *
  omega
theorem up_le {n : Mn} {k : Nat} (h : 0 < k / n.c) : n.c ≤ k := (Nat.div_pos_iff.1 h).2
theorem left_le {n : Mn} {k : Nat} (h : 0 < k % n.c) : 1 ≤ k := by
  rcases Nat.eq_zero_or_pos k with h1 | h1
  · subst h1; simp at h
  · exact h1
theorem ar1_lt {n : Mn} (h : n.Ok) {k : Nat} (hk : k < n.r * n.c) : ar1 n k < 68719476736 := by
  have := h.N2
  unfold ar1; split
  · exact or36 (by decide) (two36 (by omega))
  · decide
theorem ar2_lt {n : Mn} (h : n.Ok) {k : Nat} (hk : k < n.r * n.c) : ar2 n k < 68719476736 := by
  have := h.N2
  unfold ar2; split
  · exact or36 (ar1_lt h hk) (two36 (by omega))
  · exact ar1_lt h hk
theorem ar3_lt {n : Mn} (h : n.Ok) {k : Nat} (hk : k < n.r * n.c) : ar3 n k < 68719476736 := by
  have := h.N2
  unfold ar3; split
  · rename_i h1
    have := right_lt hk h.c1 h1
    exact or36 (ar2_lt h hk) (two36 (by omega))
  · exact ar2_lt h hk
theorem arN_lt {n : Mn} (h : n.Ok) {k : Nat} (hk : k < n.r * n.c) : arN n k < 68719476736 := by
  have := h.N2
  unfold arN; split
  · rename_i h1
    have := down_lt (k := k) h.c1 h1
    exact or36 (ar3_lt h hk) (two36 (by omega))
  · exact ar3_lt h hk
def rdB (n : Mn) (w k : Nat) : Bool := !w.testBit k && decide (n.nd ≤ popc (arN n k &&& w))
def rdN (n : Mn) (w : Nat) : Nat := bset (rdB n w) (n.r * n.c)
theorem rdN_lt {n : Mn} (h : n.Ok) {w : Nat} : rdN n w < 68719476736 := bset_lt36 h.N2
end Go.Ab.Moss
namespace Go.Ab.Moss
open Go Go.Ab
def ns (l : List Nat) : List Int := l.map fun (j : Nat) => (j : Int)
theorem ns_len (l : List Nat) : (ns l).length = l.length := by simp [ns]
theorem ns_snoc (l : List Nat) (j : Nat) : ns (l ++ [j]) = ns l ++ [(j : Int)] := by simp [ns]
def rem (x : Nat) : Nat → Nat
  | 0 => x
  | k + 1 => rem x k &&& (rem x k - 1)
end Go.Ab.Moss
set_option linter.all false
namespace Go.Ab.Tryz
open Go Go.Ab Go.Proofs Go.Ab.Moss
theorem f135 (n lo hi : Int) : ACallsF Tryz.prog 135 [i64 n, i64 lo, i64 hi] (.one (.dv (.bool (fromB n lo hi)))) := by
  refine callsF_of Tryz.func135 rfl rfl (by rw [Tryz.ntmps135]; simp) fun cx hP hn hg => ?_
  rw [Tryz.ntmps135] at hn
  rw [startF_lk, none_mkM]
  simp only [List.nil_append, List.append_nil, List.cons_append, zipSV, Nat.reduceAdd]
  refine awp_seq ?_
  refine rg ?_
  refine qv m_as ?_
  show AWp cx _ _ _
  refine awp_seq ?_
  refine rg ?_
  refine qv m_mv ?_
  refine qv m_mv ?_
  refine qv m_leq ?_
  refine qx m_mv (fun hg10 => ?_) (fun hg10 => ?_)
  · try simp at hg10
    refine qv m_mv ?_
    refine qv m_mv ?_
    refine qv m_leq ?_
    refine qv m_pk ?_
    refine qv m_as ?_
    show AWp cx _ _ _
    refine awp_ret ?_
    exact x1 (hr := (rB_ (by first | (simp_all [fromB]; done) | (simp_all [fromB]; omega))))
  · try simp at hg10
    refine qk ?_
    refine qk ?_
    refine qk ?_
    refine qv m_pk ?_
    refine qv m_as ?_
    show AWp cx _ _ _
    refine awp_ret ?_
    exact x1 (hr := (rB_ (by first | (simp_all [fromB]; done) | (simp_all [fromB]; omega))))
theorem f208 (s k : Nat) (hs : s < 68719476736) (hk : k ≤ 62) : ACallsF Tryz.prog 208 [i64 (s : Int), i64 (k : Int)] (.one (.dv (.bool (s.testBit k)))) := by
  refine callsF_of Tryz.func208 rfl rfl (by rw [Tryz.ntmps208]; simp) fun cx hP hn hg => ?_
  rw [Tryz.ntmps208] at hn
  rw [startF_lk, none_mkM]
  simp only [List.nil_append, List.append_nil, List.cons_append, zipSV, Nat.reduceAdd]
  refine awp_seq ?_
  refine rg ?_
  refine qv m_as ?_
  show AWp cx _ _ _
  refine awp_seq ?_
  refine rg ?_
  refine qv m_mv ?_
  refine qv m_mv ?_
  refine qv (m_shrS k) ?_
  refine qv (m_and1 (a := s / 2 ^ k) (Nat.lt_of_le_of_lt (Nat.div_le_self _ _) (by omega))) ?_
  refine qv m_eql ?_
  refine qv m_as ?_
  show AWp cx _ _ _
  refine awp_ret ?_
  exact x1 (hr := (rB_ (by rw [Nat.testBit_eq_decide_div_mod_eq]; generalize s / 2 ^ k = q; rw [Bool.eq_iff_iff]; simp; omega)))
theorem f232 (x : Nat) (hx : x < 18446744073709551616) : ACallsF Tryz.prog 232 [u64 (x : Int)] (.one (.dv (i64 (popc x : Int)))) := by
  obtain ⟨h1, h2, h3, h4⟩ := trick_steps x hx
  unfold trick at h4
  simp only at h4
  obtain ⟨A, hA⟩ : ∃ A, S1 6148914691236517205 x = A := ⟨_, rfl⟩
  rw [hA] at h1 h2 h3 h4
  obtain ⟨B, hB⟩ : ∃ B, S2 3689348814741910323 A = B := ⟨_, rfl⟩
  rw [hB] at h2 h3 h4
  obtain ⟨C, hC⟩ : ∃ C, S3 1085102592571150095 B = C := ⟨_, rfl⟩
  rw [hC] at h3 h4
  obtain ⟨D, hD⟩ : ∃ D, C + C / 256 = D := ⟨_, rfl⟩
  rw [hD] at h4
  obtain ⟨E, hE⟩ : ∃ E, D + D / 65536 = E := ⟨_, rfl⟩
  rw [hE] at h4
  obtain ⟨G, hG⟩ : ∃ G, E + E / 4294967296 = G := ⟨_, rfl⟩
  rw [hG] at h4
  have e1 : (x / 2 ^ 1 &&& 6148914691236517205) + (x &&& 6148914691236517205) = A := hA
  have e2 : (A / 2 ^ 2 &&& 3689348814741910323) + (A &&& 3689348814741910323) = B := hB
  have e3 : (B / 2 ^ 4 + B) &&& 1085102592571150095 = C := by rw [Nat.add_comm]; exact hC
  have e4 : C + C / 2 ^ 8 = D := hD
  have e5 : D + D / 2 ^ 16 = E := hE
  have e6 : E + E / 2 ^ 32 = G := hG
  have e7 : G &&& 127 = popc x := by rw [← h4]; exact Nat.and_two_pow_sub_one_eq_mod G 7
  refine callsF_of Tryz.func232 rfl rfl (by rw [Tryz.ntmps232]; simp) fun cx hP hn hg => ?_
  rw [Tryz.ntmps232] at hn
  rw [startF_lk, none_mkM]
  simp only [List.nil_append, List.append_nil, List.cons_append, zipSV, Nat.reduceAdd]
  refine awp_seq ?_
  refine rg ?_
  refine qv m_as ?_
  show AWp cx _ _ _
  refine awp_seq ?_
  refine rg ?_
  refine qv m_mv ?_
  refine qv (m_shrU (b := 1)) ?_
  refine qv (m_andU (b := 6148914691236517205)) ?_
  refine qv m_mv ?_
  refine qv (m_andU (b := 6148914691236517205)) ?_
  refine qv (m_addU (h := by rw [e1]; exact h1)) ?_
  refine qv m_as ?_
  show AWp cx _ _ _
  refine awp_seq ?_
  rw [e1]
  refine rg ?_
  skip
  refine qv m_mv ?_
  refine qv (m_shrU (b := 2)) ?_
  refine qv (m_andU (b := 3689348814741910323)) ?_
  refine qv m_mv ?_
  refine qv (m_andU (b := 3689348814741910323)) ?_
  refine qv (m_addU (h := by rw [e2]; omega)) ?_
  refine qv m_as ?_
  show AWp cx _ _ _
  refine awp_seq ?_
  rw [e2]
  refine rg ?_
  refine qv m_mv ?_
  refine qv (m_shrU (b := 4)) ?_
  refine qv m_mv ?_
  refine qv m_addU ?_
  refine qv (m_andU (b := 1085102592571150095)) ?_
  refine qv m_as ?_
  show AWp cx _ _ _
  refine awp_seq ?_
  rw [e3]
  refine rg ?_
  refine qv m_mv ?_
  refine qv m_mv ?_
  refine qv (m_shrU (b := 8)) ?_
  refine qv m_addU ?_
  refine qv m_as ?_
  show AWp cx _ _ _
  refine awp_seq ?_
  rw [e4]
  refine rg ?_
  refine qv m_mv ?_
  refine qv m_mv ?_
  refine qv (m_shrU (b := 16)) ?_
  refine qv m_addU ?_
  refine qv m_as ?_
  show AWp cx _ _ _
  refine awp_seq ?_
  rw [e5]
  refine rg ?_
  refine qv m_mv ?_
  refine qv m_mv ?_
  refine qv (m_shrU (b := 32)) ?_
  refine qv m_addU ?_
  refine qv m_as ?_
  show AWp cx _ _ _
  refine awp_seq ?_
  rw [e6]
  refine rg ?_
  refine qv m_mv ?_
  refine qv (m_cnvI kd232 kd3) ?_
  refine qv (m_andW (b := 127)) ?_
  refine qv m_as ?_
  show AWp cx _ _ _
  refine awp_ret ?_
  rw [e7]
  exact x1 (hr := (rI_))
end Go.Ab.Tryz
set_option linter.all false
namespace Go.Ab.Tryz
open Go Go.Ab Go.Proofs Go.Ab.Moss
theorem full_add {n : Mn} : full n + 1 = 2 ^ (n.r * n.c) := by
  have := Nat.two_pow_pos (n.r * n.c)
  unfold full; omega
theorem f209 (x : Nat) (hx : x < 68719476736) : ACallsF Tryz.prog 209 [i64 (x : Int)] (.one (.dv (i64 (popc x : Int)))) := by
  refine callsF_of Tryz.func209 rfl rfl (by rw [Tryz.ntmps209]; simp) fun cx hP hn hg => ?_
  rw [Tryz.ntmps209] at hn
  rw [startF_lk, none_mkM]
  simp only [List.nil_append, List.append_nil, List.cons_append, zipSV, Nat.reduceAdd]
  refine awp_seq ?_
  refine rg ?_
  refine qv m_as ?_
  show AWp cx _ _ _
  refine awp_seq ?_
  refine rg ?_
  refine qv m_mv ?_
  refine qv (m_cnvU kd3 kd232) ?_
  refine qqF (f232 x (by omega)) ?_
  refine qv m_as ?_
  show AWp cx _ _ _
  refine awp_ret ?_
  exact x1 (hr := (rI_))
theorem f206 (n : Mn) (ok : n.Ok) : ACallsF Tryz.prog 206 [dMn n] (.one (.dv (i64 (full n : Int)))) := by
  have hN := ok.N2
  have hf := full_add (n := n)
  have hlt := full_lt ok
  refine callsF_of Tryz.func206 rfl rfl (by rw [Tryz.ntmps206]; simp) fun cx hP hn hg => ?_
  rw [Tryz.ntmps206] at hn
  rw [startF_lk, none_mkM]
  simp only [List.nil_append, List.append_nil, List.cons_append, zipSV, Nat.reduceAdd]
  refine awp_seq ?_
  refine rg ?_
  refine qp m_box ?_
  refine qv m_as ?_
  show AWp cx _ _ _
  refine awp_seq ?_
  refine rg ?_
  refine qv (m_fdp fd65_0) ?_
  refine qv (m_ldp sz3 ag3) ?_
  refine qv (m_fdp fd65_1) ?_
  refine qv (m_ldp sz3 ag3) ?_
  refine qv m_mulN ?_
  refine qv (m_shlS (n.r * n.c)) ?_
  refine qv (m_subN (full n)) ?_
  refine qv m_as ?_
  show AWp cx _ _ _
  refine awp_ret ?_
  exact x1 (hr := (rI_))
end Go.Ab.Tryz
set_option linter.all false
namespace Go.Ab.Tryz
open Go Go.Ab Go.Proofs Go.Ab.Moss
theorem f210 (n : Mn) (ok : n.Ok) (k : Nat) (hk : k < n.r * n.c) : ACallsF Tryz.prog 210 [dMn n, i64 (k : Int)] (.one (.dv (i64 (arN n k : Int)))) := by
  have hN := ok.N2
  have hcp := ok.c1
  have hcq := ok.c2
  refine callsF_of Tryz.func210 rfl rfl (by rw [Tryz.ntmps210]; simp) fun cx hP hn hg => ?_
  rw [Tryz.ntmps210] at hn
  rw [startF_lk, none_mkM]
  simp only [List.nil_append, List.append_nil, List.cons_append, zipSV, Nat.reduceAdd]
  refine awp_seq ?_
  refine rg ?_
  refine qp m_box ?_
  refine qv m_as ?_
  show AWp cx _ _ _
  refine awp_seq ?_
  refine rg ?_
  refine qv m_as ?_
  show AWp cx _ _ _
  refine awp_seq ?_
  refine rd mixed ?_
  refine zv m_mv ?_
  refine zv (m_fdp fd65_1) ?_
  refine zv (m_ldp sz3 ag3) ?_
  refine zv m_quoN ?_
  refine zv m_mv ?_
  refine zv (m_fdp fd65_1) ?_
  refine zv (m_ldp sz3 ag3) ?_
  refine zv m_remN ?_
  refine zv m_as ?_
  refine zv m_as ?_
  refine ⟨by rfl, ?_⟩
  show AWp cx _ _ _
  refine awp_seq ?_
  refine awp_seq ?_
  refine rg ?_
  refine qv m_mv ?_
  refine qv m_gtr ?_
  show AWp cx _ _ _
  refine cd (fun hc0 => ?_) (fun hc0 => ?_)
  · simp only [decide_eq_true_eq, decide_eq_false_iff_not] at hc0
    have g0 : 0 < k / n.c := by omega
    have u0 := up_le g0
    refine rg ?_
    refine qv m_mv ?_
    refine qv m_mv ?_
    refine qv (m_fdp fd65_1) ?_
    refine qv (m_ldp sz3 ag3) ?_
    refine qv (m_subN (k - n.c)) ?_
    refine qv (m_shlS (k - n.c)) ?_
    first | refine qv m_orS ?_ | refine qv (m_orS (a := 0)) ?_
    refine qv m_as ?_
    show AWp cx _ _ _
    refine awp_seq ?_
    refine awp_seq ?_
    refine rg ?_
    refine qv m_mv ?_
    refine qv m_gtr ?_
    show AWp cx _ _ _
    refine cd (fun hc1 => ?_) (fun hc1 => ?_)
    · simp only [decide_eq_true_eq, decide_eq_false_iff_not] at hc1
      have g1 : 0 < k % n.c := by omega
      have u1 := left_le g1
      refine rg ?_
      refine qv m_mv ?_
      refine qv m_mv ?_
      refine qv (m_subN (k - 1)) ?_
      refine qv (m_shlS (k - 1)) ?_
      first | refine qv m_orS ?_ | refine qv (m_orS (a := 0)) ?_
      refine qv m_as ?_
      show AWp cx _ _ _
      refine awp_seq ?_
      refine awp_seq ?_
      refine rg ?_
      refine qv m_mv ?_
      refine qv (m_addN (a := k % n.c) (b := 1) (ha := by have := Nat.mod_lt k hcp; omega)) ?_
      refine qv (m_fdp fd65_1) ?_
      refine qv (m_ldp sz3 ag3) ?_
      refine qv m_lss ?_
      show AWp cx _ _ _
      refine cd (fun hc2 => ?_) (fun hc2 => ?_)
      · simp only [decide_eq_true_eq, decide_eq_false_iff_not] at hc2
        have g2 : k % n.c + 1 < n.c := by omega
        have u2 := right_lt hk hcp g2
        refine rg ?_
        refine qv m_mv ?_
        refine qv m_mv ?_
        refine qv (m_addN (b := 1)) ?_
        refine qv (m_shlS (k + 1)) ?_
        first | refine qv m_orS ?_ | refine qv (m_orS (a := 0)) ?_
        refine qv m_as ?_
        show AWp cx _ _ _
        refine awp_seq ?_
        refine awp_seq ?_
        refine rg ?_
        refine qv m_mv ?_
        refine qv (m_addN (a := k / n.c) (b := 1) (ha := by have := row_lt hk hcp; have := ok.r2; omega)) ?_
        refine qv (m_fdp fd65_0) ?_
        refine qv (m_ldp sz3 ag3) ?_
        refine qv m_lss ?_
        show AWp cx _ _ _
        refine cd (fun hc3 => ?_) (fun hc3 => ?_)
        · simp only [decide_eq_true_eq, decide_eq_false_iff_not] at hc3
          have g3 : k / n.c + 1 < n.r := by omega
          have u3 := down_lt hcp g3
          refine rg ?_
          refine qv m_mv ?_
          refine qv m_mv ?_
          refine qv (m_fdp fd65_1) ?_
          refine qv (m_ldp sz3 ag3) ?_
          refine qv m_addN ?_
          refine qv (m_shlS (k + n.c)) ?_
          first | refine qv m_orS ?_ | refine qv (m_orS (a := 0)) ?_
          refine qv m_as ?_
          show AWp cx _ _ _
          refine awp_seq ?_
          refine rg ?_
          refine qv m_mv ?_
          refine qv m_as ?_
          show AWp cx _ _ _
          refine awp_ret ?_
          exact x1 (hr := (rI_ (by simp only [arN, ar3, ar2, ar1, g0, g1, g2, g3, if_true, if_false] <;> rfl)))
        · simp only [decide_eq_true_eq, decide_eq_false_iff_not] at hc3
          have g3 : ¬ k / n.c + 1 < n.r := by omega
          refine awp_skip ?_
          show AWp cx _ _ _
          refine awp_seq ?_
          refine rg ?_
          refine qv m_mv ?_
          refine qv m_as ?_
          show AWp cx _ _ _
          refine awp_ret ?_
          exact x1 (hr := (rI_ (by simp only [arN, ar3, ar2, ar1, g0, g1, g2, g3, if_true, if_false] <;> rfl)))
      · simp only [decide_eq_true_eq, decide_eq_false_iff_not] at hc2
        have g2 : ¬ k % n.c + 1 < n.c := by omega
        refine awp_skip ?_
        show AWp cx _ _ _
        refine awp_seq ?_
        refine awp_seq ?_
        refine rg ?_
        refine qv m_mv ?_
        refine qv (m_addN (a := k / n.c) (b := 1) (ha := by have := row_lt hk hcp; have := ok.r2; omega)) ?_
        refine qv (m_fdp fd65_0) ?_
        refine qv (m_ldp sz3 ag3) ?_
        refine qv m_lss ?_
        show AWp cx _ _ _
        refine cd (fun hc3 => ?_) (fun hc3 => ?_)
        · simp only [decide_eq_true_eq, decide_eq_false_iff_not] at hc3
          have g3 : k / n.c + 1 < n.r := by omega
          have u3 := down_lt hcp g3
          refine rg ?_
          refine qv m_mv ?_
          refine qv m_mv ?_
          refine qv (m_fdp fd65_1) ?_
          refine qv (m_ldp sz3 ag3) ?_
          refine qv m_addN ?_
          refine qv (m_shlS (k + n.c)) ?_
          first | refine qv m_orS ?_ | refine qv (m_orS (a := 0)) ?_
          refine qv m_as ?_
          show AWp cx _ _ _
          refine awp_seq ?_
          refine rg ?_
          refine qv m_mv ?_
          refine qv m_as ?_
          show AWp cx _ _ _
          refine awp_ret ?_
          exact x1 (hr := (rI_ (by simp only [arN, ar3, ar2, ar1, g0, g1, g2, g3, if_true, if_false] <;> rfl)))
        · simp only [decide_eq_true_eq, decide_eq_false_iff_not] at hc3
          have g3 : ¬ k / n.c + 1 < n.r := by omega
          refine awp_skip ?_
          show AWp cx _ _ _
          refine awp_seq ?_
          refine rg ?_
          refine qv m_mv ?_
          refine qv m_as ?_
          show AWp cx _ _ _
          refine awp_ret ?_
          exact x1 (hr := (rI_ (by simp only [arN, ar3, ar2, ar1, g0, g1, g2, g3, if_true, if_false] <;> rfl)))
    · simp only [decide_eq_true_eq, decide_eq_false_iff_not] at hc1
      have g1 : ¬ 0 < k % n.c := by omega
      refine awp_skip ?_
      show AWp cx _ _ _
      refine awp_seq ?_
      refine awp_seq ?_
      refine rg ?_
      refine qv m_mv ?_
      refine qv (m_addN (a := k % n.c) (b := 1) (ha := by have := Nat.mod_lt k hcp; omega)) ?_
      refine qv (m_fdp fd65_1) ?_
      refine qv (m_ldp sz3 ag3) ?_
      refine qv m_lss ?_
      show AWp cx _ _ _
      refine cd (fun hc2 => ?_) (fun hc2 => ?_)
      · simp only [decide_eq_true_eq, decide_eq_false_iff_not] at hc2
        have g2 : k % n.c + 1 < n.c := by omega
        have u2 := right_lt hk hcp g2
        refine rg ?_
        refine qv m_mv ?_
        refine qv m_mv ?_
        refine qv (m_addN (b := 1)) ?_
        refine qv (m_shlS (k + 1)) ?_
        first | refine qv m_orS ?_ | refine qv (m_orS (a := 0)) ?_
        refine qv m_as ?_
        show AWp cx _ _ _
        refine awp_seq ?_
        refine awp_seq ?_
        refine rg ?_
        refine qv m_mv ?_
        refine qv (m_addN (a := k / n.c) (b := 1) (ha := by have := row_lt hk hcp; have := ok.r2; omega)) ?_
        refine qv (m_fdp fd65_0) ?_
        refine qv (m_ldp sz3 ag3) ?_
        refine qv m_lss ?_
        show AWp cx _ _ _
        refine cd (fun hc3 => ?_) (fun hc3 => ?_)
        · simp only [decide_eq_true_eq, decide_eq_false_iff_not] at hc3
          have g3 : k / n.c + 1 < n.r := by omega
          have u3 := down_lt hcp g3
          refine rg ?_
          refine qv m_mv ?_
          refine qv m_mv ?_
          refine qv (m_fdp fd65_1) ?_
          refine qv (m_ldp sz3 ag3) ?_
          refine qv m_addN ?_
          refine qv (m_shlS (k + n.c)) ?_
          first | refine qv m_orS ?_ | refine qv (m_orS (a := 0)) ?_
          refine qv m_as ?_
          show AWp cx _ _ _
          refine awp_seq ?_
          refine rg ?_
          refine qv m_mv ?_
          refine qv m_as ?_
          show AWp cx _ _ _
          refine awp_ret ?_
          exact x1 (hr := (rI_ (by simp only [arN, ar3, ar2, ar1, g0, g1, g2, g3, if_true, if_false] <;> rfl)))
        · simp only [decide_eq_true_eq, decide_eq_false_iff_not] at hc3
          have g3 : ¬ k / n.c + 1 < n.r := by omega
          refine awp_skip ?_
          show AWp cx _ _ _
          refine awp_seq ?_
          refine rg ?_
          refine qv m_mv ?_
          refine qv m_as ?_
          show AWp cx _ _ _
          refine awp_ret ?_
          exact x1 (hr := (rI_ (by simp only [arN, ar3, ar2, ar1, g0, g1, g2, g3, if_true, if_false] <;> rfl)))
      · simp only [decide_eq_true_eq, decide_eq_false_iff_not] at hc2
        have g2 : ¬ k % n.c + 1 < n.c := by omega
        refine awp_skip ?_
        show AWp cx _ _ _
        refine awp_seq ?_
        refine awp_seq ?_
        refine rg ?_
        refine qv m_mv ?_
        refine qv (m_addN (a := k / n.c) (b := 1) (ha := by have := row_lt hk hcp; have := ok.r2; omega)) ?_
        refine qv (m_fdp fd65_0) ?_
        refine qv (m_ldp sz3 ag3) ?_
        refine qv m_lss ?_
        show AWp cx _ _ _
        refine cd (fun hc3 => ?_) (fun hc3 => ?_)
        · simp only [decide_eq_true_eq, decide_eq_false_iff_not] at hc3
          have g3 : k / n.c + 1 < n.r := by omega
          have u3 := down_lt hcp g3
          refine rg ?_
          refine qv m_mv ?_
          refine qv m_mv ?_
          refine qv (m_fdp fd65_1) ?_
          refine qv (m_ldp sz3 ag3) ?_
          refine qv m_addN ?_
          refine qv (m_shlS (k + n.c)) ?_
          first | refine qv m_orS ?_ | refine qv (m_orS (a := 0)) ?_
          refine qv m_as ?_
          show AWp cx _ _ _
          refine awp_seq ?_
          refine rg ?_
          refine qv m_mv ?_
          refine qv m_as ?_
          show AWp cx _ _ _
          refine awp_ret ?_
          exact x1 (hr := (rI_ (by simp only [arN, ar3, ar2, ar1, g0, g1, g2, g3, if_true, if_false] <;> rfl)))
        · simp only [decide_eq_true_eq, decide_eq_false_iff_not] at hc3
          have g3 : ¬ k / n.c + 1 < n.r := by omega
          refine awp_skip ?_
          show AWp cx _ _ _
          refine awp_seq ?_
          refine rg ?_
          refine qv m_mv ?_
          refine qv m_as ?_
          show AWp cx _ _ _
          refine awp_ret ?_
          exact x1 (hr := (rI_ (by simp only [arN, ar3, ar2, ar1, g0, g1, g2, g3, if_true, if_false] <;> rfl)))
  · simp only [decide_eq_true_eq, decide_eq_false_iff_not] at hc0
    have g0 : ¬ 0 < k / n.c := by omega
    refine awp_skip ?_
    show AWp cx _ _ _
    refine awp_seq ?_
    refine awp_seq ?_
    refine rg ?_
    refine qv m_mv ?_
    refine qv m_gtr ?_
    show AWp cx _ _ _
    refine cd (fun hc1 => ?_) (fun hc1 => ?_)
    · simp only [decide_eq_true_eq, decide_eq_false_iff_not] at hc1
      have g1 : 0 < k % n.c := by omega
      have u1 := left_le g1
      refine rg ?_
      refine qv m_mv ?_
      refine qv m_mv ?_
      refine qv (m_subN (k - 1)) ?_
      refine qv (m_shlS (k - 1)) ?_
      first | refine qv m_orS ?_ | refine qv (m_orS (a := 0)) ?_
      refine qv m_as ?_
      show AWp cx _ _ _
      refine awp_seq ?_
      refine awp_seq ?_
      refine rg ?_
      refine qv m_mv ?_
      refine qv (m_addN (a := k % n.c) (b := 1) (ha := by have := Nat.mod_lt k hcp; omega)) ?_
      refine qv (m_fdp fd65_1) ?_
      refine qv (m_ldp sz3 ag3) ?_
      refine qv m_lss ?_
      show AWp cx _ _ _
      refine cd (fun hc2 => ?_) (fun hc2 => ?_)
      · simp only [decide_eq_true_eq, decide_eq_false_iff_not] at hc2
        have g2 : k % n.c + 1 < n.c := by omega
        have u2 := right_lt hk hcp g2
        refine rg ?_
        refine qv m_mv ?_
        refine qv m_mv ?_
        refine qv (m_addN (b := 1)) ?_
        refine qv (m_shlS (k + 1)) ?_
        first | refine qv m_orS ?_ | refine qv (m_orS (a := 0)) ?_
        refine qv m_as ?_
        show AWp cx _ _ _
        refine awp_seq ?_
        refine awp_seq ?_
        refine rg ?_
        refine qv m_mv ?_
        refine qv (m_addN (a := k / n.c) (b := 1) (ha := by have := row_lt hk hcp; have := ok.r2; omega)) ?_
        refine qv (m_fdp fd65_0) ?_
        refine qv (m_ldp sz3 ag3) ?_
        refine qv m_lss ?_
        show AWp cx _ _ _
        refine cd (fun hc3 => ?_) (fun hc3 => ?_)
        · simp only [decide_eq_true_eq, decide_eq_false_iff_not] at hc3
          have g3 : k / n.c + 1 < n.r := by omega
          have u3 := down_lt hcp g3
          refine rg ?_
          refine qv m_mv ?_
          refine qv m_mv ?_
          refine qv (m_fdp fd65_1) ?_
          refine qv (m_ldp sz3 ag3) ?_
          refine qv m_addN ?_
          refine qv (m_shlS (k + n.c)) ?_
          first | refine qv m_orS ?_ | refine qv (m_orS (a := 0)) ?_
          refine qv m_as ?_
          show AWp cx _ _ _
          refine awp_seq ?_
          refine rg ?_
          refine qv m_mv ?_
          refine qv m_as ?_
          show AWp cx _ _ _
          refine awp_ret ?_
          exact x1 (hr := (rI_ (by simp only [arN, ar3, ar2, ar1, g0, g1, g2, g3, if_true, if_false] <;> rfl)))
        · simp only [decide_eq_true_eq, decide_eq_false_iff_not] at hc3
          have g3 : ¬ k / n.c + 1 < n.r := by omega
          refine awp_skip ?_
          show AWp cx _ _ _
          refine awp_seq ?_
          refine rg ?_
          refine qv m_mv ?_
          refine qv m_as ?_
          show AWp cx _ _ _
          refine awp_ret ?_
          exact x1 (hr := (rI_ (by simp only [arN, ar3, ar2, ar1, g0, g1, g2, g3, if_true, if_false] <;> rfl)))
      · simp only [decide_eq_true_eq, decide_eq_false_iff_not] at hc2
        have g2 : ¬ k % n.c + 1 < n.c := by omega
        refine awp_skip ?_
        show AWp cx _ _ _
        refine awp_seq ?_
        refine awp_seq ?_
        refine rg ?_
        refine qv m_mv ?_
        refine qv (m_addN (a := k / n.c) (b := 1) (ha := by have := row_lt hk hcp; have := ok.r2; omega)) ?_
        refine qv (m_fdp fd65_0) ?_
        refine qv (m_ldp sz3 ag3) ?_
        refine qv m_lss ?_
        show AWp cx _ _ _
        refine cd (fun hc3 => ?_) (fun hc3 => ?_)
        · simp only [decide_eq_true_eq, decide_eq_false_iff_not] at hc3
          have g3 : k / n.c + 1 < n.r := by omega
          have u3 := down_lt hcp g3
          refine rg ?_
          refine qv m_mv ?_
          refine qv m_mv ?_
          refine qv (m_fdp fd65_1) ?_
          refine qv (m_ldp sz3 ag3) ?_
          refine qv m_addN ?_
          refine qv (m_shlS (k + n.c)) ?_
          first | refine qv m_orS ?_ | refine qv (m_orS (a := 0)) ?_
          refine qv m_as ?_
          show AWp cx _ _ _
          refine awp_seq ?_
          refine rg ?_
          refine qv m_mv ?_
          refine qv m_as ?_
          show AWp cx _ _ _
          refine awp_ret ?_
          exact x1 (hr := (rI_ (by simp only [arN, ar3, ar2, ar1, g0, g1, g2, g3, if_true, if_false] <;> rfl)))
        · simp only [decide_eq_true_eq, decide_eq_false_iff_not] at hc3
          have g3 : ¬ k / n.c + 1 < n.r := by omega
          refine awp_skip ?_
          show AWp cx _ _ _
          refine awp_seq ?_
          refine rg ?_
          refine qv m_mv ?_
          refine qv m_as ?_
          show AWp cx _ _ _
          refine awp_ret ?_
          exact x1 (hr := (rI_ (by simp only [arN, ar3, ar2, ar1, g0, g1, g2, g3, if_true, if_false] <;> rfl)))
    · simp only [decide_eq_true_eq, decide_eq_false_iff_not] at hc1
      have g1 : ¬ 0 < k % n.c := by omega
      refine awp_skip ?_
      show AWp cx _ _ _
      refine awp_seq ?_
      refine awp_seq ?_
      refine rg ?_
      refine qv m_mv ?_
      refine qv (m_addN (a := k % n.c) (b := 1) (ha := by have := Nat.mod_lt k hcp; omega)) ?_
      refine qv (m_fdp fd65_1) ?_
      refine qv (m_ldp sz3 ag3) ?_
      refine qv m_lss ?_
      show AWp cx _ _ _
      refine cd (fun hc2 => ?_) (fun hc2 => ?_)
      · simp only [decide_eq_true_eq, decide_eq_false_iff_not] at hc2
        have g2 : k % n.c + 1 < n.c := by omega
        have u2 := right_lt hk hcp g2
        refine rg ?_
        refine qv m_mv ?_
        refine qv m_mv ?_
        refine qv (m_addN (b := 1)) ?_
        refine qv (m_shlS (k + 1)) ?_
        first | refine qv m_orS ?_ | refine qv (m_orS (a := 0)) ?_
        refine qv m_as ?_
        show AWp cx _ _ _
        refine awp_seq ?_
        refine awp_seq ?_
        refine rg ?_
        refine qv m_mv ?_
        refine qv (m_addN (a := k / n.c) (b := 1) (ha := by have := row_lt hk hcp; have := ok.r2; omega)) ?_
        refine qv (m_fdp fd65_0) ?_
        refine qv (m_ldp sz3 ag3) ?_
        refine qv m_lss ?_
        show AWp cx _ _ _
        refine cd (fun hc3 => ?_) (fun hc3 => ?_)
        · simp only [decide_eq_true_eq, decide_eq_false_iff_not] at hc3
          have g3 : k / n.c + 1 < n.r := by omega
          have u3 := down_lt hcp g3
          refine rg ?_
          refine qv m_mv ?_
          refine qv m_mv ?_
          refine qv (m_fdp fd65_1) ?_
          refine qv (m_ldp sz3 ag3) ?_
          refine qv m_addN ?_
          refine qv (m_shlS (k + n.c)) ?_
          first | refine qv m_orS ?_ | refine qv (m_orS (a := 0)) ?_
          refine qv m_as ?_
          show AWp cx _ _ _
          refine awp_seq ?_
          refine rg ?_
          refine qv m_mv ?_
          refine qv m_as ?_
          show AWp cx _ _ _
          refine awp_ret ?_
          exact x1 (hr := (rI_ (by simp only [arN, ar3, ar2, ar1, g0, g1, g2, g3, if_true, if_false] <;> rfl)))
        · simp only [decide_eq_true_eq, decide_eq_false_iff_not] at hc3
          have g3 : ¬ k / n.c + 1 < n.r := by omega
          refine awp_skip ?_
          show AWp cx _ _ _
          refine awp_seq ?_
          refine rg ?_
          refine qv m_mv ?_
          refine qv m_as ?_
          show AWp cx _ _ _
          refine awp_ret ?_
          exact x1 (hr := (rI_ (by simp only [arN, ar3, ar2, ar1, g0, g1, g2, g3, if_true, if_false] <;> rfl)))
      · simp only [decide_eq_true_eq, decide_eq_false_iff_not] at hc2
        have g2 : ¬ k % n.c + 1 < n.c := by omega
        refine awp_skip ?_
        show AWp cx _ _ _
        refine awp_seq ?_
        refine awp_seq ?_
        refine rg ?_
        refine qv m_mv ?_
        refine qv (m_addN (a := k / n.c) (b := 1) (ha := by have := row_lt hk hcp; have := ok.r2; omega)) ?_
        refine qv (m_fdp fd65_0) ?_
        refine qv (m_ldp sz3 ag3) ?_
        refine qv m_lss ?_
        show AWp cx _ _ _
        refine cd (fun hc3 => ?_) (fun hc3 => ?_)
        · simp only [decide_eq_true_eq, decide_eq_false_iff_not] at hc3
          have g3 : k / n.c + 1 < n.r := by omega
          have u3 := down_lt hcp g3
          refine rg ?_
          refine qv m_mv ?_
          refine qv m_mv ?_
          refine qv (m_fdp fd65_1) ?_
          refine qv (m_ldp sz3 ag3) ?_
          refine qv m_addN ?_
          refine qv (m_shlS (k + n.c)) ?_
          first | refine qv m_orS ?_ | refine qv (m_orS (a := 0)) ?_
          refine qv m_as ?_
          show AWp cx _ _ _
          refine awp_seq ?_
          refine rg ?_
          refine qv m_mv ?_
          refine qv m_as ?_
          show AWp cx _ _ _
          refine awp_ret ?_
          exact x1 (hr := (rI_ (by simp only [arN, ar3, ar2, ar1, g0, g1, g2, g3, if_true, if_false] <;> rfl)))
        · simp only [decide_eq_true_eq, decide_eq_false_iff_not] at hc3
          have g3 : ¬ k / n.c + 1 < n.r := by omega
          refine awp_skip ?_
          show AWp cx _ _ _
          refine awp_seq ?_
          refine rg ?_
          refine qv m_mv ?_
          refine qv m_as ?_
          show AWp cx _ _ _
          refine awp_ret ?_
          exact x1 (hr := (rI_ (by simp only [arN, ar3, ar2, ar1, g0, g1, g2, g3, if_true, if_false] <;> rfl)))
end Go.Ab.Tryz
set_option linter.all false
namespace Go.Ab.Tryz
open Go Go.Ab Go.Proofs Go.Ab.Moss
theorem sq_get {N c k : Nat} {x : List DV} (h : ((List.range N).map (sqArg c))[k]? = some x) : k < N ∧ x = sqArg c k := by
  rw [List.getElem?_map, Option.map_eq_some_iff] at h
  obtain ⟨j, hj, rfl⟩ := h
  obtain ⟨h1, h2⟩ := List.getElem?_eq_some_iff.1 hj
  simp at h1 h2
  subst h2
  exact ⟨h1, rfl⟩
theorem from_wet {n : Mn} {w : Int} (h : fromB w 0 (full n) = true) : ∃ v : Nat, v ≤ full n ∧ w = (v : Int) := by
  simp only [fromB, Bool.and_eq_true, decide_eq_true_eq] at h
  exact ⟨w.toNat, by omega, by omega⟩
theorem f95 (m : Mw) : ACallsF Tryz.prog 95 [dMw m] (.one (.dv (i64 (valid m)))) := by
  refine callsF_of Tryz.func95 rfl rfl (by rw [Tryz.ntmps95]; simp) fun cx hP hn hg => ?_
  rw [Tryz.ntmps95] at hn
  rw [startF_lk, none_mkM]
  simp only [List.nil_append, List.append_nil, List.cons_append, zipSV, Nat.reduceAdd]
  refine awp_seq ?_
  refine rg ?_
  refine qp m_box ?_
  refine qv m_as ?_
  show AWp cx _ _ _
  refine awp_seq ?_
  refine awp_seq ?_
  refine rg ?_
  refine qv (m_fdp fd65_0) ?_
  refine qv (m_ldp sz3 ag3) ?_
  refine qqF (f135 m.rows 1 6) ?_
  refine qv m_not ?_
  refine qx m_mv (fun hg7 => ?_) (fun hg7 => ?_)
  · try simp at hg7
    refine qk ?_
    refine qk ?_
    refine qk ?_
    refine qk ?_
    refine qv m_pk ?_
    refine qv m_mv ?_
    refine qk ?_
    refine qk ?_
    refine qk ?_
    refine qk ?_
    refine qv m_pk ?_
    show AWp cx _ _ _
    refine cdT (hb := by first | rfl | simp | simp_all) (ht := ?_)
    refine awp_seq ?_
    refine rg ?_
    refine qv m_as ?_
    show AWp cx _ _ _
    refine awp_ret ?_
    exact x1 (hr := (rI_ (by simp_all [valid, validB])))
  · try simp at hg7
    refine qv (m_fdp fd65_1) ?_
    refine qv (m_ldp sz3 ag3) ?_
    refine qqF (f135 m.cols 1 6) ?_
    refine qv m_not ?_
    refine qv m_pk ?_
    refine qx m_mv (fun hg13 => ?_) (fun hg13 => ?_)
    · try simp at hg13
      refine qk ?_
      refine qk ?_
      refine qk ?_
      refine qk ?_
      refine qv m_pk ?_
      show AWp cx _ _ _
      refine cdT (hb := by first | rfl | simp | simp_all) (ht := ?_)
      refine awp_seq ?_
      refine rg ?_
      refine qv m_as ?_
      show AWp cx _ _ _
      refine awp_ret ?_
      exact x1 (hr := (rI_ (by simp_all [valid, validB])))
    · try simp at hg13
      refine qv (m_fdp fd65_2) ?_
      refine qv (m_ldp sz3 ag3) ?_
      refine qqF (f135 m.need 1 3) ?_
      refine qv m_not ?_
      refine qv m_pk ?_
      show AWp cx _ _ _
      refine cd (fun hc0 => ?_) (fun hc0 => ?_)
      · try simp at hc0
        refine awp_seq ?_
        refine rg ?_
        refine qv m_as ?_
        show AWp cx _ _ _
        refine awp_ret ?_
        exact x1 (hr := (rI_ (by simp_all [valid, validB])))
      · try simp at hc0
        refine awp_skip ?_
        show AWp cx _ _ _
        refine awp_seq ?_
        refine rg ?_
        refine qv m_as ?_
        show AWp cx _ _ _
        refine awp_ret ?_
        exact x1 (hr := (rI_ (by simp_all [valid, validB])))
theorem f187 (n : Mn) (ok : n.Ok) : ACallsF Tryz.prog 187 [dMn n] (.one (.dv (i64 ((n.r * n.c : Nat) : Int)))) := by
  have hN := ok.N2
  refine callsF_of Tryz.func187 rfl rfl (by rw [Tryz.ntmps187]; simp) fun cx hP hn hg => ?_
  rw [Tryz.ntmps187] at hn
  rw [startF_lk, none_mkM]
  simp only [List.nil_append, List.append_nil, List.cons_append, zipSV, Nat.reduceAdd]
  refine awp_seq ?_
  refine rg ?_
  refine qp m_box ?_
  refine qv m_as ?_
  show AWp cx _ _ _
  refine awp_seq ?_
  refine rg ?_
  refine qv (m_fdp fd65_0) ?_
  refine qv (m_ldp sz3 ag3) ?_
  refine qv (m_fdp fd65_1) ?_
  refine qv (m_ldp sz3 ag3) ?_
  refine qv m_mulN ?_
  refine qv m_as ?_
  show AWp cx _ _ _
  refine awp_ret ?_
  exact x1 (hr := (rI_))
def wetE (m : Mw) (w : Int) : Int := if validB m then (if fromB w 0 (2 ^ (m.rows * m.cols).toNat - 1) then 0 else 1) else 1
theorem wetE_n {n : Mn} (ok : n.Ok) {w : Int} : wetE n.w w = if fromB w 0 (full n) then 0 else 1 := by
  have e : (2 ^ ((n.r : Int) * (n.c : Int)).toNat - 1 : Int) = ((full n : Nat) : Int) := by
    rw [← Int.natCast_mul, Int.toNat_natCast]
    have := full_add (n := n)
    have h2 : (2 : Int) ^ (n.r * n.c) = ((2 ^ (n.r * n.c) : Nat) : Int) := by norm_cast
    rw [h2]; omega
  simp only [wetE, n_valid ok, if_true]
  rw [show (n.w.rows * n.w.cols) = (n.r : Int) * (n.c : Int) from rfl, e]
theorem wetE_ok {m : Mw} {w : Int} (h : wetE m w = 0) : ∃ (n : Mn) (v : Nat), n.Ok ∧ m = n.w ∧ w = (v : Int) ∧ v ≤ full n := by
  by_cases hv : validB m = true
  · obtain ⟨n, ok, rfl⟩ := valid_n hv
    rw [wetE_n ok] at h
    split at h
    · rename_i h1
      obtain ⟨v, h2, h3⟩ := from_wet h1
      exact ⟨n, v, ok, rfl, h3, h2⟩
    · cases h
  · simp [wetE, hv] at h
theorem f181 (m : Mw) (w : Int) : ACallsF Tryz.prog 181 [dMw m, i64 w] (.one (.dv (i64 (wetE m w)))) := by
  refine callsF_of Tryz.func181 rfl rfl (by rw [Tryz.ntmps181]; simp) fun cx hP hn hg => ?_
  rw [Tryz.ntmps181] at hn
  rw [startF_lk, none_mkM]
  simp only [List.nil_append, List.append_nil, List.cons_append, zipSV, Nat.reduceAdd]
  refine awp_seq ?_
  refine rg ?_
  refine qp m_box ?_
  refine qv m_as ?_
  show AWp cx _ _ _
  refine awp_seq ?_
  refine awp_seq ?_
  refine rg ?_
  refine qv (m_ldpa sz65 ag65) ?_
  refine qqF (f95 m) ?_
  refine qv m_as ?_
  show AWp cx _ _ _
  refine awp_seq ?_
  refine rg ?_
  refine qv m_mv ?_
  refine qv m_neq ?_
  show AWp cx _ _ _
  refine cd (fun hc0 => ?_) (fun hc0 => ?_)
  · skip
    have hv : validB m = false := by simpa [valid] using hc0
    refine awp_seq ?_
    refine rg ?_
    refine qv m_mv ?_
    refine qv m_as ?_
    show AWp cx _ _ _
    refine awp_ret ?_
    exact x1 (hr := (rI_ (by simp [wetE, valid, hv])))
  · skip
    have hv : validB m = true := by simpa [valid] using hc0
    obtain ⟨n, ok, rfl⟩ := valid_n hv
    have hw := wetE_n ok (w := w)
    refine awp_skip ?_
    show AWp cx _ _ _
    refine awp_seq ?_
    refine awp_seq ?_
    refine rg ?_
    refine qv m_mv ?_
    refine qv (m_ldpa sz65 ag65) ?_
    refine qqF (f206 n ok) ?_
    refine qqF (f135 w 0 (full n)) ?_
    refine qv m_not ?_
    show AWp cx _ _ _
    refine cd (fun hc1 => ?_) (fun hc1 => ?_)
    · try simp at hc1
      refine awp_seq ?_
      refine rg ?_
      refine qv m_as ?_
      show AWp cx _ _ _
      refine awp_ret ?_
      exact x1 (hr := (rI_ (by simp_all)))
    · try simp at hc1
      refine awp_skip ?_
      show AWp cx _ _ _
      refine awp_seq ?_
      refine rg ?_
      refine qv m_as ?_
      show AWp cx _ _ _
      refine awp_ret ?_
      exact x1 (hr := (rI_ (by simp_all)))
theorem f207 (n : Mn) : ACalls Tryz.prog 207 [dMn n] (.one (.dv (.fn 231 [] [.cptr [i64 (n.r : Int), i64 (n.c : Int), i64 (n.nd : Int)]]))) := by
  refine callsA_of Tryz.func207 rfl rfl (by rw [Tryz.ntmps207]; simp) fun cx hP hn hg => ?_
  rw [Tryz.ntmps207] at hn
  rw [startF_lk, none_mkM]
  simp only [List.nil_append, List.append_nil, List.cons_append, zipSV, Nat.reduceAdd]
  refine awp_seq ?_
  refine rg ?_
  refine qp m_box ?_
  refine qv m_as ?_
  show AWp cx _ _ _
  refine awp_seq ?_
  refine rg ?_
  refine qfn ?_
  refine qv m_as ?_
  show AWp cx _ _ _
  refine awp_ret ?_
  exact x1 (hr := (rD_))
end Go.Ab.Tryz
