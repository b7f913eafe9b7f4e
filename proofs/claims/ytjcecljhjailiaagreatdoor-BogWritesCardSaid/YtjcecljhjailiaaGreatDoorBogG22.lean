/- BogH3, BogH4. -/
import Derived.Test.YtjcecljhjailiaaGreatDoorBogG21
import Derived.Test.YtjcecljhjailiaaGreatDoorBogG09
import Derived.Test.YtjcecljhjailiaaGreatDoorBogG20
set_option linter.all false
namespace Go.Ab.Tryz.H
open Go Go.Ab Go.Ab.Tryz Go.Proofs Go.Ab.Heap
end Go.Ab.Tryz.H
set_option linter.all false
namespace Go.Ab.Tryz.H
open Go Go.Ab Go.Ab.Tryz Go.Proofs Go.Ab.Heap
def hiB (h : Hp) (c : List Int) (i : Nat) : Bool := decide (h.sp.lim i ≤ ata c i)
def high (h : Hp) (c : List Int) : Int := match (List.range h.ground.length).find? (hiB h c) with | some i => i | none => -1
theorem high_hit {h : Hp} {c : List Int} {i : Nat} (hi : i < h.ground.length) (hp : h.sp.lim i ≤ ata c i) (hj : ∀ j, j < i → ata c j < h.sp.lim j) : high h c = i := by
  have : (List.range h.ground.length).find? (hiB h c) = some i := by
    rw [List.find?_range_eq_some]
    exact ⟨by simp [hiB, hp], by simpa using hi, fun j h2 => by have := hj j h2; simp [hiB]; omega⟩
  unfold high; rw [this]
theorem high_miss {h : Hp} {c : List Int} (hj : calmB h c) : high h c = -1 := by
  have : (List.range h.ground.length).find? (hiB h c) = none := by
    rw [List.find?_eq_none]
    intro j h2; have := hj j (by simpa using h2); simp [hiB]; omega
  unfold high; rw [this]
theorem high_cases (h : Hp) (c : List Int) : (high h c = -1 ∧ calmB h c) ∨ ∃ i, i < h.ground.length ∧ high h c = (i : Nat) ∧ h.sp.lim i ≤ ata c i := by
  by_cases hc : calmB h c
  · exact .inl ⟨high_miss hc, hc⟩
  · right
    cases e : (List.range h.ground.length).find? (hiB h c) with
    | none =>
      exfalso
      rw [List.find?_eq_none] at e
      refine hc fun j hj => ?_
      have := e j (by simpa using hj)
      simp [hiB] at this; omega
    | some i =>
      have h1 := List.find?_some e
      have h2 := List.mem_of_find?_eq_some e
      exact ⟨i, by simpa using h2, by unfold high; rw [e], by simpa [hiB] using h1⟩
def tpK (h : Hp) (L : List Int) (i : Nat) (k : Int) (q : Nat) : List Int := (List.range h.ground.length).map fun j => ata L j - (if j = i then k * h.sp.lim i else 0) + (if j < q then k * lnk h i j else 0)
theorem map_set {n p : Nat} {f g : Nat → Int} {x : Int} (h : ∀ q, q < n → q ≠ p → f q = g q) (hv : p < n → x = g p) : ((List.range n).map f).set p x = (List.range n).map g := by
  apply List.ext_getElem
  · simp
  · intro j h1 h2
    have hj : j < n := by simpa using h2
    rw [List.getElem_set]
    split
    · rename_i e; subst e; simpa using hv hj
    · rename_i e; simpa using h j hj (fun e' => e e'.symm)
theorem tpK_len {h : Hp} {L : List Int} {i q : Nat} {k : Int} : (tpK h L i k q).length = h.ground.length := by simp [tpK]
theorem tpK_at {h : Hp} {L : List Int} {i q j : Nat} {k : Int} (hj : j < h.ground.length) : ata (tpK h L i k q) j = ata L j - (if j = i then k * h.sp.lim i else 0) + (if j < q then k * lnk h i j else 0) := ata_mk hj
theorem tpK_zero {h : Hp} {L : List Int} {i : Nat} {k : Int} (hl : L.length = h.ground.length) : L.set i (ata L i - k * h.sp.lim i) = tpK h L i k 0 := by
  rw [list_ext (a := L) (n := h.ground.length) (f := ata L) hl fun _ _ => rfl]
  refine (map_set (fun q hq hne => ?_) fun hi => ?_).trans rfl
  · rw [if_neg hne, if_neg (Nat.not_lt_zero q)]
    rw [ata_mk hq]; omega
  · rw [if_pos rfl, if_neg (Nat.not_lt_zero i), ata_mk hi]; omega
theorem tpK_succ {h : Hp} {L : List Int} {i q : Nat} {k : Int} (hq : q < h.ground.length) : (tpK h L i k q).set q (ata (tpK h L i k q) q + k * lnk h i q) = tpK h L i k (q + 1) := by
  refine map_set (fun j _ hne => ?_) fun _ => ?_
  · by_cases h1 : j < q
    · rw [if_pos h1, if_pos (show j < q + 1 by omega)]
    · rw [if_neg h1, if_neg (show ¬ j < q + 1 by omega)]
  · rw [tpK_at hq, if_neg (Nat.lt_irrefl q), if_pos (Nat.lt_succ_self q)]; omega
theorem tpK_full {h : Hp} {L : List Int} {i : Nat} {k : Int} : tpK h L i k h.ground.length = topL h L i k := by
  unfold tpK topL
  refine List.map_congr_left fun j hj => ?_
  rw [if_pos (show j < h.ground.length by simpa using hj)]
theorem prod_bd {k l K : Int} (h1 : -K ≤ k) (h2 : k ≤ K) (h3 : 0 ≤ l) (h4 : l ≤ 12) : -(12 * K) ≤ k * l ∧ k * l ≤ 12 * K := by
  have := mul_abs (a := k) (b := l) (A := K) (B := 12) h1 h2 (by omega) h4
  omega
theorem lnk_bd {h : Hp} (v : VH h) {i q : Nat} (hi : i < h.ground.length) (hq : q < h.ground.length) : 0 ≤ lnk h i q ∧ lnk h i q ≤ 12 := by have := v.lb i q hi hq; omega
theorem f130 (h : Hp) (v : VH h) (c : List Int) (hc : c.length = h.ground.length) : ACallsF Tryz.prog 130 [dHp h, ints c] (.one (.dv (i64 (high h c)))) := by
  have h5 := v.n5
  refine callsF_of Tryz.func130 rfl rfl (by rw [Tryz.ntmps130]; simp) fun cx hP hn hg => ?_
  rw [Tryz.ntmps130] at hn
  rw [startF_lk, none_mkM]
  simp only [List.nil_append, List.append_nil, List.cons_append, zipSV, Nat.reduceAdd]
  refine awp_seq ?_
  refine rg ?_
  refine qp m_box ?_
  refine qv m_as ?_
  show AWp cx _ _ _
  refine awp_seq ?_
  refine awp_seq ?_
  refine rg ?_
  refine qv m_mv ?_
  refine qv (m_len il25) ?_
  refine qv m_mv ?_
  show AWp cx _ _ _
  refine awp_block ?_
  refine awp_loop (ι := Nat) (fun i => ⟨lk [(2, .pt 2 0 0), (7, .dv (ints (c))), (8, .dv (i64 ((c.length : Int)))), (9, .dv (i64 (i : Nat)))], mkM [(2, 0, some ⟨[.dv (.list ((h.links).map ints)), .dv (ints (h.ground))], 0, 27, 0, false⟩)]⟩) (fun i => i ≤ h.ground.length ∧ ∀ j, j < i → ata c j < h.sp.lim j) (fun i => h.ground.length - i) 0 (by simp) (tl [(2, 2)]) ?_
  intro i hφ0
  refine awp_seq ?_
  refine rg ?_
  refine qv m_lss ?_
  show AWp cx _ _ _
  refine awp_seq ?_
  refine cd (fun hc0 => ?_) (fun hc0 => ?_)
  · try simp at hc0
    refine awp_skip ?_
    show AWp cx _ _ _
    refine awp_seq ?_
    refine awp_block ?_
    refine awp_seq ?_
    refine rg ?_
    have hi : i < h.ground.length := by omega
    have hgi := ata_get (a := c) (i := i) (by omega)
    refine qv m_mv ?_
    first | refine qv (m_ixN el25 sz3) ?_ | refine qv (m_ix el25 sz3) ?_
    refine qv (m_ld sz3 ag3) ?_
    refine qv m_as ?_
    refine qv m_as ?_
    show AWp cx _ _ _
    refine awp_seq ?_
    refine rg ?_
    refine qv m_mv ?_
    refine qv (m_ldpa sz27 ag27) ?_
    refine qv m_mv ?_
    refine qqF (f166 h v i hi) ?_
    refine qv m_geq ?_
    show AWp cx _ _ _
    refine cd (fun hc1 => ?_) (fun hc1 => ?_)
    · try simp at hc1
      refine awp_seq ?_
      refine rg ?_
      refine qv m_mv ?_
      refine qv m_as ?_
      show AWp cx _ _ _
      refine awp_ret ?_
      exact x1 (hr := (rI_ (by rw [high_hit hi (by omega) hφ0.2])))
    · try simp at hc1
      refine awp_skip ?_
      show AWp cx _ _ _
      refine rg ?_
      refine qv m_add ?_
      refine qv m_mv ?_
      refine ⟨i + 1, ?_, (by simp only; omega), (tl [(2, 2)])⟩
      refine ⟨by omega, fun j hj => ?_⟩
      rcases Nat.lt_or_ge j i with h1 | h1
      · exact hφ0.2 j h1
      · obtain rfl : j = i := by omega
        omega
  · try simp at hc0
    refine awp_exit ?_
    show AWp cx _ _ _
    refine awp_seq ?_
    refine rg ?_
    refine qv m_as ?_
    show AWp cx _ _ _
    refine awp_ret ?_
    exact x1 (hr := (rI_ (by rw [high_miss fun j hj => hφ0.2 j (by omega)])))
set_option maxHeartbeats 4000000 in
theorem f233 (h : Hp) (v : VH h) (L : List Int) (i : Nat) (k : Int) (hl : L.length = h.ground.length) (hi : i < h.ground.length) (hb : ∀ j, j < h.ground.length → -1000000000 ≤ ata L j ∧ ata L j ≤ 1000000000) (hk : -1000000 ≤ k ∧ k ≤ 1000000) :
    ACallsG Tryz.prog 233 [.dv (dHp h), .sl 100000 0 0 h.ground.length, .dv (i64 (i : Int)), .dv (i64 k)] (mkB [(100000, lentI 0 L)]) ⟨[], mkB [(100000, lentI 0 (topL h L i k))]⟩ := by
  have hgl := v.get hi
  have hrl := v.row i hi
  have h5 := v.n5
  have hL1 := v.lim1 hi
  have hL2 := v.lim12 hi
  have hbi := hb i hi
  have hgi := ata_get (a := L) (i := i) (by omega)
  have hkl := prod_bd hk.1 hk.2 (l := h.sp.lim i) (by omega) hL2
  refine callsG_of Tryz.func233 rfl rfl (by rw [Tryz.ntmps233]; simp) fun cx hP hn hg => ?_
  rw [Tryz.ntmps233] at hn
  refine startG ?_
  refine awp_seq ?_
  refine rg ?_
  refine qp m_box ?_
  show AWp cx _ _ _
  refine awp_seq ?_
  refine rd mixed ?_
  refine zv m_mv ?_
  refine zv m_mv ?_
  refine zv (m_ixR el25 sz3) ?_
  refine zv (m_ldI sz3 ag3 (hq := hgi)) ?_
  refine zv m_mv ?_
  refine zv (m_ldpa sz27 ag27) ?_
  refine zv m_mv ?_
  refine zqF (R := []) (f166 h v i hi) ?_
  refine zv m_mul ?_
  refine zv m_sub ?_
  refine zv (m_ixR el25 sz3) ?_
  first | refine zs (m_stI sz3) ?_ | refine zs (m_st sz3) ?_
  refine ⟨by rfl, ?_⟩
  show AWp cx _ _ _
  refine awp_seq ?_
  have hz := tpK_zero (i := i) (k := k) hl
  refine rg ?_
  refine qv (m_fdp fd27_0) ?_
  refine qv (m_ldp sz22 ag22) ?_
  refine qv m_mv ?_
  first | refine qv (m_ixN el22 sz25) ?_ | refine qv (m_ix el22 sz25) ?_
  refine qv (m_ld sz25 ag25) ?_
  refine qv (m_len il25) ?_
  refine qv m_mv ?_
  show AWp cx _ _ _
  refine awp_block ?_
  refine awp_loop (ι := Nat) (fun q => ⟨lk [(1, .sl 100000 0 0 h.ground.length), (3, .dv (i64 (k))), (25, .dv (ints (lrow h i))), (26, .dv (i64 (((lrow h i).length : Int)))), (27, .dv (i64 (q : Nat)))], mkM [(100000, 0, some (lentI 0 (tpK h L i k q)))]⟩) (fun q => q ≤ h.ground.length) (fun q => h.ground.length - q) 0 (by simp) (tl [(100000, 100000)] (hF := by simp [FLe, svLe, lk, mkM, isLive, tauL, hz]) (hM := by simp [MLe, blkLe, svLe, svLes, lk, mkM, isLive, tauL, svLes_ints, svLes_self, isDvs, isDvs_map, isDvs_app, isDvs_take, isDvs_set, isDvs_repl, hz])) ?_
  intro q hφ0
  refine awp_seq ?_
  refine rg ?_
  refine qv m_lss ?_
  show AWp cx _ _ _
  refine awp_seq ?_
  refine cd (fun hc0 => ?_) (fun hc0 => ?_)
  · try simp at hc0
    refine awp_skip ?_
    show AWp cx _ _ _
    refine awp_seq ?_
    refine awp_block ?_
    refine awp_seq ?_
    refine rg ?_
    have hq : q < h.ground.length := by omega
    have hl2 := v.get2 hi hq
    have hlb := lnk_bd v hi hq
    have htl := tpK_len (h := h) (L := L) (i := i) (q := q) (k := k)
    have hgq := ata_get (a := tpK h L i k q) (i := q) (by omega)
    have hsc := tpK_succ (L := L) (i := i) (k := k) hq
    have hbq := hb q hq
    have hkq := prod_bd hk.1 hk.2 hlb.1 hlb.2
    have hat := tpK_at (L := L) (i := i) (q := q) (k := k) hq
    have hab : -1100000000 ≤ ata (tpK h L i k q) q ∧ ata (tpK h L i k q) q ≤ 1100000000 := by
      rw [hat, if_neg (Nat.lt_irrefl q)]
      split <;> omega
    refine qv m_mv ?_
    first | refine qv (m_ixN el25 sz3) ?_ | refine qv (m_ix el25 sz3) ?_
    refine qv (m_ld sz3 ag3) ?_
    refine qv m_as ?_
    refine qv m_as ?_
    show AWp cx _ _ _
    refine rg ?_
    refine qv m_mv ?_
    refine qv m_mv ?_
    refine qv (m_ixR el25 sz3) ?_
    first | refine qv (m_ldI sz3 ag3) ?_ | refine qv (m_ldp sz3 ag3) ?_
    refine qv m_mv ?_
    refine qv m_mv ?_
    refine qv m_mul ?_
    refine qv m_add ?_
    refine qv (m_ixR el25 sz3) ?_
    first | refine qs (m_stI sz3) ?_ | refine qs (m_st sz3) ?_
    show AWp cx _ _ _
    refine rg ?_
    refine qv m_add ?_
    refine qv m_mv ?_
    exact ⟨q + 1, hq, (by simp only; omega), (tl [(100000, 100000)] (hF := by simp [FLe, svLe, lk, mkM, isLive, tauL, hsc]) (hM := by simp [MLe, blkLe, svLe, svLes, lk, mkM, isLive, tauL, svLes_ints, svLes_self, isDvs, isDvs_map, isDvs_app, isDvs_take, isDvs_set, isDvs_repl, hsc]))⟩
  · try simp at hc0
    refine awp_exit ?_
    obtain rfl : q = h.ground.length := by omega
    rw [tpK_full]
    exact xg [(100000, 100000)]
end Go.Ab.Tryz.H
