/- Heap4, Heap5, Heap6, Heap7. -/
import Derived.Test.YtapabnafbfnjnaaHeapPB
import Derived.Test.YtapabnafbfnjnaaHeapFacts
import Derived.Test.YtapabnafbfnjnaaHeapPT
import Derived.Test.YtapabnafbfnjnaaHeapPT
set_option linter.all false
set_option linter.all false
namespace Go.Ab.Try
open Go Go.Ab Go.Proofs Go.Ab.Heap
def hiB (h : Hp) (c : List Int) (i : Nat) : Bool := decide (h.sp.lim i ≤ ata c i)
def high (h : Hp) (c : List Int) : Int := match (List.range h.ground.length).find? (hiB h c) with | some i => i | none => -1
theorem high_hit {h : Hp} {c : List Int} {i : Nat} (hi : i < h.ground.length) (hp : h.sp.lim i ≤ ata c i) (hj : ∀ j, j < i → ata c j < h.sp.lim j) : high h c = i := by
  have : (List.range h.ground.length).find? (hiB h c) = some i := by
    rw [List.find?_range_eq_some]
    exact ⟨by simp [hiB, hp], by simpa using hi, fun j h2 => by have := hj j h2; simp [hiB]; omega⟩
  unfold high; rw [this]
theorem high_miss {h : Hp} {c : List Int} (hj : calmB h c) : high h c = -1 := by
  have : (List.range h.ground.length).find? (hiB h c) = none := by
    rw [List.find?_eq_none]
    intro j h2; have := hj j (by simpa using h2); simp [hiB]; omega
  unfold high; rw [this]
theorem high_cases (h : Hp) (c : List Int) : (high h c = -1 ∧ calmB h c) ∨ ∃ i, i < h.ground.length ∧ high h c = (i : Nat) ∧ h.sp.lim i ≤ ata c i := by
  by_cases hc : calmB h c
  · exact .inl ⟨high_miss hc, hc⟩
  · right
    cases e : (List.range h.ground.length).find? (hiB h c) with
    | none =>
      exfalso
      rw [List.find?_eq_none] at e
      refine hc fun j hj => ?_
      have := e j (by simpa using hj)
      simp [hiB] at this; omega
    | some i =>
      have h1 := List.find?_some e
      have h2 := List.mem_of_find?_eq_some e
      exact ⟨i, by simpa using h2, by unfold high; rw [e], by simpa [hiB] using h1⟩
def tpK (h : Hp) (L : List Int) (i : Nat) (k : Int) (q : Nat) : List Int := (List.range h.ground.length).map fun j => ata L j - (if j = i then k * h.sp.lim i else 0) + (if j < q then k * lnk h i j else 0)
theorem map_set {n p : Nat} {f g : Nat → Int} {x : Int} (h : ∀ q, q < n → q ≠ p → f q = g q) (hv : p < n → x = g p) : ((List.range n).map f).set p x = (List.range n).map g := by
  apply List.ext_getElem
  · simp
  · intro j h1 h2
    have hj : j < n := by simpa using h2
    rw [List.getElem_set]
    split
    · rename_i e; subst e; simpa using hv hj
    · rename_i e; simpa using h j hj (fun e' => e e'.symm)
theorem tpK_len {h : Hp} {L : List Int} {i q : Nat} {k : Int} : (tpK h L i k q).length = h.ground.length := by simp [tpK]
theorem tpK_at {h : Hp} {L : List Int} {i q j : Nat} {k : Int} (hj : j < h.ground.length) : ata (tpK h L i k q) j = ata L j - (if j = i then k * h.sp.lim i else 0) + (if j < q then k * lnk h i j else 0) := ata_mk hj
theorem tpK_zero {h : Hp} {L : List Int} {i : Nat} {k : Int} (hl : L.length = h.ground.length) : L.set i (ata L i - k * h.sp.lim i) = tpK h L i k 0 := by
  rw [list_ext (a := L) (n := h.ground.length) (f := ata L) hl fun _ _ => rfl]
  refine (map_set (fun q hq hne => ?_) fun hi => ?_).trans rfl
  · rw [if_neg hne, if_neg (Nat.not_lt_zero q)]
    rw [ata_mk hq]; omega
  · rw [if_pos rfl, if_neg (Nat.not_lt_zero i), ata_mk hi]; omega
theorem tpK_succ {h : Hp} {L : List Int} {i q : Nat} {k : Int} (hq : q < h.ground.length) : (tpK h L i k q).set q (ata (tpK h L i k q) q + k * lnk h i q) = tpK h L i k (q + 1) := by
  refine map_set (fun j _ hne => ?_) fun _ => ?_
  · by_cases h1 : j < q
    · rw [if_pos h1, if_pos (show j < q + 1 by omega)]
    · rw [if_neg h1, if_neg (show ¬ j < q + 1 by omega)]
  · rw [tpK_at hq, if_neg (Nat.lt_irrefl q), if_pos (Nat.lt_succ_self q)]; omega
theorem tpK_full {h : Hp} {L : List Int} {i : Nat} {k : Int} : tpK h L i k h.ground.length = topL h L i k := by
  unfold tpK topL
  refine List.map_congr_left fun j hj => ?_
  rw [if_pos (show j < h.ground.length by simpa using hj)]
theorem prod_bd {k l K : Int} (h1 : -K ≤ k) (h2 : k ≤ K) (h3 : 0 ≤ l) (h4 : l ≤ 12) : -(12 * K) ≤ k * l ∧ k * l ≤ 12 * K := by
  have := mul_abs (a := k) (b := l) (A := K) (B := 12) h1 h2 (by omega) h4
  omega
theorem lnk_bd {h : Hp} (v : VH h) {i q : Nat} (hi : i < h.ground.length) (hq : q < h.ground.length) : 0 ≤ lnk h i q ∧ lnk h i q ≤ 12 := by have := v.lb i q hi hq; omega
theorem f85 (h : Hp) (v : VH h) (c : List Int) (hc : c.length = h.ground.length) : ACallsF Try.prog 85 [dHp h, ints c] (.one (.dv (i64 (high h c)))) := by
  have h5 := v.n5
  refine callsF_of Try.func85 rfl rfl (by rw [Try.ntmps85]; simp) fun cx hP hn hg => ?_
  rw [Try.ntmps85] at hn
  rw [startF_lk, none_mkM]
  simp only [List.nil_append, List.append_nil, List.cons_append, zipSV, Nat.reduceAdd]
  refine awp_seq ?_
  refine rg ?_
  refine qp m_box ?_
  refine qv m_as ?_
  show AWp cx _ _ _
  refine awp_seq ?_
  refine awp_seq ?_
  refine rg ?_
  refine qv m_mv ?_
  refine qv (m_len il23) ?_
  refine qv m_mv ?_
  show AWp cx _ _ _
  refine awp_block ?_
  refine awp_loop (ι := Nat) (fun i => ⟨lk [(2, .pt 2 0 0), (7, .dv (ints (c))), (8, .dv (i64 ((c.length : Int)))), (9, .dv (i64 (i : Nat)))], mkM [(2, 0, some ⟨[.dv (.list ((h.links).map ints)), .dv (ints (h.ground))], 0, 25, 0, false⟩)]⟩) (fun i => i ≤ h.ground.length ∧ ∀ j, j < i → ata c j < h.sp.lim j) (fun i => h.ground.length - i) 0 (by simp) (tl [(2, 2)]) ?_
  intro i hφ0
  refine awp_seq ?_
  refine rg ?_
  refine qv m_lss ?_
  show AWp cx _ _ _
  refine awp_seq ?_
  refine cd (fun hc0 => ?_) (fun hc0 => ?_)
  · try simp at hc0
    refine awp_skip ?_
    show AWp cx _ _ _
    refine awp_seq ?_
    refine awp_block ?_
    refine awp_seq ?_
    refine rg ?_
    have hi : i < h.ground.length := by omega
    have hgi := ata_get (a := c) (i := i) (by omega)
    refine qv m_mv ?_
    first | refine qv (m_ixN el23 sz3) ?_ | refine qv (m_ix el23 sz3) ?_
    refine qv (m_ld sz3 ag3) ?_
    refine qv m_as ?_
    refine qv m_as ?_
    show AWp cx _ _ _
    refine awp_seq ?_
    refine rg ?_
    refine qv m_mv ?_
    refine qv (m_ldpa sz25 ag25) ?_
    refine qv m_mv ?_
    refine qqF (f60 h v i hi) ?_
    refine qv m_geq ?_
    show AWp cx _ _ _
    refine cd (fun hc1 => ?_) (fun hc1 => ?_)
    · try simp at hc1
      refine awp_seq ?_
      refine rg ?_
      refine qv m_mv ?_
      refine qv m_as ?_
      show AWp cx _ _ _
      refine awp_ret ?_
      exact x1 (hr := (rI_ (by rw [high_hit hi (by omega) hφ0.2])))
    · try simp at hc1
      refine awp_skip ?_
      show AWp cx _ _ _
      refine rg ?_
      refine qv m_add ?_
      refine qv m_mv ?_
      refine ⟨i + 1, ?_, (by simp only; omega), (tl [(2, 2)])⟩
      refine ⟨by omega, fun j hj => ?_⟩
      rcases Nat.lt_or_ge j i with h1 | h1
      · exact hφ0.2 j h1
      · obtain rfl : j = i := by omega
        omega
  · try simp at hc0
    refine awp_exit ?_
    show AWp cx _ _ _
    refine awp_seq ?_
    refine rg ?_
    refine qv m_as ?_
    show AWp cx _ _ _
    refine awp_ret ?_
    exact x1 (hr := (rI_ (by rw [high_miss fun j hj => hφ0.2 j (by omega)])))
set_option maxHeartbeats 4000000 in
theorem f82 (h : Hp) (v : VH h) (L : List Int) (i : Nat) (k : Int) (hl : L.length = h.ground.length) (hi : i < h.ground.length) (hb : ∀ j, j < h.ground.length → -1000000000 ≤ ata L j ∧ ata L j ≤ 1000000000) (hk : -1000000 ≤ k ∧ k ≤ 1000000) :
    ACallsG Try.prog 82 [.dv (dHp h), .sl 100000 0 0 h.ground.length, .dv (i64 (i : Int)), .dv (i64 k)] (mkB [(100000, lentI 0 L)]) ⟨[], mkB [(100000, lentI 0 (topL h L i k))]⟩ := by
  have hgl := v.get hi
  have hrl := v.row i hi
  have h5 := v.n5
  have hL1 := v.lim1 hi
  have hL2 := v.lim12 hi
  have hbi := hb i hi
  have hgi := ata_get (a := L) (i := i) (by omega)
  have hkl := prod_bd hk.1 hk.2 (l := h.sp.lim i) (by omega) hL2
  refine callsG_of Try.func82 rfl rfl (by rw [Try.ntmps82]; simp) fun cx hP hn hg => ?_
  rw [Try.ntmps82] at hn
  refine startG ?_
  refine awp_seq ?_
  refine rg ?_
  refine qp m_box ?_
  show AWp cx _ _ _
  refine awp_seq ?_
  refine rd mixed ?_
  refine zv m_mv ?_
  refine zv m_mv ?_
  refine zv (m_ixR el23 sz3) ?_
  refine zv (m_ldI sz3 ag3 (hq := hgi)) ?_
  refine zv m_mv ?_
  refine zv (m_ldpa sz25 ag25) ?_
  refine zv m_mv ?_
  refine zqF (R := []) (f60 h v i hi) ?_
  refine zv m_mul ?_
  refine zv m_sub ?_
  refine zv (m_ixR el23 sz3) ?_
  first | refine zs (m_stI sz3) ?_ | refine zs (m_st sz3) ?_
  refine ⟨by rfl, ?_⟩
  show AWp cx _ _ _
  refine awp_seq ?_
  have hz := tpK_zero (i := i) (k := k) hl
  refine rg ?_
  refine qv (m_fdp fd25_0) ?_
  refine qv (m_ldp sz22 ag22) ?_
  refine qv m_mv ?_
  first | refine qv (m_ixN el22 sz23) ?_ | refine qv (m_ix el22 sz23) ?_
  refine qv (m_ld sz23 ag23) ?_
  refine qv (m_len il23) ?_
  refine qv m_mv ?_
  show AWp cx _ _ _
  refine awp_block ?_
  refine awp_loop (ι := Nat) (fun q => ⟨lk [(1, .sl 100000 0 0 h.ground.length), (3, .dv (i64 (k))), (25, .dv (ints (lrow h i))), (26, .dv (i64 (((lrow h i).length : Int)))), (27, .dv (i64 (q : Nat)))], mkM [(100000, 0, some (lentI 0 (tpK h L i k q)))]⟩) (fun q => q ≤ h.ground.length) (fun q => h.ground.length - q) 0 (by simp) (tl [(100000, 100000)] (hF := by simp [FLe, svLe, lk, mkM, isLive, tauL, hz]) (hM := by simp [MLe, blkLe, svLe, svLes, lk, mkM, isLive, tauL, svLes_ints, svLes_self, isDvs, isDvs_map, isDvs_app, isDvs_take, isDvs_set, isDvs_repl, hz])) ?_
  intro q hφ0
  refine awp_seq ?_
  refine rg ?_
  refine qv m_lss ?_
  show AWp cx _ _ _
  refine awp_seq ?_
  refine cd (fun hc0 => ?_) (fun hc0 => ?_)
  · try simp at hc0
    refine awp_skip ?_
    show AWp cx _ _ _
    refine awp_seq ?_
    refine awp_block ?_
    refine awp_seq ?_
    refine rg ?_
    have hq : q < h.ground.length := by omega
    have hl2 := v.get2 hi hq
    have hlb := lnk_bd v hi hq
    have htl := tpK_len (h := h) (L := L) (i := i) (q := q) (k := k)
    have hgq := ata_get (a := tpK h L i k q) (i := q) (by omega)
    have hsc := tpK_succ (L := L) (i := i) (k := k) hq
    have hbq := hb q hq
    have hkq := prod_bd hk.1 hk.2 hlb.1 hlb.2
    have hat := tpK_at (L := L) (i := i) (q := q) (k := k) hq
    have hab : -1100000000 ≤ ata (tpK h L i k q) q ∧ ata (tpK h L i k q) q ≤ 1100000000 := by
      rw [hat, if_neg (Nat.lt_irrefl q)]
      split <;> omega
    refine qv m_mv ?_
    first | refine qv (m_ixN el23 sz3) ?_ | refine qv (m_ix el23 sz3) ?_
    refine qv (m_ld sz3 ag3) ?_
    refine qv m_as ?_
    refine qv m_as ?_
    show AWp cx _ _ _
    refine rg ?_
    refine qv m_mv ?_
    refine qv m_mv ?_
    refine qv (m_ixR el23 sz3) ?_
    first | refine qv (m_ldI sz3 ag3) ?_ | refine qv (m_ldp sz3 ag3) ?_
    refine qv m_mv ?_
    refine qv m_mv ?_
    refine qv m_mul ?_
    refine qv m_add ?_
    refine qv (m_ixR el23 sz3) ?_
    first | refine qs (m_stI sz3) ?_ | refine qs (m_st sz3) ?_
    show AWp cx _ _ _
    refine rg ?_
    refine qv m_add ?_
    refine qv m_mv ?_
    exact ⟨q + 1, hq, (by simp only; omega), (tl [(100000, 100000)] (hF := by simp [FLe, svLe, lk, mkM, isLive, tauL, hsc]) (hM := by simp [MLe, blkLe, svLe, svLes, lk, mkM, isLive, tauL, svLes_ints, svLes_self, isDvs, isDvs_map, isDvs_app, isDvs_take, isDvs_set, isDvs_repl, hsc]))⟩
  · try simp at hc0
    refine awp_exit ?_
    obtain rfl : q = h.ground.length := by omega
    rw [tpK_full]
    exact xg [(100000, 100000)]
end Go.Ab.Try
set_option linter.all false
namespace Go.Ab.Try
open Go Go.Ab Go.Proofs Go.Ab.Heap
def hpgB (h : Hp) (a : List Int) : Bool := a.length == h.ground.length && !a.any fun x => !inR x 0 30
def checkE (h : Hp) (l : List (List Int)) : Int := if validate h ≠ 0 then validate h else if l.all (hpgB h) then 0 else 1
theorem check_bad {h : Hp} {l : List (List Int)} (e : validate h ≠ 0) : checkE h l = validate h := by unfold checkE; rw [if_pos e]
theorem check_no {h : Hp} {l : List (List Int)} (e : validate h = 0) {j : Nat} {a : List Int} (ha : l[j]? = some a) (hb : hpgB h a = false) : checkE h l = 1 := by
  unfold checkE; rw [if_neg (by simp [e]), if_neg]
  intro hh
  rw [List.all_eq_true] at hh
  rw [hh a (List.mem_of_getElem? ha)] at hb; cases hb
theorem check_yes {h : Hp} {l : List (List Int)} (e : validate h = 0) (hb : ∀ (j : Nat) (a : List Int), l[j]? = some a → hpgB h a = true) : checkE h l = 0 := by
  unfold checkE; rw [if_neg (by simp [e]), if_pos]
  rw [List.all_eq_true]
  intro a ha
  obtain ⟨j, hj, rfl⟩ := List.getElem_of_mem ha
  exact hb j _ (List.getElem?_eq_getElem hj)
structure Hpg30 (h : Hp) (a : List Int) : Prop where
  len : a.length = h.ground.length
  bd : ∀ i, i < h.ground.length → 0 ≤ ata a i ∧ ata a i ≤ 30
theorem Hpg30.hpg {h : Hp} {a : List Int} (x : Hpg30 h a) : Hpg h a := ⟨x.len, fun i hi => (x.bd i hi).1⟩
theorem hpgB_ok {h : Hp} {a : List Int} (e : hpgB h a = true) : Hpg30 h a := by
  simp only [hpgB, Bool.and_eq_true, beq_iff_eq, Bool.not_eq_true', List.any_eq_false] at e
  refine ⟨e.1, fun i hi => ?_⟩
  have := e.2 _ (List.mem_of_getElem? (ata_get (a := a) (i := i) (by omega)))
  simpa [inR] using this
theorem hpgB_mk {h : Hp} {a : List Int} (e : Hpg30 h a) : hpgB h a = true := by
  simp only [hpgB, Bool.and_eq_true, beq_iff_eq, Bool.not_eq_true', List.any_eq_false]
  refine ⟨e.len, fun x hx => ?_⟩
  obtain ⟨j, hj, rfl⟩ := List.getElem_of_mem hx
  have := e.bd j (by have := e.len; omega)
  unfold ata at this
  rw [List.getD_eq_getElem?_getD, List.getElem?_eq_getElem hj] at this
  simpa [inR] using this
theorem check_ok {h : Hp} {l : List (List Int)} (e : checkE h l = 0) : VH h ∧ ∀ a ∈ l, Hpg30 h a := by
  unfold checkE at e
  split at e
  · rename_i hv; exact absurd e hv
  · rename_i hv
    split at e
    · rename_i ha
      exact ⟨vh_of (by simpa using hv), fun a h2 => hpgB_ok (List.all_eq_true.1 ha a h2)⟩
    · cases e
theorem validate_n {h : Hp} (e : validate h = 0) : h.ground.length ≤ 5 := (vh_of e).n5
theorem hpg_len {h : Hp} {a : List Int} (e : a.length ≠ h.ground.length) : hpgB h a = false := by
  unfold hpgB; rw [beq_eq_false_iff_ne.2 e]; rfl
theorem hpg_any {h : Hp} {a : List Int} {x : Int} {j : Nat} (hx : a[j]? = some x) (e : inR x 0 30 = false) : hpgB h a = false := by
  unfold hpgB
  rw [Bool.and_eq_false_iff]
  right
  simp only [Bool.not_eq_false']
  exact List.any_eq_true.2 ⟨x, List.mem_of_getElem? hx, by simp [e]⟩
theorem hpg_yes {h : Hp} {a : List Int} (e : a.length = h.ground.length) (h2 : ∀ (j : Nat) (x : Int), a[j]? = some x → inR x 0 30 = true) : hpgB h a = true := by
  unfold hpgB
  simp only [Bool.and_eq_true, beq_iff_eq, Bool.not_eq_true', List.any_eq_false]
  refine ⟨e, fun x hx => ?_⟩
  obtain ⟨j, hj, rfl⟩ := List.getElem_of_mem hx
  simp [h2 j _ (List.getElem?_eq_getElem hj)]
theorem long_row {h : Hp} {l : List (List Int)} {a : List Int} {j : Nat} (ha : l[j]? = some a) (hl : 400 < a.length) : longB h l = true := by
  unfold longB
  rw [any_at (p := fun r : List Int => decide (400 < r.length)) ha (by simpa using hl)]; rfl
theorem long_link {h : Hp} {l : List (List Int)} {a : List Int} {j : Nat} (ha : h.links[j]? = some a) (hl : 50 < a.length) : longB h l = true := by
  unfold longB
  rw [any_at (p := fun r : List Int => decide (50 < r.length)) ha (by simpa using hl)]; simp
theorem long_no {h : Hp} {l : List (List Int)} (h1 : ∀ (j : Nat) (a : List Int), l[j]? = some a → a.length ≤ 400) (h2 : ∀ (j : Nat) (a : List Int), h.links[j]? = some a → a.length ≤ 50) : longB h l = (decide (50 < h.links.length) || decide (50 < h.ground.length)) := by
  unfold longB
  have e1 : (l.any fun r => decide (400 < r.length)) = false := by
    rw [List.any_eq_false]
    intro a ha
    obtain ⟨j, hj, rfl⟩ := List.getElem_of_mem ha
    have := h1 j _ (List.getElem?_eq_getElem hj)
    simp; omega
  have e2 : (h.links.any fun r => decide (50 < r.length)) = false := by
    rw [List.any_eq_false]
    intro a ha
    obtain ⟨j, hj, rfl⟩ := List.getElem_of_mem ha
    have := h2 j _ (List.getElem?_eq_getElem hj)
    simp; omega
  rw [e1, e2]; simp
theorem f61 (h : Hp) (l : List (List Int)) (hl : l.length < 1000) : ACallsF Try.prog 61 [dHp h, .list (l.map ints)] (.one (.dv (i64 (checkE h l)))) := by
  refine callsF_of Try.func61 rfl rfl (by rw [Try.ntmps61]; simp) fun cx hP hn hg => ?_
  rw [Try.ntmps61] at hn
  rw [startF_lk, none_mkM]
  simp only [List.nil_append, List.append_nil, List.cons_append, zipSV, Nat.reduceAdd]
  refine awp_seq ?_
  refine rg ?_
  refine qp m_box ?_
  refine qv m_as ?_
  show AWp cx _ _ _
  refine awp_seq ?_
  refine awp_seq ?_
  refine rg ?_
  refine qv (m_ldpa sz25 ag25) ?_
  refine qqF (f24 h) ?_
  refine qv m_as ?_
  show AWp cx _ _ _
  refine awp_seq ?_
  refine rg ?_
  refine qv m_mv ?_
  refine qv m_neq ?_
  show AWp cx _ _ _
  refine cd (fun hc0 => ?_) (fun hc0 => ?_)
  · skip
    have hv0 : validate h ≠ 0 := by simpa using hc0
    refine awp_seq ?_
    refine rg ?_
    refine qv m_mv ?_
    refine qv m_as ?_
    show AWp cx _ _ _
    refine awp_ret ?_
    exact x1 (hr := (rI_ (by rw [check_bad hv0])))
  · skip
    have hv0 : validate h = 0 := by simpa using hc0
    have h5 := validate_n hv0
    refine awp_skip ?_
    show AWp cx _ _ _
    refine awp_seq ?_
    refine awp_seq ?_
    refine rg ?_
    refine qv m_mv ?_
    refine qv (m_len il22) ?_
    refine qv m_mv ?_
    show AWp cx _ _ _
    refine awp_block ?_
    refine awp_loop (ι := Nat) (fun i => ⟨lk [(2, .pt 2 0 0), (13, .dv (.list ((l).map ints))), (14, .dv (i64 ((l.length : Int)))), (15, .dv (i64 (i : Nat)))], mkM [(2, 0, some ⟨[.dv (.list ((h.links).map ints)), .dv (ints (h.ground))], 0, 25, 0, false⟩)]⟩) (fun i => i ≤ l.length ∧ ∀ (j : Nat) (a : List Int), j < i → l[j]? = some a → hpgB h a = true) (fun i => l.length - i) 0 (by simp) (tl [(2, 2)]) ?_
    intro i hφ0
    refine awp_seq ?_
    refine rg ?_
    refine qv m_lss ?_
    show AWp cx _ _ _
    refine awp_seq ?_
    refine cd (fun hc1 => ?_) (fun hc1 => ?_)
    · try simp at hc1
      refine awp_skip ?_
      show AWp cx _ _ _
      refine awp_seq ?_
      refine awp_block ?_
      refine awp_seq ?_
      refine rg ?_
      obtain ⟨a, hga⟩ : ∃ a, l[i]? = some a := ⟨_, List.getElem?_eq_getElem (by omega)⟩
      first | refine qv (m_ixN el22 sz23) ?_ | refine qv (m_ix el22 sz23) ?_
      refine qv (m_ld sz23 ag23) ?_
      refine qv m_as ?_
      show AWp cx _ _ _
      refine awp_seq ?_
      refine rg ?_
      refine qv m_mv ?_
      refine qv (m_len il23) ?_
      refine qv (m_fdp fd25_1) ?_
      refine qv (m_ldp sz23 ag23) ?_
      refine qv (m_len il23) ?_
      refine qv m_neq ?_
      refine qx m_mv (fun hg25 => ?_) (fun hg25 => ?_)
      · try simp at hg25
        refine qk ?_
        refine qk ?_
        refine qv m_pk ?_
        show AWp cx _ _ _
        refine cdT (hb := by first | rfl | simp | simp_all) (ht := ?_)
        refine awp_seq ?_
        refine rg ?_
        refine qv m_as ?_
        show AWp cx _ _ _
        refine awp_ret ?_
        exact x1 (hr := (rI_ (by rw [check_no hv0 hga (by first | exact hpg_len (by intro e; exact hg25 (by exact_mod_cast e)) | (unfold hpgB; simp [hc2]))])))
      · try simp at hg25
        have hal : a.length = h.ground.length := by exact_mod_cast hg25
        refine qv m_mv ?_
        refine qqF (f87 a 94 (fun x => !inR x 0 30) (fun x _ => f94 x) (by omega)) ?_
        refine qv m_pk ?_
        show AWp cx _ _ _
        refine cd (fun hc2 => ?_) (fun hc2 => ?_)
        · try simp only [Bool.not_eq_true] at hc2
          refine awp_seq ?_
          refine rg ?_
          refine qv m_as ?_
          show AWp cx _ _ _
          refine awp_ret ?_
          exact x1 (hr := (rI_ (by rw [check_no hv0 hga (by first | exact hpg_len (by intro e; exact hg25 (by exact_mod_cast e)) | (unfold hpgB; simp [hc2]))])))
        · try simp only [Bool.not_eq_true] at hc2
          refine awp_skip ?_
          show AWp cx _ _ _
          refine rg ?_
          refine qv m_add ?_
          refine qv m_mv ?_
          refine ⟨i + 1, ?_, (by simp only; omega), (tl [(2, 2)])⟩
          refine ⟨by omega, fun j b hj hb => ?_⟩
          rcases Nat.lt_or_ge j i with h1 | h1
          · exact hφ0.2 j b h1 hb
          · obtain rfl : j = i := by omega
            rw [hga] at hb; cases hb
            unfold hpgB
            rw [show a.length = h.ground.length by exact_mod_cast hg25]
            simp [hc2]
    · try simp at hc1
      refine awp_exit ?_
      show AWp cx _ _ _
      refine awp_seq ?_
      refine rg ?_
      refine qv m_as ?_
      show AWp cx _ _ _
      refine awp_ret ?_
      exact x1 (hr := (rI_ (by rw [check_yes hv0 fun j a hj => hφ0.2 j a (by have := (List.getElem?_eq_some_iff.1 hj).1; omega) hj])))
theorem f96 (h : Hp) (a : List Int) (hn : h.ground.length < 1000) : ACallsF Try.prog 96 [dHp h, ints a] (.one (.dv (i64 (if hpgB h a then 0 else 1)))) := by
  refine callsF_of Try.func96 rfl rfl (by rw [Try.ntmps96]; simp) fun cx hP hn hg => ?_
  rw [Try.ntmps96] at hn
  rw [startF_lk, none_mkM]
  simp only [List.nil_append, List.append_nil, List.cons_append, zipSV, Nat.reduceAdd]
  refine awp_seq ?_
  refine rg ?_
  refine qp m_box ?_
  refine qv m_as ?_
  show AWp cx _ _ _
  refine awp_seq ?_
  refine awp_seq ?_
  refine rg ?_
  refine qv m_mv ?_
  refine qv (m_len il23) ?_
  refine qv (m_fdp fd25_1) ?_
  refine qv (m_ldp sz23 ag23) ?_
  refine qv (m_len il23) ?_
  refine qv m_neq ?_
  show AWp cx _ _ _
  refine cd (fun hc0 => ?_) (fun hc0 => ?_)
  · try simp at hc0
    refine awp_seq ?_
    refine rg ?_
    refine qv m_as ?_
    show AWp cx _ _ _
    refine awp_ret ?_
    exact x1 (hr := (rI_ (by rw [hpg_len (by intro e; exact hc0 (by exact_mod_cast e))]; rfl)))
  · try simp at hc0
    have hla : a.length = h.ground.length := by exact_mod_cast hc0
    refine awp_skip ?_
    show AWp cx _ _ _
    refine awp_seq ?_
    refine awp_seq ?_
    refine rg ?_
    refine qv m_as ?_
    show AWp cx _ _ _
    refine awp_block ?_
    refine awp_loop (ι := Nat) (fun i => ⟨lk [(1, .dv (ints (a))), (5, .dv (i64 (i : Nat)))], mkM []⟩) (fun i => i ≤ a.length ∧ ∀ (j : Nat) (x : Int), j < i → a[j]? = some x → inR x 0 30 = true) (fun i => a.length - i) 0 (by simp) (tl []) ?_
    intro i hφ0
    refine awp_seq ?_
    refine awp_seq ?_
    refine rg ?_
    refine qv m_mv ?_
    refine qv m_mv ?_
    refine qv (m_len il23) ?_
    refine qv m_lss ?_
    show AWp cx _ _ _
    refine cd (fun hc1 => ?_) (fun hc1 => ?_)
    · try simp at hc1
      refine awp_skip ?_
      show AWp cx _ _ _
      refine awp_seq ?_
      refine awp_block ?_
      refine awp_seq ?_
      refine rg ?_
      have hga := ata_get (a := a) (i := i) (by omega)
      refine qv m_mv ?_
      refine qv m_mv ?_
      first | refine qv (m_ixN el23 sz3) ?_ | refine qv (m_ix el23 sz3) ?_
      refine qv (m_ld sz3 ag3) ?_
      refine qqF (f78 (ata a i) 0 30) ?_
      refine qv m_not ?_
      show AWp cx _ _ _
      refine cd (fun hc2 => ?_) (fun hc2 => ?_)
      · try simp at hc2
        refine awp_seq ?_
        refine rg ?_
        refine qv m_as ?_
        show AWp cx _ _ _
        refine awp_ret ?_
        exact x1 (hr := (rI_ (by rw [hpg_any hga (by simpa using hc2)]; rfl)))
      · try simp at hc2
        refine awp_skip ?_
        show AWp cx _ _ _
        refine rg ?_
        refine qv m_mv ?_
        refine qv m_add ?_
        refine qv m_as ?_
        refine ⟨i + 1, ?_, (by simp only; omega), (tl [])⟩
        refine ⟨by omega, fun j x hj hx => ?_⟩
        rcases Nat.lt_or_ge j i with h1 | h1
        · exact hφ0.2 j x h1 hx
        · obtain rfl : j = i := by omega
          rw [hga] at hx; cases hx
          simpa using hc2
    · try simp at hc1
      refine awp_exit ?_
      show AWp cx _ _ _
      refine awp_seq ?_
      refine rg ?_
      refine qv m_as ?_
      show AWp cx _ _ _
      refine awp_ret ?_
      exact x1 (hr := (rI_ (by rw [hpg_yes hla fun j x hj => hφ0.2 j x (by have := (List.getElem?_eq_some_iff.1 hj).1; omega) hj]; rfl)))
theorem f76 (h : Hp) (l : List (List Int)) (hl : l.length < 1000) : ACallsF Try.prog 76 [dHp h, .list (l.map ints)] (.one (.dv (i64 (checkE h l)))) := by
  refine callsF_of Try.func76 rfl rfl (by rw [Try.ntmps76]; simp) fun cx hP hn hg => ?_
  rw [Try.ntmps76] at hn
  rw [startF_lk, none_mkM]
  simp only [List.nil_append, List.append_nil, List.cons_append, zipSV, Nat.reduceAdd]
  refine awp_seq ?_
  refine rg ?_
  refine qp m_box ?_
  refine qv m_as ?_
  show AWp cx _ _ _
  refine awp_seq ?_
  refine rg ?_
  refine qv (m_ldpa sz25 ag25) ?_
  refine qqF (f37 h) ?_
  refine qv m_as ?_
  show AWp cx _ _ _
  refine awp_seq ?_
  refine awp_seq ?_
  refine rg ?_
  refine qv m_mv ?_
  refine qv m_neq ?_
  show AWp cx _ _ _
  refine cd (fun hc0 => ?_) (fun hc0 => ?_)
  · skip
    have hv0 : validate h ≠ 0 := by simpa using hc0
    refine awp_seq ?_
    refine rg ?_
    refine qv m_mv ?_
    refine qv m_as ?_
    show AWp cx _ _ _
    refine awp_ret ?_
    exact x1 (hr := (rI_ (by rw [check_bad hv0])))
  · skip
    have hv0 : validate h = 0 := by simpa using hc0
    have h5 := validate_n hv0
    refine awp_skip ?_
    show AWp cx _ _ _
    refine awp_seq ?_
    refine awp_seq ?_
    refine rg ?_
    refine qv m_as ?_
    show AWp cx _ _ _
    refine awp_block ?_
    refine awp_loop (ι := Nat) (fun i => ⟨lk [(1, .dv (.list ((l).map ints))), (2, .pt 2 0 0), (6, .dv (i64 (i : Nat)))], mkM [(2, 0, some ⟨[.dv (.list ((h.links).map ints)), .dv (ints (h.ground))], 0, 25, 0, false⟩)]⟩) (fun i => i ≤ l.length ∧ ∀ (j : Nat) (a : List Int), j < i → l[j]? = some a → hpgB h a = true) (fun i => l.length - i) 0 (by simp) (tl [(2, 2)]) ?_
    intro i hφ0
    refine awp_seq ?_
    refine awp_seq ?_
    refine rg ?_
    refine qv m_mv ?_
    refine qv m_mv ?_
    refine qv (m_len il22) ?_
    refine qv m_lss ?_
    show AWp cx _ _ _
    refine cd (fun hc1 => ?_) (fun hc1 => ?_)
    · try simp at hc1
      refine awp_skip ?_
      show AWp cx _ _ _
      refine awp_seq ?_
      refine awp_block ?_
      refine awp_seq ?_
      obtain ⟨a, hga⟩ : ∃ a, l[i]? = some a := ⟨_, List.getElem?_eq_getElem (by omega)⟩
      refine rd mixed ?_
      refine zv (m_ldpa sz25 ag25) ?_
      refine zv m_mv ?_
      refine zv m_mv ?_
      first | refine zv (m_ixN el22 sz23) ?_ | refine zv (m_ix el22 sz23) ?_
      refine zv (m_ld sz23 ag23) ?_
      refine zqF (R := []) (f96 h a (by omega)) ?_
      refine zv m_neq ?_
      refine ⟨by rfl, ?_⟩
      show AWp cx _ _ _
      refine cd (fun hc2 => ?_) (fun hc2 => ?_)
      · skip
        refine awp_seq ?_
        refine rg ?_
        refine qv m_as ?_
        show AWp cx _ _ _
        refine awp_ret ?_
        exact x1 (hr := (rI_ (by rw [check_no hv0 hga (by cases e : hpgB h a with | false => rfl | true => (rw [e] at hc2; simp at hc2))])))
      · skip
        refine awp_skip ?_
        show AWp cx _ _ _
        refine rg ?_
        refine qv m_mv ?_
        refine qv m_add ?_
        refine qv m_as ?_
        refine ⟨i + 1, ?_, (by simp only; omega), (tl [(2, 2)])⟩
        refine ⟨by omega, fun j b hj hb => ?_⟩
        rcases Nat.lt_or_ge j i with h1 | h1
        · exact hφ0.2 j b h1 hb
        · obtain rfl : j = i := by omega
          rw [hga] at hb; cases hb
          refine Classical.byContradiction fun hx => ?_
          rw [if_neg hx] at hc2; simp at hc2
    · try simp at hc1
      refine awp_exit ?_
      show AWp cx _ _ _
      refine awp_seq ?_
      refine rg ?_
      refine qv m_as ?_
      show AWp cx _ _ _
      refine awp_ret ?_
      exact x1 (hr := (rI_ (by rw [check_yes hv0 fun j a hj => hφ0.2 j a (by have := (List.getElem?_eq_some_iff.1 hj).1; omega) hj])))
theorem f21 (h : Hp) (l : List (List Int)) (hl : l.length < 1000) (hk : h.links.length ≤ 9223372036854775807) : ACallsF Try.prog 21 [dHp h, .list (l.map ints)] (.one (.dv (.bool (longB h l)))) := by
  refine callsF_of Try.func21 rfl rfl (by rw [Try.ntmps21]; simp) fun cx hP hn hg => ?_
  rw [Try.ntmps21] at hn
  rw [startF_lk, none_mkM]
  simp only [List.nil_append, List.append_nil, List.cons_append, zipSV, Nat.reduceAdd]
  refine awp_seq ?_
  refine rg ?_
  refine qp m_box ?_
  refine qv m_as ?_
  show AWp cx _ _ _
  refine awp_seq ?_
  refine awp_seq ?_
  refine rg ?_
  refine qv m_as ?_
  show AWp cx _ _ _
  refine awp_block ?_
  refine awp_loop (ι := Nat) (fun i => ⟨lk [(1, .dv (.list ((l).map ints))), (2, .pt 2 0 0), (5, .dv (i64 (i : Nat)))], mkM [(2, 0, some ⟨[.dv (.list ((h.links).map ints)), .dv (ints (h.ground))], 0, 25, 0, false⟩)]⟩) (fun i => i ≤ l.length ∧ ∀ (j : Nat) (a : List Int), j < i → l[j]? = some a → a.length ≤ 400) (fun i => l.length - i) 0 (by simp) (tl [(2, 2)]) ?_
  intro i hφ0
  refine awp_seq ?_
  refine awp_seq ?_
  refine rg ?_
  refine qv m_mv ?_
  refine qv m_mv ?_
  refine qv (m_len il22) ?_
  refine qv m_lss ?_
  show AWp cx _ _ _
  refine cd (fun hc0 => ?_) (fun hc0 => ?_)
  · try simp at hc0
    refine awp_skip ?_
    show AWp cx _ _ _
    refine awp_seq ?_
    refine awp_block ?_
    refine awp_seq ?_
    refine rg ?_
    obtain ⟨a, hga⟩ : ∃ a, l[i]? = some a := ⟨_, List.getElem?_eq_getElem (by omega)⟩
    refine qv m_mv ?_
    refine qv m_mv ?_
    first | refine qv (m_ixN el22 sz23) ?_ | refine qv (m_ix el22 sz23) ?_
    refine qv (m_ld sz23 ag23) ?_
    refine qv (m_len il23) ?_
    refine qv m_gtr ?_
    show AWp cx _ _ _
    refine cd (fun hc1 => ?_) (fun hc1 => ?_)
    · try simp at hc1
      refine awp_seq ?_
      refine rg ?_
      refine qv m_as ?_
      show AWp cx _ _ _
      refine awp_ret ?_
      exact x1 (hr := (rB_ (by rw [long_row hga (by omega)])))
    · try simp at hc1
      refine awp_skip ?_
      show AWp cx _ _ _
      refine rg ?_
      refine qv m_mv ?_
      refine qv m_add ?_
      refine qv m_as ?_
      refine ⟨i + 1, ?_, (by simp only; omega), (tl [(2, 2)])⟩
      refine ⟨by omega, fun j b hj hb => ?_⟩
      rcases Nat.lt_or_ge j i with h1 | h1
      · exact hφ0.2 j b h1 hb
      · obtain rfl : j = i := by omega
        rw [hga] at hb; cases hb
        omega
  · try simp at hc0
    refine awp_exit ?_
    show AWp cx _ _ _
    refine awp_seq ?_
    refine awp_seq ?_
    refine rg ?_
    refine qv m_as ?_
    show AWp cx _ _ _
    refine awp_block ?_
    refine awp_loop (ι := Nat) (fun i => ⟨lk [(2, .pt 2 0 0), (6, .dv (i64 (i : Nat)))], mkM [(2, 0, some ⟨[.dv (.list ((h.links).map ints)), .dv (ints (h.ground))], 0, 25, 0, false⟩)]⟩) (fun i => i ≤ h.links.length ∧ ∀ (j : Nat) (a : List Int), j < i → h.links[j]? = some a → a.length ≤ 50) (fun i => h.links.length - i) 0 (by simp) (tl [(2, 2)]) ?_
    intro i hφ1
    refine awp_seq ?_
    refine awp_seq ?_
    refine rg ?_
    refine qv m_mv ?_
    refine qv (m_fdp fd25_0) ?_
    refine qv (m_ldp sz22 ag22) ?_
    refine qv (m_len il22) ?_
    refine qv m_lss ?_
    show AWp cx _ _ _
    refine cd (fun hc2 => ?_) (fun hc2 => ?_)
    · try simp at hc2
      refine awp_skip ?_
      show AWp cx _ _ _
      refine awp_seq ?_
      refine awp_block ?_
      refine awp_seq ?_
      refine rg ?_
      obtain ⟨a, hga⟩ : ∃ a, h.links[i]? = some a := ⟨_, List.getElem?_eq_getElem (by omega)⟩
      refine qv (m_fdp fd25_0) ?_
      refine qv (m_ldp sz22 ag22) ?_
      refine qv m_mv ?_
      first | refine qv (m_ixN el22 sz23) ?_ | refine qv (m_ix el22 sz23) ?_
      refine qv (m_ld sz23 ag23) ?_
      refine qv (m_len il23) ?_
      refine qv m_gtr ?_
      show AWp cx _ _ _
      refine cd (fun hc3 => ?_) (fun hc3 => ?_)
      · try simp at hc3
        refine awp_seq ?_
        refine rg ?_
        refine qv m_as ?_
        show AWp cx _ _ _
        refine awp_ret ?_
        exact x1 (hr := (rB_ (by rw [long_link hga (by omega)])))
      · try simp at hc3
        refine awp_skip ?_
        show AWp cx _ _ _
        refine rg ?_
        refine qv m_mv ?_
        refine qv m_add ?_
        refine qv m_as ?_
        refine ⟨i + 1, ?_, (by simp only; omega), (tl [(2, 2)])⟩
        refine ⟨by omega, fun j b hj hb => ?_⟩
        rcases Nat.lt_or_ge j i with h1 | h1
        · exact hφ1.2 j b h1 hb
        · obtain rfl : j = i := by omega
          rw [hga] at hb; cases hb
          omega
    · try simp at hc2
      refine awp_exit ?_
      show AWp cx _ _ _
      refine awp_seq ?_
      refine rg ?_
      refine qv (m_fdp fd25_0) ?_
      refine qv (m_ldp sz22 ag22) ?_
      refine qv (m_len il22) ?_
      refine qv m_gtr ?_
      refine qx m_mv (fun hg37 => ?_) (fun hg37 => ?_)
      · try simp at hg37
        refine qk ?_
        refine qk ?_
        refine qk ?_
        refine qk ?_
        refine qv m_pk ?_
        refine qv m_as ?_
        show AWp cx _ _ _
        refine awp_ret ?_
        exact x1 (hr := (rB_ (by rw [long_no (fun j a hj => hφ0.2 j a (by have := (List.getElem?_eq_some_iff.1 hj).1; omega) hj) (fun j a hj => hφ1.2 j a (by have := (List.getElem?_eq_some_iff.1 hj).1; omega) hj)]; first | (rw [Bool.eq_iff_iff]; simp only [Bool.or_eq_true, decide_eq_true_eq]; omega) | (simp_all; done) | (simp_all; omega))))
      · try simp at hg37
        refine qv (m_fdp fd25_1) ?_
        refine qv (m_ldp sz23 ag23) ?_
        refine qv (m_len il23) ?_
        refine qv m_gtr ?_
        refine qv m_pk ?_
        refine qv m_as ?_
        show AWp cx _ _ _
        refine awp_ret ?_
        exact x1 (hr := (rB_ (by rw [long_no (fun j a hj => hφ0.2 j a (by have := (List.getElem?_eq_some_iff.1 hj).1; omega) hj) (fun j a hj => hφ1.2 j a (by have := (List.getElem?_eq_some_iff.1 hj).1; omega) hj)]; first | (rw [Bool.eq_iff_iff]; simp only [Bool.or_eq_true, decide_eq_true_eq]; omega) | (simp_all; done) | (simp_all; omega))))
end Go.Ab.Try
set_option linter.all false
namespace Go.Ab.Try
open Go Go.Ab Go.Proofs Go.Ab.Heap
theorem tdiv_facts {a l : Int} (ha : 0 ≤ a) (hl : 1 ≤ l) : 0 ≤ a.tdiv l ∧ a.tdiv l * l ≤ a ∧ a.tdiv l ≤ a ∧ (l ≤ a → 1 ≤ a.tdiv l) ∧ (a < l → a.tdiv l = 0) := by
  rw [Int.tdiv_eq_ediv_of_nonneg ha]
  have h1 := Int.ediv_nonneg ha (show 0 ≤ l by omega)
  have h2 := Int.ediv_mul_le a (show l ≠ 0 by omega)
  have h3 := Int.mul_nonneg h1 (show 0 ≤ l - 1 by omega)
  rw [Int.mul_sub, Int.mul_one] at h3
  refine ⟨h1, h2, by omega, fun h => ?_, fun h => Int.ediv_eq_zero_of_lt ha h⟩
  exact Int.le_ediv_of_mul_le (by omega) (by omega)
structure Fit (h : Hp) (a : List Int) : Prop where
  hpg : Hpg h a
  bd : ∀ j, j < h.ground.length → ata a j ≤ 200000
theorem Fit.sum {h : Hp} (v : VH h) {a : List Int} (f : Fit h a) : sm (ata a) h.ground.length ≤ 1000000 := by
  have h1 := sm_le (f := ata a) (g := fun _ => 200000) (n := h.ground.length) f.bd
  rw [sm_const] at h1
  have := v.n5; omega
theorem Fit.cb {h : Hp} (v : VH h) {a c t : List Int} (f : Fit h a) (I : SInv h a c t) : (∀ j, j < h.ground.length → 0 ≤ ata c j ∧ ata c j ≤ 1000000) ∧ ∀ j, j < h.ground.length → 0 ≤ ata t j ∧ ata t j ≤ 5000000 := by
  have hs := f.sum v
  refine ⟨I.cb v hs, fun j hj => ?_⟩
  have h1 := I.bd v f.hpg.nn hs j hj
  have := v.n5
  have h2 : (h.ground.length : Int) * 1000000 ≤ 5000000 := by omega
  omega
theorem Fit.of30 {h : Hp} {a : List Int} (x : Hpg30 h a) : Fit h a := ⟨x.hpg, fun j hj => by have := x.bd j hj; omega⟩
set_option maxHeartbeats 4000000 in
theorem f66 (h : Hp) (v : VH h) (a : List Int) (f : Fit h a) : ACallsF Try.prog 66 [dHp h, ints a] (.many [rI (stl h a), rI (stlT h a)]) := by
  have h5 := v.n5
  have hal := f.hpg.len
  refine callsF_of Try.func66 rfl rfl (by rw [Try.ntmps66]; simp) fun cx hP hn hg => ?_
  rw [Try.ntmps66] at hn
  rw [startF_lk, none_mkM]
  simp only [List.nil_append, List.append_nil, List.cons_append, zipSV, Nat.reduceAdd]
  refine awp_seq ?_
  refine rg ?_
  refine qp m_box ?_
  refine qv m_as ?_
  refine qv m_as ?_
  show AWp cx _ _ _
  refine awp_scope_jumps (ι := List Int × List Int) 0 (fun q => ⟨lk [(2, .pt 2 0 0), (4, .sl 4 0 0 h.ground.length), (5, .sl 5 0 0 h.ground.length)], mkM [(2, 0, some ⟨[.dv (.list (h.links.map ints)), .dv (ints h.ground)], 0, 25, 0, false⟩), (4, 0, some (rowI q.1)), (5, 0, some (rowI q.2))]⟩) (fun q => SInv h a q.1 q.2) (fun q => smeas h a q.2) rfl ?_ (fun q hφS => ?_)
  · skip
    refine awp_seq ?_
    refine rg ?_
    refine qv m_mv ?_
    refine qqF (f80 a (by omega)) ?_
    refine qv m_as ?_
    show AWp cx _ _ _
    refine awp_seq ?_
    refine rg ?_
    refine qv m_mv ?_
    refine qv (m_len il23) ?_
    refine qr (m_mkI el23 ze3 sz3 by3) ?_
    refine qv m_as ?_
    show AWp cx _ _ _
    refine awp_seq ?_
    refine awp_label ?_
    show AWp cx _ _ _
    refine AWp.le (S0 := (fun q : List Int × List Int => (⟨lk [(2, .pt 2 0 0), (4, .sl 4 0 0 h.ground.length), (5, .sl 5 0 0 h.ground.length)], mkM [(2, 0, some ⟨[.dv (.list (h.links.map ints)), .dv (ints h.ground)], 0, 25, 0, false⟩), (4, 0, some (rowI q.1)), (5, 0, some (rowI q.2))]⟩ : St)) (a, List.replicate h.ground.length 0)) (tl [(2, 2), (4, 9), (5, 12)] (hF := by simp [FLe, svLe, lk, mkM, isLive, tauL, hal]) (hM := by simp [MLe, blkLe, svLe, svLes, lk, mkM, isLive, tauL, svLes_ints, svLes_self, isDvs, isDvs_map, isDvs_app, isDvs_take, isDvs_set, isDvs_repl, hal])) ((fun H : ∀ q : List Int × List Int, (SInv h a q.1 q.2) → AWp cx _ _ (⟨lk [(2, .pt 2 0 0), (4, .sl 4 0 0 h.ground.length), (5, .sl 5 0 0 h.ground.length)], mkM [(2, 0, some ⟨[.dv (.list (h.links.map ints)), .dv (ints h.ground)], 0, 25, 0, false⟩), (4, 0, some (rowI q.1)), (5, 0, some (rowI q.2))]⟩ : St) => H _ (SInv.start f.hpg.len f.hpg.nn)) (fun q hφS => ?_))
    have hcb := f.cb v hφS
    have hcl := hφS.lc
    have htl := hφS.lt
    refine awp_seq ?_
    refine awp_seq ?_
    refine rg ?_
    refine qv (m_ldpa sz25 ag25) ?_
    refine qv m_mv ?_
    refine qqF (f85 h v q.1 hcl) ?_ (ha := (args_cons data_dv (args_cons (data_ints (L := q.1) (by simp only [mkM, reduceIte, Nat.reduceEqDiff] <;> rfl) trivial (by first | rfl | omega | (simp; done) | (simp; omega)) rfl rfl (fun _ => trivial)) args_nil)))
    refine qv m_as ?_
    show AWp cx _ _ _
    refine awp_seq ?_
    refine rg ?_
    refine qv m_mv ?_
    refine qv m_geq ?_
    show AWp cx _ _ _
    refine cd (fun hc0 => ?_) (fun hc0 => ?_)
    · skip
      rcases high_cases h q.1 with ⟨e, _⟩ | ⟨i, hi, e, hp⟩
      · exact absurd hc0 (by rw [e]; simp)
      rw [e]
      have hgi := ata_get (a := q.1) (i := i) (by omega)
      have hgt := ata_get (a := q.2) (i := i) (by omega)
      have hbi := hcb.1 i hi
      have hbt := hcb.2 i hi
      have hL1 := v.lim1 hi
      have hkf := tdiv_facts hbi.1 hL1
      refine awp_seq ?_
      refine rd mixed ?_
      refine zv m_mv ?_
      refine zv m_mv ?_
      refine zv (m_ixR el23 sz3) ?_
      refine zv (m_ldI sz3 ag3 (hq := hgi)) ?_
      refine zv (m_ldpa sz25 ag25) ?_
      refine zv m_mv ?_
      refine zqF (R := []) (f60 h v i hi) ?_
      refine zv m_quo ?_
      refine zv m_as ?_
      refine ⟨by rfl, ?_⟩
      show AWp cx _ _ _
      refine awp_seq ?_
      obtain ⟨k, hke⟩ : ∃ k, k = (ata q.1 i).tdiv (h.sp.lim i) := ⟨_, rfl⟩
      rw [← hke]
      rw [← hke] at hkf
      have hk := hkf
      have hk1 := hkf.2.2.2.1 hp
      have hms := smeas_lt v hφS f.hpg.nn hi hk1 hkf.2.1
      refine rg ?_
      refine qv (m_ldpa sz25 ag25) ?_
      refine qv m_mv ?_
      refine qv m_mv ?_
      refine qv m_mv ?_
      refine qqG (f82 h v q.1 i k hcl hi (fun j hj => by have := hcb.1 j hj; omega) (by omega)) [] [(100000, 4)] [4] ?_
      show AWp cx _ _ _
      refine awp_seq ?_
      refine rg ?_
      refine qv m_mv ?_
      refine qv m_mv ?_
      refine qv (m_ixR el23 sz3) ?_
      refine qv (m_ldI sz3 ag3 (hq := hgt)) ?_
      refine qv m_mv ?_
      refine qv m_add ?_
      refine qv (m_ixR el23 sz3) ?_
      first | refine qs (m_stI sz3) ?_ | refine qs (m_st sz3) ?_
      show AWp cx _ _ _
      refine awp_goto ?_
      exact ⟨rfl, (topL h q.1 i k, q.2.set i (ata q.2 i + k)), hφS.step v hi hk.1 hk.2.1, (tl [(2, 2), (4, 4), (5, 5)] (hF := by simp [FLe, svLe, lk, mkM, isLive, tauL, hal]) (hM := by simp [MLe, blkLe, svLe, svLes, lk, mkM, isLive, tauL, svLes_ints, svLes_self, isDvs, isDvs_map, isDvs_app, isDvs_take, isDvs_set, isDvs_repl, hal]))⟩
    · skip
      have hcalm : calmB h q.1 := by
        rcases high_cases h q.1 with ⟨_, e⟩ | ⟨i, hi, e, hp⟩
        · exact e
        · exact absurd hc0 (by rw [e]; simp)
      have hdn := hφS.done hcalm
      refine awp_skip ?_
      show AWp cx _ _ _
      refine awp_seq ?_
      refine rg ?_
      refine qv m_mv ?_
      refine qv m_mv ?_
      refine qv m_as ?_
      refine qv m_as ?_
      show AWp cx _ _ _
      refine awp_ret ?_
      exact x2 (hr := (rR_ (by rw [hdn.1]) (hl := by omega))) (hr' := (rR_ (by rw [hdn.2]) (hl := by omega)))
  · skip
    have hcb := f.cb v hφS
    have hcl := hφS.lc
    have htl := hφS.lt
    refine awp_seq ?_
    refine awp_skip ?_
    show AWp cx _ _ _
    refine awp_seq ?_
    refine awp_seq ?_
    refine rg ?_
    refine qv (m_ldpa sz25 ag25) ?_
    refine qv m_mv ?_
    refine qqF (f85 h v q.1 hcl) ?_ (ha := (args_cons data_dv (args_cons (data_ints (L := q.1) (by simp only [mkM, reduceIte, Nat.reduceEqDiff] <;> rfl) trivial (by first | rfl | omega | (simp; done) | (simp; omega)) rfl rfl (fun _ => trivial)) args_nil)))
    refine qv m_as ?_
    show AWp cx _ _ _
    refine awp_seq ?_
    refine rg ?_
    refine qv m_mv ?_
    refine qv m_geq ?_
    show AWp cx _ _ _
    refine cd (fun hc0 => ?_) (fun hc0 => ?_)
    · skip
      rcases high_cases h q.1 with ⟨e, _⟩ | ⟨i, hi, e, hp⟩
      · exact absurd hc0 (by rw [e]; simp)
      rw [e]
      have hgi := ata_get (a := q.1) (i := i) (by omega)
      have hgt := ata_get (a := q.2) (i := i) (by omega)
      have hbi := hcb.1 i hi
      have hbt := hcb.2 i hi
      have hL1 := v.lim1 hi
      have hkf := tdiv_facts hbi.1 hL1
      refine awp_seq ?_
      refine rd mixed ?_
      refine zv m_mv ?_
      refine zv m_mv ?_
      refine zv (m_ixR el23 sz3) ?_
      refine zv (m_ldI sz3 ag3 (hq := hgi)) ?_
      refine zv (m_ldpa sz25 ag25) ?_
      refine zv m_mv ?_
      refine zqF (R := []) (f60 h v i hi) ?_
      refine zv m_quo ?_
      refine zv m_as ?_
      refine ⟨by rfl, ?_⟩
      show AWp cx _ _ _
      refine awp_seq ?_
      obtain ⟨k, hke⟩ : ∃ k, k = (ata q.1 i).tdiv (h.sp.lim i) := ⟨_, rfl⟩
      rw [← hke]
      rw [← hke] at hkf
      have hk := hkf
      have hk1 := hkf.2.2.2.1 hp
      have hms := smeas_lt v hφS f.hpg.nn hi hk1 hkf.2.1
      refine rg ?_
      refine qv (m_ldpa sz25 ag25) ?_
      refine qv m_mv ?_
      refine qv m_mv ?_
      refine qv m_mv ?_
      refine qqG (f82 h v q.1 i k hcl hi (fun j hj => by have := hcb.1 j hj; omega) (by omega)) [] [(100000, 4)] [4] ?_
      show AWp cx _ _ _
      refine awp_seq ?_
      refine rg ?_
      refine qv m_mv ?_
      refine qv m_mv ?_
      refine qv (m_ixR el23 sz3) ?_
      refine qv (m_ldI sz3 ag3 (hq := hgt)) ?_
      refine qv m_mv ?_
      refine qv m_add ?_
      refine qv (m_ixR el23 sz3) ?_
      first | refine qs (m_stI sz3) ?_ | refine qs (m_st sz3) ?_
      show AWp cx _ _ _
      refine awp_goto ?_
      exact ⟨rfl, (topL h q.1 i k, q.2.set i (ata q.2 i + k)), ⟨hφS.step v hi hk.1 hk.2.1, hms⟩, (tl [(2, 2), (4, 4), (5, 5)] (hF := by simp [FLe, svLe, lk, mkM, isLive, tauL, hal]) (hM := by simp [MLe, blkLe, svLe, svLes, lk, mkM, isLive, tauL, svLes_ints, svLes_self, isDvs, isDvs_map, isDvs_app, isDvs_take, isDvs_set, isDvs_repl, hal]))⟩
    · skip
      have hcalm : calmB h q.1 := by
        rcases high_cases h q.1 with ⟨_, e⟩ | ⟨i, hi, e, hp⟩
        · exact e
        · exact absurd hc0 (by rw [e]; simp)
      have hdn := hφS.done hcalm
      refine awp_skip ?_
      show AWp cx _ _ _
      refine awp_seq ?_
      refine rg ?_
      refine qv m_mv ?_
      refine qv m_mv ?_
      refine qv m_as ?_
      refine qv m_as ?_
      show AWp cx _ _ _
      refine awp_ret ?_
      exact x2 (hr := (rR_ (by rw [hdn.1]) (hl := by omega))) (hr' := (rR_ (by rw [hdn.2]) (hl := by omega)))
def grd (h : Hp) (t : List Int) : Int := sm (fun i => gnd h i * ata t i) h.ground.length
theorem grd_bd {h : Hp} (v : VH h) {t : List Int} (ht : ∀ j, j < h.ground.length → 0 ≤ ata t j ∧ ata t j ≤ 5000000) : 0 ≤ grd h t ∧ grd h t ≤ 50000000 := by
  have h5 := v.n5
  have b : ∀ j, j < h.ground.length → 0 ≤ gnd h j * ata t j ∧ gnd h j * ata t j ≤ 10000000 := fun j hj => by
    have h1 := v.gb j hj
    have h2 := ht j hj
    have h3 := Int.mul_nonneg h1.1 h2.1
    have h4 := Int.mul_nonneg (show 0 ≤ 2 - gnd h j by omega) h2.1
    rw [Int.sub_mul] at h4
    omega
  unfold grd
  have h1 := sm_le (f := fun i => gnd h i * ata t i) (g := fun _ => 10000000) (n := h.ground.length) fun j hj => (b j hj).2
  rw [sm_const] at h1
  exact ⟨sm_nonneg fun j hj => (b j hj).1, by omega⟩
end Go.Ab.Try
set_option linter.all false
namespace Go.Ab.Try
open Go Go.Ab Go.Proofs Go.Ab.Heap
theorem check1 {h : Hp} {a : List Int} (e : checkE h [a] = 0) : VH h ∧ Hpg30 h a := ⟨(check_ok e).1, (check_ok e).2 a (by simp)⟩
theorem check2 {h : Hp} {a b : List Int} (e : checkE h [a, b] = 0) : VH h ∧ Hpg30 h a ∧ Hpg30 h b := ⟨(check_ok e).1, (check_ok e).2 a (by simp), (check_ok e).2 b (by simp)⟩
theorem sm_len {a : List Int} {h : Hp} (hl : a.length = h.ground.length) : sm (ata a) a.length = sm (ata a) h.ground.length := by rw [hl]
theorem stl_ground {h : Hp} (v : VH h) {a : List Int} (ha : Hpg h a) : sm (ata a) h.ground.length - sm (ata (stl h a)) h.ground.length = grd h (stlT h a) := by
  obtain ⟨I, _⟩ := stl_spec v ha
  have e1 : sm (ata (stl h a)) h.ground.length = sm (ata a) h.ground.length - sm (h.sp.lap (ata (stlT h a))) h.ground.length := by
    rw [← sm_sub]; exact sm_congr fun i hi => by rw [I.eq i hi]; rfl
  have e2 : sm (h.sp.lap (ata (stlT h a))) h.ground.length = grd h (stlT h a) := lap_sum v.ok (ata (stlT h a))
  rw [e1, e2]; omega
noncomputable def settleR (h : Hp) (a : List Int) : List Int × List Int × Int × Int := if checkE h [a] ≠ 0 then ([], [], 0, checkE h [a]) else (stl h a, stlT h a, grd h (stlT h a), 0)
theorem settle_bad {h : Hp} {a : List Int} (e : checkE h [a] ≠ 0) : settleR h a = ([], [], 0, checkE h [a]) := by unfold settleR; rw [if_pos e]
theorem settle_ok {h : Hp} {a : List Int} (e : checkE h [a] = 0) : settleR h a = (stl h a, stlT h a, grd h (stlT h a), 0) := by unfold settleR; rw [if_neg (by simp [e])]
theorem stl_bds {h : Hp} (v : VH h) {a : List Int} (f : Fit h a) : (∀ j, j < h.ground.length → 0 ≤ ata (stl h a) j ∧ ata (stl h a) j ≤ 12) ∧ ∀ j, j < h.ground.length → 0 ≤ ata (stlT h a) j ∧ ata (stlT h a) j ≤ 5000000 := by
  obtain ⟨I, hc⟩ := stl_spec v f.hpg
  exact ⟨fun j hj => ⟨I.c0 j hj, by have := hc j hj; have := v.lim12 hj; omega⟩, (f.cb v I).2⟩
theorem stl_len {h : Hp} {a : List Int} : (stl h a).length = h.ground.length := by simp [stl]
theorem stlT_len {h : Hp} (v : VH h) {a : List Int} (ha : Hpg h a) : (stlT h a).length = h.ground.length := (stl_spec v ha).1.lt
def addK (h : Hp) (a b : List Int) (q : Nat) : List Int := (List.range h.ground.length).map fun j => ata a j + (if j < q then ata b j else 0)
theorem addK_len {h : Hp} {a b : List Int} {q : Nat} : (addK h a b q).length = h.ground.length := by simp [addK]
theorem addK_at {h : Hp} {a b : List Int} {q j : Nat} (hj : j < h.ground.length) : ata (addK h a b q) j = ata a j + (if j < q then ata b j else 0) := ata_mk hj
theorem addK_zero {h : Hp} {a b : List Int} (hl : a.length = h.ground.length) : a = addK h a b 0 := by
  refine list_ext hl fun j _ => ?_
  rw [if_neg (Nat.not_lt_zero j)]; omega
theorem addK_succ {h : Hp} {a b : List Int} {q : Nat} (hq : q < h.ground.length) : (addK h a b q).set q (ata (addK h a b q) q + ata b q) = addK h a b (q + 1) := by
  refine map_set (fun j _ hne => ?_) fun _ => ?_
  · by_cases h1 : j < q
    · rw [if_pos h1, if_pos (show j < q + 1 by omega)]
    · rw [if_neg h1, if_neg (show ¬ j < q + 1 by omega)]
  · rw [addK_at hq, if_neg (Nat.lt_irrefl q), if_pos (Nat.lt_succ_self q)]; omega
theorem addK_full {h : Hp} {a b : List Int} : addK h a b h.ground.length = addL h a b := by
  unfold addK addL
  refine List.map_congr_left fun j hj => ?_
  rw [if_pos (show j < h.ground.length by simpa using hj)]
structure Half (h : Hp) (a : List Int) : Prop where
  hpg : Hpg h a
  bd : ∀ j, j < h.ground.length → ata a j ≤ 100000
theorem Half.add {h : Hp} {a b : List Int} (x : Half h a) (y : Half h b) : Fit h (addL h a b) := ⟨addL_hpg x.hpg y.hpg, fun j hj => by rw [addL_at hj]; have := x.bd j hj; have := y.bd j hj; omega⟩
theorem Half.of30 {h : Hp} {a : List Int} (x : Hpg30 h a) : Half h a := ⟨x.hpg, fun j hj => by have := x.bd j hj; omega⟩
set_option maxHeartbeats 4000000 in
theorem f25 (h : Hp) (a : List Int) : ACallsF Try.prog 25 [dHp h, ints a] (.many [rI (settleR h a).1, rI (settleR h a).2.1, .dv (i64 (settleR h a).2.2.1), .dv (i64 (settleR h a).2.2.2)]) := by
  refine callsF_of Try.func25 rfl rfl (by rw [Try.ntmps25]; simp) fun cx hP hn hg => ?_
  rw [Try.ntmps25] at hn
  rw [startF_lk, none_mkM]
  simp only [List.nil_append, List.append_nil, List.cons_append, zipSV, Nat.reduceAdd]
  refine awp_seq ?_
  refine rg ?_
  refine qp m_box ?_
  refine qv m_as ?_
  refine qv m_as ?_
  refine qv m_as ?_
  refine qv m_as ?_
  show AWp cx _ _ _
  refine awp_seq ?_
  refine awp_seq ?_
  refine rg ?_
  refine qv (m_ldpa sz25 ag25) ?_
  refine qv m_mv ?_
  refine qr (m_bsl el22 ze23 sz23) ?_
  refine qqF (f61 h [a] (by simp)) ?_ (ha := (args_cons data_dv (args_cons (data_rows (L := [a]) (by simp only [mkM, reduceIte, Nat.reduceEqDiff] <;> rfl) trivial rfl (fun _ => trivial)) args_nil)))
  refine qv m_as ?_
  show AWp cx _ _ _
  refine awp_seq ?_
  refine rg ?_
  refine qv m_mv ?_
  refine qv m_neq ?_
  show AWp cx _ _ _
  refine cd (fun hc0 => ?_) (fun hc0 => ?_)
  · skip
    have he0 : checkE h [a] ≠ 0 := by simpa using hc0
    refine awp_seq ?_
    refine rg ?_
    refine qv m_mv ?_
    refine qv m_as ?_
    refine qv m_as ?_
    refine qv m_as ?_
    refine qv m_as ?_
    show AWp cx _ _ _
    refine awp_ret ?_
    exact x4 (hr := (rN_ (by rw [settle_bad he0]))) (hr' := (rN_ (by rw [settle_bad he0]))) (hr'' := (rI_ (by rw [settle_bad he0]))) (hr3 := (rI_ (by rw [settle_bad he0])))
  · skip
    have he0 : checkE h [a] = 0 := by simpa using hc0
    obtain ⟨v, h30⟩ := check1 he0
    have h5 := v.n5
    have hal := h30.len
    have f := Fit.of30 h30
    have hsb := stl_bds v f
    have hsl := stl_len (h := h) (a := a)
    have htl := stlT_len v f.hpg
    have hgd := stl_ground v f.hpg
    refine awp_skip ?_
    show AWp cx _ _ _
    refine awp_seq ?_
    refine rg ?_
    refine qv (m_ldpa sz25 ag25) ?_
    refine qv m_mv ?_
    refine qqF (f66 h v a f) ?_ (hS := (res_rr (d2 := 1019) rfl (by (simp only [mkM, reduceIte, Nat.reduceEqDiff] <;> rfl)) (by (simp only [mkM, reduceIte, Nat.reduceEqDiff] <;> rfl))))
    refine qv m_mv ?_
    refine qv m_ext ?_
    refine qv m_ext ?_
    refine qv m_as ?_
    refine qv m_as ?_
    show AWp cx _ _ _
    refine awp_seq ?_
    refine rg ?_
    refine qv m_mv ?_
    refine qv m_mv ?_
    refine qv m_mv ?_
    refine qqF (f67 a (by omega) (fun j hj => by have := h30.bd j (by omega); omega)) ?_
    refine qv m_mv ?_
    refine qqF (f67 (stl h a) (by omega) (fun j hj => by have := hsb.1 j (by omega); omega)) ?_ (ha := (args_cons (data_ints (L := stl h a) (by simp only [mkM, reduceIte, Nat.reduceEqDiff] <;> rfl) trivial (by first | rfl | omega | (simp; done) | (simp; omega)) rfl rfl (fun _ => trivial)) args_nil))
    have hgr := grd_bd v hsb.2
    rw [sm_len hal, sm_len hsl]
    refine qv m_sub ?_
    refine qv m_as ?_
    refine qv m_as ?_
    refine qv m_as ?_
    refine qv m_as ?_
    show AWp cx _ _ _
    refine awp_ret ?_
    exact x4 (hr := (rR_ (by rw [settle_ok he0]) (hl := by (try dsimp only) <;> omega))) (hr' := (rR_ (by rw [settle_ok he0]) (hl := by (try dsimp only) <;> omega))) (hr'' := (rI_ (by rw [settle_ok he0]; exact hgd))) (hr3 := (rI_ (by rw [settle_ok he0])))
set_option maxHeartbeats 4000000 in
theorem f75 (h : Hp) (v : VH h) (a b : List Int) (x : Half h a) (y : Half h b) : ACallsF Try.prog 75 [dHp h, ints a, ints b] (.one (rI (stl h (addL h a b)))) := by
  have h5 := v.n5
  have hal := x.hpg.len
  have hbl := y.hpg.len
  have f := x.add y
  refine callsF_of Try.func75 rfl rfl (by rw [Try.ntmps75]; simp) fun cx hP hn hg => ?_
  rw [Try.ntmps75] at hn
  rw [startF_lk, none_mkM]
  simp only [List.nil_append, List.append_nil, List.cons_append, zipSV, Nat.reduceAdd]
  refine awp_seq ?_
  refine rg ?_
  refine qp m_box ?_
  refine qv m_as ?_
  show AWp cx _ _ _
  refine awp_seq ?_
  refine rg ?_
  refine qv m_mv ?_
  refine qqF (f80 a (by omega)) ?_
  refine qv m_as ?_
  show AWp cx _ _ _
  refine awp_seq ?_
  refine awp_seq ?_
  refine rg ?_
  refine qv m_mv ?_
  refine qv (m_lenR il23) ?_
  refine qv m_mv ?_
  show AWp cx _ _ _
  refine awp_block ?_
  have hz := addK_zero (b := b) hal
  refine awp_loop (ι := Nat) (fun q => ⟨lk [(2, .dv (ints (b))), (3, .pt 3 0 0), (7, .sl 7 0 0 h.ground.length), (14, .dv (i64 (((a).length : Nat)))), (15, .dv (i64 (q : Nat)))], mkM [(3, 0, some ⟨[.dv (.list ((h.links).map ints)), .dv (ints (h.ground))], 0, 25, 0, false⟩), (7, 0, some (rowI (addK h a b q)))]⟩) (fun q => q ≤ h.ground.length) (fun q => h.ground.length - q) 0 (by simp) (tl [(3, 3), (7, 12)] (hF := by simp [FLe, svLe, lk, mkM, isLive, tauL, ← hz, hal]) (hM := by simp [MLe, blkLe, svLe, svLes, lk, mkM, isLive, tauL, svLes_ints, svLes_self, isDvs, isDvs_map, isDvs_app, isDvs_take, isDvs_set, isDvs_repl, ← hz, hal])) ?_
  intro q hφ0
  refine awp_seq ?_
  refine rg ?_
  refine qv m_lss ?_
  show AWp cx _ _ _
  refine awp_seq ?_
  refine cd (fun hc0 => ?_) (fun hc0 => ?_)
  · try simp at hc0
    refine awp_skip ?_
    show AWp cx _ _ _
    refine awp_seq ?_
    refine awp_block ?_
    refine awp_seq ?_
    refine rg ?_
    refine qv m_mv ?_
    refine qv m_as ?_
    show AWp cx _ _ _
    have hq : q < h.ground.length := by omega
    have hgq := ata_get (a := addK h a b q) (i := q) (by rw [addK_len]; exact hq)
    have hkl := addK_len (h := h) (a := a) (b := b) (q := q)
    have hgb := ata_get (a := b) (i := q) (by omega)
    have hsc := addK_succ (a := a) (b := b) hq
    have hat := addK_at (a := a) (b := b) (q := q) hq
    rw [if_neg (Nat.lt_irrefl q)] at hat
    have h1 := x.hpg.nn q hq
    have h2 := x.bd q hq
    have h3 := y.hpg.nn q hq
    have h4 := y.bd q hq
    refine rd mixed ?_
    refine zv m_mv ?_
    refine zv m_mv ?_
    refine zv (m_ixR el23 sz3) ?_
    refine zv (m_ldI sz3 ag3 (hq := hgq)) ?_
    refine zv m_mv ?_
    refine zv m_mv ?_
    first | refine zv (m_ixN el23 sz3) ?_ | refine zv (m_ix el23 sz3) ?_
    refine zv (m_ld sz3 ag3) ?_
    refine zv m_add ?_
    refine zv (m_ixR el23 sz3) ?_
    first | refine zs (m_stI sz3) ?_ | refine zs (m_st sz3) ?_
    refine ⟨by rfl, ?_⟩
    show AWp cx _ _ _
    refine rg ?_
    refine qv m_add ?_
    refine qv m_mv ?_
    exact ⟨q + 1, hq, (by simp only; omega), (tl [(3, 3), (7, 7)] (hF := by simp [FLe, svLe, lk, mkM, isLive, tauL, hsc]) (hM := by simp [MLe, blkLe, svLe, svLes, lk, mkM, isLive, tauL, svLes_ints, svLes_self, isDvs, isDvs_map, isDvs_app, isDvs_take, isDvs_set, isDvs_repl, hsc]))⟩
  · try simp at hc0
    obtain rfl : q = h.ground.length := by omega
    have hfl := addK_full (h := h) (a := a) (b := b)
    rw [hfl]
    refine awp_exit ?_
    show AWp cx _ _ _
    refine awp_seq ?_
    refine rg ?_
    refine qv (m_ldpa sz25 ag25) ?_
    refine qv m_mv ?_
    refine qqF (f66 h v (addL h a b) f) ?_ (ha := (args_cons data_dv (args_cons (data_ints (L := addL h a b) (by simp only [mkM, reduceIte, Nat.reduceEqDiff] <;> rfl) trivial (by first | exact f.hpg.len | rfl | omega | (simp; done) | (simp; omega)) rfl rfl (fun _ => trivial)) args_nil))) (hS := (res_rr (d2 := 1032) rfl (by (simp only [mkM, reduceIte, Nat.reduceEqDiff] <;> rfl)) (by (simp only [mkM, reduceIte, Nat.reduceEqDiff] <;> rfl))))
    refine qv m_mv ?_
    refine qv m_ext ?_
    refine qv m_ext ?_
    refine qv m_as ?_
    refine qv m_as ?_
    show AWp cx _ _ _
    refine awp_seq ?_
    refine rg ?_
    refine qv m_mv ?_
    refine qv m_as ?_
    show AWp cx _ _ _
    refine awp_ret ?_
    exact x1 (hr := (rR_ (hl := by rw [stl_len])))
end Go.Ab.Try
