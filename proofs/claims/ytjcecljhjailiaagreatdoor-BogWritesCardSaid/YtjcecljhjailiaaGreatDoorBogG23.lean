/- BogH5, BogH6, HeapT2, BogH7. -/
import Derived.Test.YtjcecljhjailiaaGreatDoorBogG22
import Derived.Test.YtjcecljhjailiaaGreatDoorBogG09
import Derived.Test.YtjcecljhjailiaaGreatDoorBogG20
set_option linter.all false
namespace Go.Ab.Tryz.H
open Go Go.Ab Go.Ab.Tryz Go.Proofs Go.Ab.Heap
def hpgB (h : Hp) (a : List Int) : Bool := a.length == h.ground.length && !a.any fun x => !inR x 0 30
def checkE (h : Hp) (l : List (List Int)) : Int := if validate h ≠ 0 then validate h else if l.all (hpgB h) then 0 else 1
theorem check_bad {h : Hp} {l : List (List Int)} (e : validate h ≠ 0) : checkE h l = validate h := by unfold checkE; rw [if_pos e]
theorem check_no {h : Hp} {l : List (List Int)} (e : validate h = 0) {j : Nat} {a : List Int} (ha : l[j]? = some a) (hb : hpgB h a = false) : checkE h l = 1 := by
  unfold checkE; rw [if_neg (by simp [e]), if_neg]
  intro hh
  rw [List.all_eq_true] at hh
  rw [hh a (List.mem_of_getElem? ha)] at hb; cases hb
theorem check_yes {h : Hp} {l : List (List Int)} (e : validate h = 0) (hb : ∀ (j : Nat) (a : List Int), l[j]? = some a → hpgB h a = true) : checkE h l = 0 := by
  unfold checkE; rw [if_neg (by simp [e]), if_pos]
  rw [List.all_eq_true]
  intro a ha
  obtain ⟨j, hj, rfl⟩ := List.getElem_of_mem ha
  exact hb j _ (List.getElem?_eq_getElem hj)
structure Hpg30 (h : Hp) (a : List Int) : Prop where
  len : a.length = h.ground.length
  bd : ∀ i, i < h.ground.length → 0 ≤ ata a i ∧ ata a i ≤ 30
theorem Hpg30.hpg {h : Hp} {a : List Int} (x : Hpg30 h a) : Hpg h a := ⟨x.len, fun i hi => (x.bd i hi).1⟩
theorem hpgB_ok {h : Hp} {a : List Int} (e : hpgB h a = true) : Hpg30 h a := by
  simp only [hpgB, Bool.and_eq_true, beq_iff_eq, Bool.not_eq_true', List.any_eq_false] at e
  refine ⟨e.1, fun i hi => ?_⟩
  have := e.2 _ (List.mem_of_getElem? (ata_get (a := a) (i := i) (by omega)))
  simpa [inR] using this
theorem hpgB_mk {h : Hp} {a : List Int} (e : Hpg30 h a) : hpgB h a = true := by
  simp only [hpgB, Bool.and_eq_true, beq_iff_eq, Bool.not_eq_true', List.any_eq_false]
  refine ⟨e.len, fun x hx => ?_⟩
  obtain ⟨j, hj, rfl⟩ := List.getElem_of_mem hx
  have := e.bd j (by have := e.len; omega)
  unfold ata at this
  rw [List.getD_eq_getElem?_getD, List.getElem?_eq_getElem hj] at this
  simpa [inR] using this
theorem check_ok {h : Hp} {l : List (List Int)} (e : checkE h l = 0) : VH h ∧ ∀ a ∈ l, Hpg30 h a := by
  unfold checkE at e
  split at e
  · rename_i hv; exact absurd e hv
  · rename_i hv
    split at e
    · rename_i ha
      exact ⟨vh_of (by simpa using hv), fun a h2 => hpgB_ok (List.all_eq_true.1 ha a h2)⟩
    · cases e
theorem validate_n {h : Hp} (e : validate h = 0) : h.ground.length ≤ 5 := (vh_of e).n5
theorem hpg_len {h : Hp} {a : List Int} (e : a.length ≠ h.ground.length) : hpgB h a = false := by
  unfold hpgB; rw [beq_eq_false_iff_ne.2 e]; rfl
theorem long_no {h : Hp} {l : List (List Int)} (h1 : ∀ (j : Nat) (a : List Int), l[j]? = some a → a.length ≤ 400) (h2 : ∀ (j : Nat) (a : List Int), h.links[j]? = some a → a.length ≤ 50) : longB h l = (decide (50 < h.links.length) || decide (50 < h.ground.length)) := by
  unfold longB
  have e1 : (l.any fun r => decide (400 < r.length)) = false := by
    rw [List.any_eq_false]
    intro a ha
    obtain ⟨j, hj, rfl⟩ := List.getElem_of_mem ha
    have := h1 j _ (List.getElem?_eq_getElem hj)
    simp; omega
  have e2 : (h.links.any fun r => decide (50 < r.length)) = false := by
    rw [List.any_eq_false]
    intro a ha
    obtain ⟨j, hj, rfl⟩ := List.getElem_of_mem ha
    have := h2 j _ (List.getElem?_eq_getElem hj)
    simp; omega
  rw [e1, e2]; simp
theorem f129 (h : Hp) (l : List (List Int)) (hl : l.length < 1000) : ACallsF Tryz.prog 129 [dHp h, .list (l.map ints)] (.one (.dv (i64 (checkE h l)))) := by
  refine callsF_of Tryz.func129 rfl rfl (by rw [Tryz.ntmps129]; simp) fun cx hP hn hg => ?_
  rw [Tryz.ntmps129] at hn
  rw [startF_lk, none_mkM]
  simp only [List.nil_append, List.append_nil, List.cons_append, zipSV, Nat.reduceAdd]
  refine awp_seq ?_
  refine rg ?_
  refine qp m_box ?_
  refine qv m_as ?_
  show AWp cx _ _ _
  refine awp_seq ?_
  refine awp_seq ?_
  refine rg ?_
  refine qv (m_ldpa sz27 ag27) ?_
  refine qqF (f94 h) ?_
  refine qv m_as ?_
  show AWp cx _ _ _
  refine awp_seq ?_
  refine rg ?_
  refine qv m_mv ?_
  refine qv m_neq ?_
  show AWp cx _ _ _
  refine cd (fun hc0 => ?_) (fun hc0 => ?_)
  · skip
    have hv0 : validate h ≠ 0 := by simpa using hc0
    refine awp_seq ?_
    refine rg ?_
    refine qv m_mv ?_
    refine qv m_as ?_
    show AWp cx _ _ _
    refine awp_ret ?_
    exact x1 (hr := (rI_ (by rw [check_bad hv0])))
  · skip
    have hv0 : validate h = 0 := by simpa using hc0
    have h5 := validate_n hv0
    refine awp_skip ?_
    show AWp cx _ _ _
    refine awp_seq ?_
    refine awp_seq ?_
    refine rg ?_
    refine qv m_mv ?_
    refine qv (m_len il22) ?_
    refine qv m_mv ?_
    show AWp cx _ _ _
    refine awp_block ?_
    refine awp_loop (ι := Nat) (fun i => ⟨lk [(2, .pt 2 0 0), (13, .dv (.list ((l).map ints))), (14, .dv (i64 ((l.length : Int)))), (15, .dv (i64 (i : Nat)))], mkM [(2, 0, some ⟨[.dv (.list ((h.links).map ints)), .dv (ints (h.ground))], 0, 27, 0, false⟩)]⟩) (fun i => i ≤ l.length ∧ ∀ (j : Nat) (a : List Int), j < i → l[j]? = some a → hpgB h a = true) (fun i => l.length - i) 0 (by simp) (tl [(2, 2)]) ?_
    intro i hφ0
    refine awp_seq ?_
    refine rg ?_
    refine qv m_lss ?_
    show AWp cx _ _ _
    refine awp_seq ?_
    refine cd (fun hc1 => ?_) (fun hc1 => ?_)
    · try simp at hc1
      refine awp_skip ?_
      show AWp cx _ _ _
      refine awp_seq ?_
      refine awp_block ?_
      refine awp_seq ?_
      refine rg ?_
      obtain ⟨a, hga⟩ : ∃ a, l[i]? = some a := ⟨_, List.getElem?_eq_getElem (by omega)⟩
      first | refine qv (m_ixN el22 sz25) ?_ | refine qv (m_ix el22 sz25) ?_
      refine qv (m_ld sz25 ag25) ?_
      refine qv m_as ?_
      show AWp cx _ _ _
      refine awp_seq ?_
      refine rg ?_
      refine qv m_mv ?_
      refine qv (m_len il25) ?_
      refine qv (m_fdp fd27_1) ?_
      refine qv (m_ldp sz25 ag25) ?_
      refine qv (m_len il25) ?_
      refine qv m_neq ?_
      refine qx m_mv (fun hg25 => ?_) (fun hg25 => ?_)
      · try simp at hg25
        refine qk ?_
        refine qk ?_
        refine qv m_pk ?_
        show AWp cx _ _ _
        refine cdT (hb := by first | rfl | simp | simp_all) (ht := ?_)
        refine awp_seq ?_
        refine rg ?_
        refine qv m_as ?_
        show AWp cx _ _ _
        refine awp_ret ?_
        exact x1 (hr := (rI_ (by rw [check_no hv0 hga (by first | exact hpg_len (by intro e; exact hg25 (by exact_mod_cast e)) | (unfold hpgB; simp [hc2]))])))
      · try simp at hg25
        have hal : a.length = h.ground.length := by exact_mod_cast hg25
        refine qv m_mv ?_
        refine qqF (f106 a 165 (fun x => !inR x 0 30) (fun x _ => f165 x) (by omega)) ?_
        refine qv m_pk ?_
        show AWp cx _ _ _
        refine cd (fun hc2 => ?_) (fun hc2 => ?_)
        · try simp only [Bool.not_eq_true] at hc2
          refine awp_seq ?_
          refine rg ?_
          refine qv m_as ?_
          show AWp cx _ _ _
          refine awp_ret ?_
          exact x1 (hr := (rI_ (by rw [check_no hv0 hga (by first | exact hpg_len (by intro e; exact hg25 (by exact_mod_cast e)) | (unfold hpgB; simp [hc2]))])))
        · try simp only [Bool.not_eq_true] at hc2
          refine awp_skip ?_
          show AWp cx _ _ _
          refine rg ?_
          refine qv m_add ?_
          refine qv m_mv ?_
          refine ⟨i + 1, ?_, (by simp only; omega), (tl [(2, 2)])⟩
          refine ⟨by omega, fun j b hj hb => ?_⟩
          rcases Nat.lt_or_ge j i with h1 | h1
          · exact hφ0.2 j b h1 hb
          · obtain rfl : j = i := by omega
            rw [hga] at hb; cases hb
            unfold hpgB
            rw [show a.length = h.ground.length by exact_mod_cast hg25]
            simp [hc2]
    · try simp at hc1
      refine awp_exit ?_
      show AWp cx _ _ _
      refine awp_seq ?_
      refine rg ?_
      refine qv m_as ?_
      show AWp cx _ _ _
      refine awp_ret ?_
      exact x1 (hr := (rI_ (by rw [check_yes hv0 fun j a hj => hφ0.2 j a (by have := (List.getElem?_eq_some_iff.1 hj).1; omega) hj])))
def oneE (h : Hp) (i : Int) (l : List (List Int)) : Int := if checkE h l ≠ 0 then checkE h l else if inR i 0 ((h.ground.length : Int) - 1) then 0 else 4
theorem f213 (h : Hp) (i : Int) (l : List (List Int)) (hl : l.length < 1000) : ACallsF Tryz.prog 213 [dHp h, i64 i, .list (l.map ints)] (.one (.dv (i64 (oneE h i l)))) := by
  refine callsF_of Tryz.func213 rfl rfl (by rw [Tryz.ntmps213]; simp) fun cx hP hn hg => ?_
  rw [Tryz.ntmps213] at hn
  rw [startF_lk, none_mkM]
  simp only [List.nil_append, List.append_nil, List.cons_append, zipSV, Nat.reduceAdd]
  refine awp_seq ?_
  refine rg ?_
  refine qp m_box ?_
  refine qv m_as ?_
  show AWp cx _ _ _
  refine awp_seq ?_
  refine awp_seq ?_
  refine rg ?_
  refine qv (m_ldpa sz27 ag27) ?_
  refine qv m_mv ?_
  refine qqF (f129 h l hl) ?_
  refine qv m_as ?_
  show AWp cx _ _ _
  refine awp_seq ?_
  refine rg ?_
  refine qv m_mv ?_
  refine qv m_neq ?_
  show AWp cx _ _ _
  refine cd (fun hc0 => ?_) (fun hc0 => ?_)
  · skip
    have hv0 : checkE h l ≠ 0 := by simpa using hc0
    refine awp_seq ?_
    refine rg ?_
    refine qv m_mv ?_
    refine qv m_as ?_
    show AWp cx _ _ _
    refine awp_ret ?_
    exact x1 (hr := (rI_ (by simp [oneE, hv0])))
  · skip
    have hv0 : checkE h l = 0 := by simpa using hc0
    have h5 := (check_ok hv0).1.n5
    refine awp_skip ?_
    show AWp cx _ _ _
    refine awp_seq ?_
    refine awp_seq ?_
    refine rg ?_
    refine qv m_mv ?_
    refine qv (m_fdp fd27_1) ?_
    refine qv (m_ldp sz25 ag25) ?_
    refine qv (m_len il25) ?_
    refine qv m_sub ?_
    refine qqF (f133 i 0 ((h.ground.length : Int) - 1)) ?_
    refine qv m_not ?_
    show AWp cx _ _ _
    refine cd (fun hc1 => ?_) (fun hc1 => ?_)
    · try simp at hc1
      refine awp_seq ?_
      refine rg ?_
      refine qv m_as ?_
      show AWp cx _ _ _
      refine awp_ret ?_
      exact x1 (hr := (rI_ (by simp [oneE, hv0, hc1])))
    · try simp at hc1
      refine awp_skip ?_
      show AWp cx _ _ _
      refine awp_seq ?_
      refine rg ?_
      refine qv m_as ?_
      show AWp cx _ _ _
      refine awp_ret ?_
      exact x1 (hr := (rI_ (by simp [oneE, hv0, hc1])))
end Go.Ab.Tryz.H
set_option linter.all false
namespace Go.Ab.Tryz.H
open Go Go.Ab Go.Ab.Tryz Go.Proofs Go.Ab.Heap
theorem tdiv_facts {a l : Int} (ha : 0 ≤ a) (hl : 1 ≤ l) : 0 ≤ a.tdiv l ∧ a.tdiv l * l ≤ a ∧ a.tdiv l ≤ a ∧ (l ≤ a → 1 ≤ a.tdiv l) ∧ (a < l → a.tdiv l = 0) := by
  rw [Int.tdiv_eq_ediv_of_nonneg ha]
  have h1 := Int.ediv_nonneg ha (show 0 ≤ l by omega)
  have h2 := Int.ediv_mul_le a (show l ≠ 0 by omega)
  have h3 := Int.mul_nonneg h1 (show 0 ≤ l - 1 by omega)
  rw [Int.mul_sub, Int.mul_one] at h3
  refine ⟨h1, h2, by omega, fun h => ?_, fun h => Int.ediv_eq_zero_of_lt ha h⟩
  exact Int.le_ediv_of_mul_le (by omega) (by omega)
structure Fit (h : Hp) (a : List Int) : Prop where
  hpg : Hpg h a
  bd : ∀ j, j < h.ground.length → ata a j ≤ 200000
theorem Fit.sum {h : Hp} (v : VH h) {a : List Int} (f : Fit h a) : sm (ata a) h.ground.length ≤ 1000000 := by
  have h1 := sm_le (f := ata a) (g := fun _ => 200000) (n := h.ground.length) f.bd
  rw [sm_const] at h1
  have := v.n5; omega
theorem Fit.cb {h : Hp} (v : VH h) {a c t : List Int} (f : Fit h a) (I : SInv h a c t) : (∀ j, j < h.ground.length → 0 ≤ ata c j ∧ ata c j ≤ 1000000) ∧ ∀ j, j < h.ground.length → 0 ≤ ata t j ∧ ata t j ≤ 5000000 := by
  have hs := f.sum v
  refine ⟨I.cb v hs, fun j hj => ?_⟩
  have h1 := I.bd v f.hpg.nn hs j hj
  have := v.n5
  have h2 : (h.ground.length : Int) * 1000000 ≤ 5000000 := by omega
  omega
set_option maxHeartbeats 4000000 in
theorem f215 (h : Hp) (v : VH h) (a : List Int) (f : Fit h a) : ACallsF Tryz.prog 215 [dHp h, ints a] (.many [rI (stl h a), rI (stlT h a)]) := by
  have h5 := v.n5
  have hal := f.hpg.len
  refine callsF_of Tryz.func215 rfl rfl (by rw [Tryz.ntmps215]; simp) fun cx hP hn hg => ?_
  rw [Tryz.ntmps215] at hn
  rw [startF_lk, none_mkM]
  simp only [List.nil_append, List.append_nil, List.cons_append, zipSV, Nat.reduceAdd]
  refine awp_seq ?_
  refine rg ?_
  refine qp m_box ?_
  refine qv m_as ?_
  refine qv m_as ?_
  show AWp cx _ _ _
  refine awp_scope_jumps (ι := List Int × List Int) 0 (fun q => ⟨lk [(2, .pt 2 0 0), (4, .sl 4 0 0 h.ground.length), (5, .sl 5 0 0 h.ground.length)], mkM [(2, 0, some ⟨[.dv (.list (h.links.map ints)), .dv (ints h.ground)], 0, 27, 0, false⟩), (4, 0, some (rowI q.1)), (5, 0, some (rowI q.2))]⟩) (fun q => SInv h a q.1 q.2) (fun q => smeas h a q.2) rfl ?_ (fun q hφS => ?_)
  · skip
    refine awp_seq ?_
    refine rg ?_
    refine qv m_mv ?_
    refine qqF (f214 a (by omega)) ?_
    refine qv m_as ?_
    show AWp cx _ _ _
    refine awp_seq ?_
    refine rg ?_
    refine qv m_mv ?_
    refine qv (m_len il25) ?_
    refine qr (m_mkI el25 ze3 sz3 by3) ?_
    refine qv m_as ?_
    show AWp cx _ _ _
    refine awp_seq ?_
    refine awp_label ?_
    show AWp cx _ _ _
    refine AWp.le (S0 := (fun q : List Int × List Int => (⟨lk [(2, .pt 2 0 0), (4, .sl 4 0 0 h.ground.length), (5, .sl 5 0 0 h.ground.length)], mkM [(2, 0, some ⟨[.dv (.list (h.links.map ints)), .dv (ints h.ground)], 0, 27, 0, false⟩), (4, 0, some (rowI q.1)), (5, 0, some (rowI q.2))]⟩ : St)) (a, List.replicate h.ground.length 0)) (tl [(2, 2), (4, 9), (5, 12)] (hF := by simp [FLe, svLe, lk, mkM, isLive, tauL, hal]) (hM := by simp [MLe, blkLe, svLe, svLes, lk, mkM, isLive, tauL, svLes_ints, svLes_self, isDvs, isDvs_map, isDvs_app, isDvs_take, isDvs_set, isDvs_repl, hal])) ((fun H : ∀ q : List Int × List Int, (SInv h a q.1 q.2) → AWp cx _ _ (⟨lk [(2, .pt 2 0 0), (4, .sl 4 0 0 h.ground.length), (5, .sl 5 0 0 h.ground.length)], mkM [(2, 0, some ⟨[.dv (.list (h.links.map ints)), .dv (ints h.ground)], 0, 27, 0, false⟩), (4, 0, some (rowI q.1)), (5, 0, some (rowI q.2))]⟩ : St) => H _ (SInv.start f.hpg.len f.hpg.nn)) (fun q hφS => ?_))
    have hcb := f.cb v hφS
    have hcl := hφS.lc
    have htl := hφS.lt
    refine awp_seq ?_
    refine awp_seq ?_
    refine rg ?_
    refine qv (m_ldpa sz27 ag27) ?_
    refine qv m_mv ?_
    refine qqF (f130 h v q.1 hcl) ?_ (ha := (args_cons data_dv (args_cons (data_ints (L := q.1) (by simp only [mkM, reduceIte, Nat.reduceEqDiff] <;> rfl) trivial (by first | rfl | omega | (simp; done) | (simp; omega)) rfl rfl (fun _ => trivial)) args_nil)))
    refine qv m_as ?_
    show AWp cx _ _ _
    refine awp_seq ?_
    refine rg ?_
    refine qv m_mv ?_
    refine qv m_geq ?_
    show AWp cx _ _ _
    refine cd (fun hc0 => ?_) (fun hc0 => ?_)
    · skip
      rcases high_cases h q.1 with ⟨e, _⟩ | ⟨i, hi, e, hp⟩
      · exact absurd hc0 (by rw [e]; simp)
      rw [e]
      have hgi := ata_get (a := q.1) (i := i) (by omega)
      have hgt := ata_get (a := q.2) (i := i) (by omega)
      have hbi := hcb.1 i hi
      have hbt := hcb.2 i hi
      have hL1 := v.lim1 hi
      have hkf := tdiv_facts hbi.1 hL1
      refine awp_seq ?_
      refine rd mixed ?_
      refine zv m_mv ?_
      refine zv m_mv ?_
      refine zv (m_ixR el25 sz3) ?_
      refine zv (m_ldI sz3 ag3 (hq := hgi)) ?_
      refine zv (m_ldpa sz27 ag27) ?_
      refine zv m_mv ?_
      refine zqF (R := []) (f166 h v i hi) ?_
      refine zv m_quo ?_
      refine zv m_as ?_
      refine ⟨by rfl, ?_⟩
      show AWp cx _ _ _
      refine awp_seq ?_
      obtain ⟨k, hke⟩ : ∃ k, k = (ata q.1 i).tdiv (h.sp.lim i) := ⟨_, rfl⟩
      rw [← hke]
      rw [← hke] at hkf
      have hk := hkf
      have hk1 := hkf.2.2.2.1 hp
      have hms := smeas_lt v hφS f.hpg.nn hi hk1 hkf.2.1
      refine rg ?_
      refine qv (m_ldpa sz27 ag27) ?_
      refine qv m_mv ?_
      refine qv m_mv ?_
      refine qv m_mv ?_
      refine qqG (f233 h v q.1 i k hcl hi (fun j hj => by have := hcb.1 j hj; omega) (by omega)) [] [(100000, 4)] [4] ?_
      show AWp cx _ _ _
      refine awp_seq ?_
      refine rg ?_
      refine qv m_mv ?_
      refine qv m_mv ?_
      refine qv (m_ixR el25 sz3) ?_
      refine qv (m_ldI sz3 ag3 (hq := hgt)) ?_
      refine qv m_mv ?_
      refine qv m_add ?_
      refine qv (m_ixR el25 sz3) ?_
      first | refine qs (m_stI sz3) ?_ | refine qs (m_st sz3) ?_
      show AWp cx _ _ _
      refine awp_goto ?_
      exact ⟨rfl, (topL h q.1 i k, q.2.set i (ata q.2 i + k)), hφS.step v hi hk.1 hk.2.1, (tl [(2, 2), (4, 4), (5, 5)] (hF := by simp [FLe, svLe, lk, mkM, isLive, tauL, hal]) (hM := by simp [MLe, blkLe, svLe, svLes, lk, mkM, isLive, tauL, svLes_ints, svLes_self, isDvs, isDvs_map, isDvs_app, isDvs_take, isDvs_set, isDvs_repl, hal]))⟩
    · skip
      have hcalm : calmB h q.1 := by
        rcases high_cases h q.1 with ⟨_, e⟩ | ⟨i, hi, e, hp⟩
        · exact e
        · exact absurd hc0 (by rw [e]; simp)
      have hdn := hφS.done hcalm
      refine awp_skip ?_
      show AWp cx _ _ _
      refine awp_seq ?_
      refine rg ?_
      refine qv m_mv ?_
      refine qv m_mv ?_
      refine qv m_as ?_
      refine qv m_as ?_
      show AWp cx _ _ _
      refine awp_ret ?_
      exact x2 (hr := (rR_ (by rw [hdn.1]) (hl := by omega))) (hr' := (rR_ (by rw [hdn.2]) (hl := by omega)))
  · skip
    have hcb := f.cb v hφS
    have hcl := hφS.lc
    have htl := hφS.lt
    refine awp_seq ?_
    refine awp_skip ?_
    show AWp cx _ _ _
    refine awp_seq ?_
    refine awp_seq ?_
    refine rg ?_
    refine qv (m_ldpa sz27 ag27) ?_
    refine qv m_mv ?_
    refine qqF (f130 h v q.1 hcl) ?_ (ha := (args_cons data_dv (args_cons (data_ints (L := q.1) (by simp only [mkM, reduceIte, Nat.reduceEqDiff] <;> rfl) trivial (by first | rfl | omega | (simp; done) | (simp; omega)) rfl rfl (fun _ => trivial)) args_nil)))
    refine qv m_as ?_
    show AWp cx _ _ _
    refine awp_seq ?_
    refine rg ?_
    refine qv m_mv ?_
    refine qv m_geq ?_
    show AWp cx _ _ _
    refine cd (fun hc0 => ?_) (fun hc0 => ?_)
    · skip
      rcases high_cases h q.1 with ⟨e, _⟩ | ⟨i, hi, e, hp⟩
      · exact absurd hc0 (by rw [e]; simp)
      rw [e]
      have hgi := ata_get (a := q.1) (i := i) (by omega)
      have hgt := ata_get (a := q.2) (i := i) (by omega)
      have hbi := hcb.1 i hi
      have hbt := hcb.2 i hi
      have hL1 := v.lim1 hi
      have hkf := tdiv_facts hbi.1 hL1
      refine awp_seq ?_
      refine rd mixed ?_
      refine zv m_mv ?_
      refine zv m_mv ?_
      refine zv (m_ixR el25 sz3) ?_
      refine zv (m_ldI sz3 ag3 (hq := hgi)) ?_
      refine zv (m_ldpa sz27 ag27) ?_
      refine zv m_mv ?_
      refine zqF (R := []) (f166 h v i hi) ?_
      refine zv m_quo ?_
      refine zv m_as ?_
      refine ⟨by rfl, ?_⟩
      show AWp cx _ _ _
      refine awp_seq ?_
      obtain ⟨k, hke⟩ : ∃ k, k = (ata q.1 i).tdiv (h.sp.lim i) := ⟨_, rfl⟩
      rw [← hke]
      rw [← hke] at hkf
      have hk := hkf
      have hk1 := hkf.2.2.2.1 hp
      have hms := smeas_lt v hφS f.hpg.nn hi hk1 hkf.2.1
      refine rg ?_
      refine qv (m_ldpa sz27 ag27) ?_
      refine qv m_mv ?_
      refine qv m_mv ?_
      refine qv m_mv ?_
      refine qqG (f233 h v q.1 i k hcl hi (fun j hj => by have := hcb.1 j hj; omega) (by omega)) [] [(100000, 4)] [4] ?_
      show AWp cx _ _ _
      refine awp_seq ?_
      refine rg ?_
      refine qv m_mv ?_
      refine qv m_mv ?_
      refine qv (m_ixR el25 sz3) ?_
      refine qv (m_ldI sz3 ag3 (hq := hgt)) ?_
      refine qv m_mv ?_
      refine qv m_add ?_
      refine qv (m_ixR el25 sz3) ?_
      first | refine qs (m_stI sz3) ?_ | refine qs (m_st sz3) ?_
      show AWp cx _ _ _
      refine awp_goto ?_
      exact ⟨rfl, (topL h q.1 i k, q.2.set i (ata q.2 i + k)), ⟨hφS.step v hi hk.1 hk.2.1, hms⟩, (tl [(2, 2), (4, 4), (5, 5)] (hF := by simp [FLe, svLe, lk, mkM, isLive, tauL, hal]) (hM := by simp [MLe, blkLe, svLe, svLes, lk, mkM, isLive, tauL, svLes_ints, svLes_self, isDvs, isDvs_map, isDvs_app, isDvs_take, isDvs_set, isDvs_repl, hal]))⟩
    · skip
      have hcalm : calmB h q.1 := by
        rcases high_cases h q.1 with ⟨_, e⟩ | ⟨i, hi, e, hp⟩
        · exact e
        · exact absurd hc0 (by rw [e]; simp)
      have hdn := hφS.done hcalm
      refine awp_skip ?_
      show AWp cx _ _ _
      refine awp_seq ?_
      refine rg ?_
      refine qv m_mv ?_
      refine qv m_mv ?_
      refine qv m_as ?_
      refine qv m_as ?_
      show AWp cx _ _ _
      refine awp_ret ?_
      exact x2 (hr := (rR_ (by rw [hdn.1]) (hl := by omega))) (hr' := (rR_ (by rw [hdn.2]) (hl := by omega)))
end Go.Ab.Tryz.H
set_option linter.all false
namespace Go.Ab.Heap
open Go Go.Ab
section
variable {l : List (Nat × SV)} {m : List (Nat × Nat × Option Blk)} {d d2 g g2 : Nat} {k : IntKind} {e : TypeId} {L L2 : List Int} {x y : DV}
theorem res_rr (hd : d + 1000 = d2) (hg : (mkM m d).1 = g) (hg2 : (mkM m d2).1 = g2) : (resEff d ⟨lk l, mkM m⟩ (.many [rK k e L, rK k e L2])).app ⟨lk l, mkM m⟩ = ⟨lk ((d, .tup [.sl d (g + 1) 0 L.length, .sl d2 (g2 + 1) 0 L2.length]) :: l), mkM ((d2, g2 + 1, some (rowK k e L2)) :: (d, g + 1, some (rowK k e L)) :: m)⟩ := by
  subst hd; subst hg; subst hg2
  simp only [rK, resEff, Eff.app, impRes, impSV, resMs, impMs, setM, upd_lk, upd_mkM, Nat.mul_zero, Nat.add_zero, Nat.mul_one, Nat.zero_add, List.map_map]
  simp [rowK, Function.comp_def, mkM]
  rfl
end
end Go.Ab.Heap
set_option linter.all false
namespace Go.Ab.Tryz.H
open Go Go.Ab Go.Ab.Tryz Go.Proofs Go.Ab.Heap
abbrev rowB (L : List (List Int)) : Blk := ⟨L.map fun r => .dv (ints r), 1, 25, 0, true⟩
theorem data_rowsB {ok : Nat → Prop} {okd : DV → Prop} {M : Nat → Nat × Option Blk} {t g n : Nat} {L : List (List Int)} (hM : M t = (g, some (rowB L))) (hst : ok 0) (hl : L.length = n) (hd : ∀ l, okd (ints l)) : Data ok okd M (.sl t g 0 n) (.list (L.map ints)) := by
  refine data_cells (blk := rowB L) hM hst (by simpa using hl) (fun d h => by obtain ⟨s, _, rfl⟩ := List.mem_map.1 h; rfl) ?_
  have : flat (L.map ints) = L.map ints := flat_one fun _ => rfl
  rw [this]
  show ArgsSV (Data ok okd M) (L.map fun r => .dv (ints r)) (L.map ints)
  clear hM hl this
  induction L with
  | nil => exact args_nil
  | cons r L ih => exact args_cons (.dv _ (hd r)) ih
theorem check1 {h : Hp} {a : List Int} (e : checkE h [a] = 0) : VH h ∧ Hpg30 h a := ⟨(check_ok e).1, (check_ok e).2 a (by simp)⟩
theorem one_ok {h : Hp} {i : Int} {l : List (List Int)} (e : oneE h i l = 0) : checkE h l = 0 ∧ ∃ k : Nat, k < h.ground.length ∧ i = (k : Int) := by
  unfold oneE at e
  split at e
  · rename_i hc; exact absurd e hc
  · rename_i hc
    split at e
    · rename_i hi
      simp only [inR, Bool.and_eq_true, decide_eq_true_eq] at hi
      exact ⟨by simpa using hc, i.toNat, by omega, by omega⟩
    · cases e
theorem one_of {h : Hp} {l : List (List Int)} {k : Nat} (e : checkE h l = 0) (hk : k < h.ground.length) : oneE h (k : Int) l = 0 := by
  unfold oneE
  rw [if_neg (by simp [e]), if_pos]
  simp only [inR, Bool.and_eq_true, decide_eq_true_eq]; omega
theorem stl_bds {h : Hp} (v : VH h) {a : List Int} (f : Fit h a) : (∀ j, j < h.ground.length → 0 ≤ ata (stl h a) j ∧ ata (stl h a) j ≤ 12) ∧ ∀ j, j < h.ground.length → 0 ≤ ata (stlT h a) j ∧ ata (stlT h a) j ≤ 5000000 := by
  obtain ⟨I, hc⟩ := stl_spec v f.hpg
  exact ⟨fun j hj => ⟨I.c0 j hj, by have := hc j hj; have := v.lim12 hj; omega⟩, (f.cb v I).2⟩
theorem stl_len {h : Hp} {a : List Int} : (stl h a).length = h.ground.length := by simp [stl]
theorem stlT_len {h : Hp} (v : VH h) {a : List Int} (ha : Hpg h a) : (stlT h a).length = h.ground.length := (stl_spec v ha).1.lt
def bump (a : List Int) (k : Nat) : List Int := a.set k (ata a k + 1)
theorem bump_fit {h : Hp} {a : List Int} {k : Nat} (x : Hpg30 h a) (hk : k < h.ground.length) : Fit h (bump a k) := by
  have e : ∀ j, j < h.ground.length → 0 ≤ ata (bump a k) j ∧ ata (bump a k) j ≤ 31 := fun j hj => by
    unfold bump
    rw [ata_set (by rw [x.len]; exact hk)]
    have := x.bd j hj
    have := x.bd k hk
    split <;> omega
  exact ⟨⟨by simp [bump, x.len], fun j hj => (e j hj).1⟩, fun j hj => by have := e j hj; omega⟩
noncomputable def dropR (h : Hp) (a : List Int) (i : Int) : List Int × Int × Int := if oneE h i [a] ≠ 0 then ([], 0, oneE h i [a]) else (stl h (bump a i.toNat), sm (ata (stlT h (bump a i.toNat))) h.ground.length, 0)
theorem drop_bad {h : Hp} {a : List Int} {i : Int} (e : oneE h i [a] ≠ 0) : dropR h a i = ([], 0, oneE h i [a]) := by unfold dropR; rw [if_pos e]
theorem drop_ok {h : Hp} {a : List Int} {k : Nat} (e : oneE h (k : Int) [a] = 0) : dropR h a (k : Int) = (stl h (bump a k), sm (ata (stlT h (bump a k))) h.ground.length, 0) := by unfold dropR; rw [if_neg (by simp [e])]; rfl
structure Half (h : Hp) (a : List Int) : Prop where
  hpg : Hpg h a
  bd : ∀ j, j < h.ground.length → ata a j ≤ 100000
theorem Half.add {h : Hp} {a b : List Int} (x : Half h a) (y : Half h b) : Fit h (addL h a b) := ⟨addL_hpg x.hpg y.hpg, fun j hj => by rw [addL_at hj]; have := x.bd j hj; have := y.bd j hj; omega⟩
end Go.Ab.Tryz.H
