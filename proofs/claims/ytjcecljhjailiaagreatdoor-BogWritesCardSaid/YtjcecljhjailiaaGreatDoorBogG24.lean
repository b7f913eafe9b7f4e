/- BogH8, BogC1, BogCl. -/
import Derived.Test.YtjcecljhjailiaaGreatDoorBogG23
import Derived.Test.YtjcecljhjailiaaGreatDoorBogG09
import Derived.Test.YtjcecljhjailiaaGreatDoorBogG20
import Derived.Test.YtjcecljhjailiaaGreatDoorBogG18
set_option linter.all false
namespace Go.Ab.Tryz.H
open Go Go.Ab Go.Ab.Tryz Go.Proofs Go.Ab.Heap
theorem bump_len {a : List Int} {k : Nat} : (bump a k).length = a.length := by simp [bump]
theorem sm_le5 {n : Nat} {f : Nat → Int} (hn : n ≤ 5) (hf : ∀ i, i < n → 0 ≤ f i ∧ f i ≤ 5000000) : 0 ≤ sm f n ∧ sm f n ≤ 25000000 := by
  have h1 := sm_nonneg fun i hi => (hf i hi).1
  have h2 := sm_le (f := f) (g := fun _ => 5000000) (n := n) fun i hi => (hf i hi).2
  rw [sm_const] at h2
  exact ⟨h1, by omega⟩
set_option maxHeartbeats 4000000 in
theorem f185 (h : Hp) (a : List Int) (i : Int) : ACallsF Tryz.prog 185 [dHp h, ints a, i64 i] (.many [rI (dropR h a i).1, .dv (i64 (dropR h a i).2.1), .dv (i64 (dropR h a i).2.2)]) := by
  refine callsF_of Tryz.func185 rfl rfl (by rw [Tryz.ntmps185]; simp) fun cx hP hn hg => ?_
  rw [Tryz.ntmps185] at hn
  rw [startF_lk, none_mkM]
  simp only [List.nil_append, List.append_nil, List.cons_append, zipSV, Nat.reduceAdd]
  refine awp_seq ?_
  refine rg ?_
  refine qp m_box ?_
  refine qv m_as ?_
  refine qv m_as ?_
  refine qv m_as ?_
  show AWp cx _ _ _
  refine awp_seq ?_
  refine awp_seq ?_
  refine rg ?_
  refine qv (m_ldpa sz27 ag27) ?_
  refine qv m_mv ?_
  refine qv m_mv ?_
  refine qr (m_bsl el22 ze25 sz25) ?_
  refine qqF (f213 h i [a] (by simp)) ?_ (ha := (args_cons data_dv (args_cons data_dv (args_cons (data_rowsB (L := [a]) (by simp only [mkM, reduceIte, Nat.reduceEqDiff] <;> rfl) trivial rfl (fun _ => trivial)) args_nil))))
  refine qv m_as ?_
  show AWp cx _ _ _
  refine awp_seq ?_
  refine rg ?_
  refine qv m_mv ?_
  refine qv m_neq ?_
  show AWp cx _ _ _
  refine cd (fun hc0 => ?_) (fun hc0 => ?_)
  · skip
    have he0 : oneE h i [a] ≠ 0 := by simpa using hc0
    refine awp_seq ?_
    refine rg ?_
    refine qv m_mv ?_
    refine qv m_as ?_
    refine qv m_as ?_
    refine qv m_as ?_
    show AWp cx _ _ _
    refine awp_ret ?_
    exact x3 (hr := (rN_ (by rw [drop_bad he0]))) (hr' := (rI_ (by rw [drop_bad he0]))) (hr'' := (rI_ (by rw [drop_bad he0])))
  · skip
    have he0 : oneE h i [a] = 0 := by simpa using hc0
    obtain ⟨he1, k, hk, rfl⟩ := one_ok he0
    obtain ⟨v, h30⟩ := check1 he1
    have h5 := v.n5
    have hal := h30.len
    have hgk := ata_get (a := a) (i := k) (by omega)
    have hbk := h30.bd k hk
    have hbf := bump_fit h30 hk
    have hbl := bump_len (a := a) (k := k)
    have hbs : a.set k (ata a k + 1) = bump a k := rfl
    have hsb := stl_bds v hbf
    have hsl := stl_len (h := h) (a := bump a k)
    have htl := stlT_len v hbf.hpg
    have hss := sm_le5 h5 hsb.2
    refine awp_skip ?_
    show AWp cx _ _ _
    refine awp_seq ?_
    refine rg ?_
    refine qv m_mv ?_
    refine qqF (f214 a (by omega)) ?_
    refine qv m_as ?_
    show AWp cx _ _ _
    refine awp_seq ?_
    refine rg ?_
    refine qv m_mv ?_
    refine qv m_mv ?_
    refine qv (m_ixR el25 sz3) ?_
    refine qv (m_ldI sz3 ag3 (hq := hgk)) ?_
    refine qv m_add ?_
    refine qv (m_ixR el25 sz3) ?_
    refine qs (m_stI sz3) ?_
    show AWp cx _ _ _
    refine awp_seq ?_
    rw [hbs]
    refine rg ?_
    refine qv (m_ldpa sz27 ag27) ?_
    refine qv m_mv ?_
    refine qqF (f215 h v (bump a k) hbf) ?_ (ha := (args_cons data_dv (args_cons (data_ints (L := bump a k) (by simp only [mkM, reduceIte, Nat.reduceEqDiff] <;> rfl) trivial (by first | exact hbl | rfl | omega | (simp; done) | (simp; omega)) rfl rfl (fun _ => trivial)) args_nil))) (hS := (res_rr (d2 := 1031) rfl (by (simp only [mkM, reduceIte, Nat.reduceEqDiff] <;> rfl)) (by (simp only [mkM, reduceIte, Nat.reduceEqDiff] <;> rfl))))
    refine qv m_mv ?_
    refine qv m_ext ?_
    refine qv m_ext ?_
    refine qv m_as ?_
    refine qv m_as ?_
    show AWp cx _ _ _
    refine awp_seq ?_
    refine rg ?_
    refine qv m_mv ?_
    refine qv m_mv ?_
    refine qqF (f216 (stlT h (bump a k)) (by omega) (fun j hj => by have := hsb.2 j (by omega); omega)) ?_ (ha := (args_cons (data_ints (L := stlT h (bump a k)) (by simp only [mkM, reduceIte, Nat.reduceEqDiff] <;> rfl) trivial (by first | rfl | omega | (simp; done) | (simp; omega)) rfl rfl (fun _ => trivial)) args_nil))
    refine qv m_as ?_
    refine qv m_as ?_
    refine qv m_as ?_
    show AWp cx _ _ _
    refine awp_ret ?_
    exact x3 (hr := (rR_ (by rw [drop_ok he0]) (hl := by (try dsimp only) <;> omega))) (hr' := (rI_ (by rw [drop_ok he0, htl]))) (hr'' := (rI_ (by rw [drop_ok he0])))
end Go.Ab.Tryz.H
set_option linter.all false
namespace Go.Ab.Tryz
open Go Go.Ab Go.Proofs Go.Ab.Moss
open Go.Ab.Heap (ata ata_get ata_set)
structure Bg where
  worth : List (List Int)
abbrev dBg (b : Bg) : DV := .agg [.list (b.worth.map ints)]
def Bg.col (b : Bg) (i : Nat) : List Int := b.worth.getD i []
def Bg.dep (b : Bg) : Nat := (b.col 0).length
def colOk (d : Nat) (c : List Int) : Bool := (c.length == d) && !(c.any fun w => !fromB w (-50) 50)
def bgOk (b : Bg) : Bool := fromB (b.worth.length : Int) 1 6 && fromB (b.dep : Int) 1 4 && b.worth.all (colOk b.dep)
def bgV (b : Bg) : Int := if bgOk b then 0 else 1
def lstOk (b : Bg) (l : List Int) : Bool := (l.length == b.worth.length) && !(l.any fun n => !fromB n 0 (b.dep : Int))
def lstV (b : Bg) (l : List Int) : Int := if bgOk b && lstOk b l then 0 else 1
def gap (l : List Int) (c : Nat) : Bool := fromB (ata l c - ata l (c - 1)) (-1) 1
def rightB (l : List Int) : Bool := (List.range l.length).all fun c => decide (c = 0) || gap l c
def holV (b : Bg) (l : List Int) : Int := if lstV b l ≠ 0 then 1 else if rightB l then 0 else 6
theorem bg_col {b : Bg} {i : Nat} (h : i < b.worth.length) : b.worth[i]? = some (b.col i) := by
  unfold Bg.col; rw [List.getD_eq_getElem?_getD, List.getElem?_eq_getElem h]; rfl
theorem fromB_iff {n lo hi : Int} : fromB n lo hi = true ↔ lo ≤ n ∧ n ≤ hi := by unfold fromB; simp
theorem bg_n {b : Bg} (h : fromB (b.worth.length : Int) 1 6 = true) : 0 < b.worth.length ∧ b.worth.length ≤ 6 := by have := fromB_iff.1 h; omega
theorem bg_d {b : Bg} (h : fromB (b.dep : Int) 1 4 = true) : 0 < b.dep ∧ b.dep ≤ 4 := by have := fromB_iff.1 h; omega
structure BgOk (b : Bg) : Prop where
  n0 : 0 < b.worth.length
  n6 : b.worth.length ≤ 6
  d0 : 0 < b.dep
  d4 : b.dep ≤ 4
  len : ∀ i, i < b.worth.length → (b.col i).length = b.dep
  bd : ∀ i, i < b.worth.length → ∀ x ∈ b.col i, -50 ≤ x ∧ x ≤ 50
theorem bgOk_iff {b : Bg} : bgOk b = true ↔ BgOk b := by
  unfold bgOk
  simp only [Bool.and_eq_true]
  refine ⟨fun ⟨⟨h1, h2⟩, h3⟩ => ?_, fun h => ⟨⟨fromB_iff.2 ⟨by have := h.n0; omega, by have := h.n6; omega⟩, fromB_iff.2 ⟨by have := h.d0; omega, by have := h.d4; omega⟩⟩, ?_⟩⟩
  · have h4 : ∀ i, i < b.worth.length → colOk b.dep (b.col i) = true := fun i hi => List.all_eq_true.1 h3 _ (List.mem_of_getElem? (bg_col hi))
    refine ⟨(bg_n h1).1, (bg_n h1).2, (bg_d h2).1, (bg_d h2).2, fun i hi => ?_, fun i hi x hx => ?_⟩
    · have := h4 i hi; unfold colOk at this; simp only [Bool.and_eq_true, beq_iff_eq] at this; exact this.1
    · have := h4 i hi; unfold colOk at this; simp only [Bool.and_eq_true, Bool.not_eq_true', List.any_eq_false] at this
      have h5 := this.2 x hx
      simp only [Bool.not_eq_true', Bool.not_eq_false] at h5
      exact fromB_iff.1 h5
  · rw [List.all_eq_true]
    intro c hc
    obtain ⟨i, hi, rfl⟩ := List.getElem_of_mem hc
    have e : b.col i = b.worth[i] := Option.some.inj ((bg_col hi).symm.trans (List.getElem?_eq_getElem hi))
    rw [← e]
    unfold colOk
    simp only [Bool.and_eq_true, beq_iff_eq, Bool.not_eq_true', List.any_eq_false]
    refine ⟨h.len i hi, fun x hx => ?_⟩
    simp only [Bool.not_eq_true', Bool.not_eq_false]
    exact fromB_iff.2 (h.bd i hi x hx)
theorem bgV_bad {b : Bg} (h : bgOk b = false) : bgV b = 1 := by unfold bgV; rw [h]; rfl
theorem bgV_ok {b : Bg} (h : BgOk b) : bgV b = 0 := by unfold bgV; rw [bgOk_iff.2 h]; rfl
theorem bg_bad1 {b : Bg} (h : fromB (b.worth.length : Int) 1 6 = false) : bgV b = 1 := bgV_bad (by unfold bgOk; rw [h]; rfl)
theorem bg_bad2 {b : Bg} (h : fromB (b.dep : Int) 1 4 = false) : bgV b = 1 := bgV_bad (by unfold bgOk; rw [h, Bool.and_false]; rfl)
theorem bg_bad3 {b : Bg} {i : Nat} (hi : i < b.worth.length) (h : colOk b.dep (b.col i) = false) : bgV b = 1 := bgV_bad (by
  unfold bgOk
  have : b.worth.all (colOk b.dep) = false := List.all_eq_false.2 ⟨_, List.mem_of_getElem? (bg_col hi), by simp [h]⟩
  rw [this, Bool.and_false])
theorem bg_good {b : Bg} (h1 : fromB (b.worth.length : Int) 1 6 = true) (h2 : fromB (b.dep : Int) 1 4 = true) (h3 : ∀ i, i < b.worth.length → colOk b.dep (b.col i) = true) : bgV b = 0 := by
  unfold bgV bgOk
  have : b.worth.all (colOk b.dep) = true := List.all_eq_true.2 fun c hc => by
    obtain ⟨i, hi, rfl⟩ := List.getElem_of_mem hc
    have e : b.col i = b.worth[i] := Option.some.inj ((bg_col hi).symm.trans (List.getElem?_eq_getElem hi))
    rw [← e]; exact h3 i hi
  rw [h1, h2, this]; rfl
theorem bgV_0 {b : Bg} (h : bgV b = 0) : BgOk b := by
  refine bgOk_iff.1 ?_
  unfold bgV at h
  split at h
  · assumption
  · cases h
theorem bgV_n {b : Bg} (h : ¬ bgV b = 0) : bgOk b = false := by
  cases e : bgOk b with
  | false => rfl
  | true => exact absurd (by unfold bgV; rw [e]; rfl) h
theorem lst_bad1 {b : Bg} {l : List Int} (h : ¬ bgV b = 0) : lstV b l = 1 ∧ bgV b = 1 := by
  have := bgV_n h
  unfold lstV bgV; rw [this]; exact ⟨rfl, rfl⟩
theorem lst_bad2 {b : Bg} {l : List Int} (h : l.length ≠ b.worth.length) : lstV b l = 1 := by
  unfold lstV lstOk
  have : (l.length == b.worth.length) = false := by simpa using h
  rw [this, Bool.false_and, Bool.and_false]; rfl
theorem lst_bad3 {b : Bg} {l : List Int} (h : (l.any fun n => !fromB n 0 (b.dep : Int)) = true) : lstV b l = 1 := by
  unfold lstV lstOk
  rw [h, Bool.not_true, Bool.and_false, Bool.and_false]; rfl
theorem lst_good {b : Bg} {l : List Int} (h0 : BgOk b) (h : l.length = b.worth.length) (h2 : (l.any fun n => !fromB n 0 (b.dep : Int)) = false) : lstV b l = 0 := by
  unfold lstV lstOk
  rw [bgOk_iff.2 h0, h2]; simp [h]
structure LsOk (b : Bg) (l : List Int) : Prop where
  bg : BgOk b
  len : l.length = b.worth.length
  bd : ∀ i, i < l.length → 0 ≤ ata l i ∧ ata l i ≤ b.dep
theorem lst_0 {b : Bg} {l : List Int} (h : lstV b l = 0) : LsOk b l := by
  unfold lstV at h
  split at h
  · rename_i hc
    simp only [Bool.and_eq_true] at hc
    obtain ⟨h1, h2⟩ := hc
    unfold lstOk at h2
    simp only [Bool.and_eq_true, beq_iff_eq, Bool.not_eq_true', List.any_eq_false, Bool.not_eq_false] at h2
    refine ⟨bgOk_iff.1 h1, h2.1, fun i hi => ?_⟩
    have := h2.2 _ (List.mem_of_getElem? (ata_get hi))
    exact fromB_iff.1 this
  · cases h
theorem LsOk.v {b : Bg} {l : List Int} (h : LsOk b l) : lstV b l = 0 := by
  refine lst_good h.bg h.len ?_
  rw [List.any_eq_false]
  intro x hx
  obtain ⟨i, hi, rfl⟩ := List.getElem_of_mem hx
  have h1 := h.bd i hi
  have h2 := ata_get hi
  rw [List.getElem?_eq_getElem hi] at h2
  rw [Option.some.inj h2]
  simp only [Bool.not_eq_true', Bool.not_eq_false]
  exact fromB_iff.2 h1
theorem lst_1 {b : Bg} {l : List Int} (h : ¬ lstV b l = 0) : lstV b l = 1 := by
  unfold lstV at h ⊢
  split
  · rename_i hc; rw [if_pos hc] at h; exact absurd rfl h
  · rfl
theorem right_bad {l : List Int} {c : Nat} (h1 : 1 ≤ c) (h2 : c < l.length) (h : gap l c = false) : rightB l = false := by
  unfold rightB
  exact List.all_eq_false.2 ⟨c, List.mem_range.2 h2, by simp [h]; omega⟩
theorem right_ok {l : List Int} (h : ∀ c, 1 ≤ c → c < l.length → gap l c = true) : rightB l = true := by
  unfold rightB
  refine List.all_eq_true.2 fun c hc => ?_
  have := List.mem_range.1 hc
  by_cases h0 : c = 0
  · simp [h0]
  · simp [h0, h c (by omega) this]
theorem hol_bad {b : Bg} {l : List Int} (h : ¬ lstV b l = 0) : holV b l = 1 ∧ lstV b l = 1 := by unfold holV; rw [if_pos h]; exact ⟨rfl, lst_1 h⟩
theorem hol_no {b : Bg} {l : List Int} (h : lstV b l = 0) (hr : rightB l = false) : holV b l = 6 := by unfold holV; rw [if_neg (by simp [h]), hr]; rfl
theorem hol_yes {b : Bg} {l : List Int} (h : lstV b l = 0) (hr : rightB l = true) : holV b l = 0 := by unfold holV; rw [if_neg (by simp [h]), hr]; rfl
theorem hol_0 {b : Bg} {l : List Int} (h : holV b l = 0) : LsOk b l ∧ rightB l = true := by
  unfold holV at h
  split at h
  · cases h
  · rename_i hc
    split at h
    · rename_i hr; exact ⟨lst_0 (by simpa using hc), hr⟩
    · cases h
theorem gap_bd {l : List Int} {c : Nat} (hb : ∀ i, i < l.length → 0 ≤ ata l i ∧ ata l i ≤ 5) (h1 : 1 ≤ c) (h2 : c < l.length) : -5 ≤ ata l c - ata l (c - 1) ∧ ata l c - ata l (c - 1) ≤ 5 := by
  have := hb c h2; have := hb (c - 1) (by omega); omega
theorem f108 (n lo hi : Int) : ACallsF Tryz.prog 108 [i64 n, i64 lo, i64 hi] (.one (.dv (.bool (fromB n lo hi)))) := by
  refine callsF_of Tryz.func108 rfl rfl (by rw [Tryz.ntmps108]; simp) fun cx hP hn hg => ?_
  rw [Tryz.ntmps108] at hn
  rw [startF_lk, none_mkM]
  simp only [List.nil_append, List.append_nil, List.cons_append, zipSV, Nat.reduceAdd]
  refine awp_seq ?_
  refine rg ?_
  refine qv m_as ?_
  show AWp cx _ _ _
  refine awp_seq ?_
  refine rg ?_
  refine qv m_mv ?_
  refine qv m_mv ?_
  refine qv m_leq ?_
  refine qx m_mv (fun hg10 => ?_) (fun hg10 => ?_)
  · try simp at hg10
    refine qv m_mv ?_
    refine qv m_mv ?_
    refine qv m_leq ?_
    refine qv m_pk ?_
    refine qv m_as ?_
    show AWp cx _ _ _
    refine awp_ret ?_
    exact x1 (hr := (rB_ (by first | (simp_all [fromB]; done) | (simp_all [fromB]; omega))))
  · try simp at hg10
    refine qk ?_
    refine qk ?_
    refine qk ?_
    refine qv m_pk ?_
    refine qv m_as ?_
    show AWp cx _ _ _
    refine awp_ret ?_
    exact x1 (hr := (rB_ (by first | (simp_all [fromB]; done) | (simp_all [fromB]; omega))))
theorem f109 (b : Bg) (h0 : 0 < b.worth.length) : ACallsF Tryz.prog 109 [dBg b] (.one (.dv (i64 (b.dep : Int)))) := by
  have hg0 := bg_col h0
  refine callsF_of Tryz.func109 rfl rfl (by rw [Tryz.ntmps109]; simp) fun cx hP hn hg => ?_
  rw [Tryz.ntmps109] at hn
  rw [startF_lk, none_mkM]
  simp only [List.nil_append, List.append_nil, List.cons_append, zipSV, Nat.reduceAdd]
  refine awp_seq ?_
  refine rg ?_
  refine qp m_box ?_
  refine qv m_as ?_
  show AWp cx _ _ _
  refine awp_seq ?_
  refine rg ?_
  refine qv (m_fdp fd24_0) ?_
  refine qv (m_ldp sz22 ag22) ?_
  first | refine qv (m_ixN el22 sz25) ?_ | refine qv (m_ix el22 sz25) ?_
  refine qv (m_ld sz25 ag25) ?_
  refine qv (m_len il25) ?_
  refine qv m_as ?_
  show AWp cx _ _ _
  refine awp_ret ?_
  exact x1 (hr := (rI_))
theorem f132 (x : Int) : ACallsF Tryz.prog 132 [i64 x] (.one (.dv (.bool (!fromB x (-50) 50)))) := by
  refine callsF_of Tryz.func132 rfl rfl (by rw [Tryz.ntmps132]; simp) fun cx hP hn hg => ?_
  rw [Tryz.ntmps132] at hn
  rw [startF_lk, none_mkM]
  simp only [List.nil_append, List.append_nil, List.cons_append, zipSV, Nat.reduceAdd]
  refine awp_seq ?_
  refine rg ?_
  refine qv m_as ?_
  show AWp cx _ _ _
  refine awp_seq ?_
  refine rg ?_
  refine qv m_mv ?_
  refine qqF (f108 x (-50) 50) ?_
  refine qv m_not ?_
  refine qv m_as ?_
  show AWp cx _ _ _
  refine awp_ret ?_
  exact x1 (hr := (rB_))
theorem f93 (b : Bg) : ACallsF Tryz.prog 93 [dBg b] (.one (.dv (i64 (bgV b)))) := by
  refine callsF_of Tryz.func93 rfl rfl (by rw [Tryz.ntmps93]; simp) fun cx hP hn hg => ?_
  rw [Tryz.ntmps93] at hn
  rw [startF_lk, none_mkM]
  simp only [List.nil_append, List.append_nil, List.cons_append, zipSV, Nat.reduceAdd]
  refine awp_seq ?_
  refine rg ?_
  refine qp m_box ?_
  refine qv m_as ?_
  show AWp cx _ _ _
  refine awp_seq ?_
  refine awp_seq ?_
  refine rg ?_
  refine qv (m_fdp fd24_0) ?_
  refine qv (m_ldp sz22 ag22) ?_
  refine qv (m_len il22) ?_
  refine qqF (f108 (b.worth.length) 1 6) ?_
  refine qv m_not ?_
  refine qx m_mv (fun hg10 => ?_) (fun hg10 => ?_)
  · try simp at hg10
    refine qk ?_
    refine qk ?_
    refine qk ?_
    refine qk ?_
    refine qv m_pk ?_
    show AWp cx _ _ _
    refine cdT (hb := by first | rfl | simp | simp_all) (ht := ?_)
    refine awp_seq ?_
    refine rg ?_
    refine qv m_as ?_
    show AWp cx _ _ _
    refine awp_ret ?_
    exact x1 (hr := (rI_ (by first | rw [bg_bad2 hdn] | rw [bg_bad1 (by simpa using hg10)])))
  · try simp at hg10
    have h06 := bg_n (b := b) (by simpa using hg10)
    refine qv (m_ldpa sz24 ag24) ?_
    refine qqF (f109 b h06.1) ?_
    refine qqF (f108 b.dep 1 4) ?_
    refine qv m_not ?_
    refine qv m_pk ?_
    show AWp cx _ _ _
    refine cd (fun hc0 => ?_) (fun hc0 => ?_)
    · skip
      have hdn : fromB (b.dep : Int) 1 4 = false := by simpa using hc0
      refine awp_seq ?_
      refine rg ?_
      refine qv m_as ?_
      show AWp cx _ _ _
      refine awp_ret ?_
      exact x1 (hr := (rI_ (by first | rw [bg_bad2 hdn] | rw [bg_bad1 (by simpa using hg10)])))
    · skip
      have hd4 := bg_d (b := b) (by simpa using hc0)
      have h6 : fromB (b.worth.length : Int) 1 6 = true := by simpa using hg10
      have hd : fromB (b.dep : Int) 1 4 = true := by simpa using hc0
      refine awp_skip ?_
      show AWp cx _ _ _
      refine awp_seq ?_
      refine awp_seq ?_
      refine rg ?_
      refine qv (m_fdp fd24_0) ?_
      refine qv (m_ldp sz22 ag22) ?_
      refine qv (m_len il22) ?_
      refine qv m_mv ?_
      show AWp cx _ _ _
      refine awp_block ?_
      refine awp_loop (ι := Nat) (fun i => ⟨lk [(1, .pt 1 0 0), (17, .dv (.list ((b.worth).map ints))), (18, .dv (i64 ((b.worth.length : Int)))), (19, .dv (i64 (i : Nat)))], mkM [(1, 0, some ⟨[.dv (.list ((b.worth).map ints))], 0, 24, 0, false⟩)]⟩) (fun i => i ≤ b.worth.length ∧ ∀ j, j < i → colOk b.dep (b.col j) = true) (fun i => b.worth.length - i) 0 (by simp) (tl [(1, 1)]) ?_
      intro i hφ0
      refine awp_seq ?_
      refine rg ?_
      refine qv m_lss ?_
      show AWp cx _ _ _
      refine awp_seq ?_
      refine cd (fun hc1 => ?_) (fun hc1 => ?_)
      · try simp at hc1
        refine awp_skip ?_
        show AWp cx _ _ _
        refine awp_seq ?_
        refine awp_block ?_
        refine awp_seq ?_
        refine rg ?_
        have hi : i < b.worth.length := by omega
        have hgc := bg_col hi
        first | refine qv (m_ixN el22 sz25) ?_ | refine qv (m_ix el22 sz25) ?_
        refine qv (m_ld sz25 ag25) ?_
        refine qv m_as ?_
        show AWp cx _ _ _
        refine awp_seq ?_
        refine rg ?_
        refine qv m_mv ?_
        refine qv (m_len il25) ?_
        refine qv (m_ldpa sz24 ag24) ?_
        refine qqF (f109 b h06.1) ?_
        refine qv m_neq ?_
        refine qx m_mv (fun hg28 => ?_) (fun hg28 => ?_)
        · try simp at hg28
          refine qk ?_
          refine qk ?_
          refine qv m_pk ?_
          show AWp cx _ _ _
          refine cdT (hb := by first | rfl | simp | simp_all) (ht := ?_)
          refine awp_seq ?_
          refine rg ?_
          refine qv m_as ?_
          show AWp cx _ _ _
          refine awp_ret ?_
          exact x1 (hr := (rI_ (by rw [bg_bad3 hi (by unfold colOk; first | (rw [show ((b.col i).length == b.dep) = false by simp; intro e; exact hg28 (by exact_mod_cast e)]; rfl) | (simp [hc2]))])))
        · try simp at hg28
          have hle : (b.col i).length = b.dep := by exact_mod_cast hg28
          refine qv m_mv ?_
          refine qqF (f106 (b.col i) 132 [] [] (fun x => !fromB x (-50) 50) (fun x _ => f132 x) (by omega)) ?_
          refine qv m_pk ?_
          show AWp cx _ _ _
          refine cd (fun hc2 => ?_) (fun hc2 => ?_)
          · try simp at hc2
            refine awp_seq ?_
            refine rg ?_
            refine qv m_as ?_
            show AWp cx _ _ _
            refine awp_ret ?_
            exact x1 (hr := (rI_ (by rw [bg_bad3 hi (by unfold colOk; first | (rw [show ((b.col i).length == b.dep) = false by simp; intro e; exact hg28 (by exact_mod_cast e)]; rfl) | (simp [hc2]))])))
          · try simp at hc2
            refine awp_skip ?_
            show AWp cx _ _ _
            refine rg ?_
            refine qv m_add ?_
            refine qv m_mv ?_
            refine ⟨i + 1, ?_, (by simp only; omega), (tl [(1, 1)])⟩
            refine ⟨by omega, fun j hj => ?_⟩
            rcases Nat.lt_or_ge j i with h1 | h1
            · exact hφ0.2 j h1
            · obtain rfl : j = i := by omega
              unfold colOk
              rw [show (b.col j).length = b.dep by exact_mod_cast hg28]
              simpa using hc2
      · try simp at hc1
        refine awp_exit ?_
        show AWp cx _ _ _
        refine awp_seq ?_
        refine rg ?_
        refine qv m_as ?_
        show AWp cx _ _ _
        refine awp_ret ?_
        exact x1 (hr := (rI_ (by rw [bg_good h6 hd fun j hj => hφ0.2 j (by omega)])))
theorem f107 (b : Bg) (h0 : 0 < b.worth.length) (x : Int) : ACallsF Tryz.prog 107 [i64 x, .cptr [.list (b.worth.map ints)]] (.one (.dv (.bool (!fromB x 0 (b.dep : Int))))) := by
  refine callsF_of Tryz.func107 rfl rfl (by rw [Tryz.ntmps107]; simp) fun cx hP hn hg => ?_
  rw [Tryz.ntmps107] at hn
  rw [startF_lk, none_mkM]
  simp only [List.nil_append, List.append_nil, List.cons_append, zipSV, Nat.reduceAdd]
  refine awp_seq ?_
  refine rg ?_
  refine qv m_as ?_
  show AWp cx _ _ _
  refine awp_seq ?_
  refine rg ?_
  refine qv m_mv ?_
  refine qv (m_lda sz24 ag24) ?_
  refine qqF (f109 b h0) ?_
  refine qqF (f108 x 0 (b.dep : Int)) ?_
  refine qv m_not ?_
  refine qv m_as ?_
  show AWp cx _ _ _
  refine awp_ret ?_
  exact x1 (hr := (rB_))
theorem f69 (b : Bg) (l : List Int) : ACallsF Tryz.prog 69 [dBg b, ints l] (.one (.dv (i64 (lstV b l)))) := by
  refine callsF_of Tryz.func69 rfl rfl (by rw [Tryz.ntmps69]; simp) fun cx hP hn hg => ?_
  rw [Tryz.ntmps69] at hn
  rw [startF_lk, none_mkM]
  simp only [List.nil_append, List.append_nil, List.cons_append, zipSV, Nat.reduceAdd]
  refine awp_seq ?_
  refine rg ?_
  refine qp m_box ?_
  refine qv m_as ?_
  show AWp cx _ _ _
  refine awp_seq ?_
  refine awp_seq ?_
  refine rg ?_
  refine qv (m_ldpa sz24 ag24) ?_
  refine qqF (f93 b) ?_
  refine qv m_as ?_
  show AWp cx _ _ _
  refine awp_seq ?_
  refine rg ?_
  refine qv m_mv ?_
  refine qv m_neq ?_
  show AWp cx _ _ _
  refine cd (fun hc0 => ?_) (fun hc0 => ?_)
  · skip
    have hv0 : ¬ bgV b = 0 := by simpa using hc0
    refine awp_seq ?_
    refine rg ?_
    refine qv m_mv ?_
    refine qv m_as ?_
    show AWp cx _ _ _
    refine awp_ret ?_
    exact x1 (hr := (rI_ (by rw [(lst_bad1 (l := l) hv0).1, (lst_bad1 (l := l) hv0).2])))
  · skip
    have hv0 : bgV b = 0 := by simpa using hc0
    have ok := bgV_0 hv0
    have hn0 := ok.n0
    have hn6 := ok.n6
    refine awp_skip ?_
    show AWp cx _ _ _
    refine awp_seq ?_
    refine awp_seq ?_
    refine rg ?_
    refine qv m_mv ?_
    refine qv (m_len il25) ?_
    refine qv (m_fdp fd24_0) ?_
    refine qv (m_ldp sz22 ag22) ?_
    refine qv (m_len il22) ?_
    refine qv m_neq ?_
    refine qx m_mv (fun hg17 => ?_) (fun hg17 => ?_)
    · try simp at hg17
      refine qk ?_
      refine qk ?_
      refine qk ?_
      refine qv m_pk ?_
      show AWp cx _ _ _
      refine cdT (hb := by first | rfl | simp | simp_all) (ht := ?_)
      refine awp_seq ?_
      refine rg ?_
      refine qv m_as ?_
      show AWp cx _ _ _
      refine awp_ret ?_
      exact x1 (hr := (rI_ (by first | rw [lst_bad3 (by simpa using hc1)] | rw [lst_bad2 (by intro e; exact hg17 (by exact_mod_cast e))])))
    · try simp at hg17
      have hle : l.length = b.worth.length := by exact_mod_cast hg17
      refine qv m_mv ?_
      refine qfn ?_
      refine qqF (f106 l 107 [] [.cptr [.list (b.worth.map ints)]] (fun n => !fromB n 0 (b.dep : Int)) (fun x _ => f107 b hn0 x) (by omega)) ?_
      refine qv m_pk ?_
      show AWp cx _ _ _
      refine cd (fun hc1 => ?_) (fun hc1 => ?_)
      · try simp at hc1
        refine awp_seq ?_
        refine rg ?_
        refine qv m_as ?_
        show AWp cx _ _ _
        refine awp_ret ?_
        exact x1 (hr := (rI_ (by first | rw [lst_bad3 (by simpa using hc1)] | rw [lst_bad2 (by intro e; exact hg17 (by exact_mod_cast e))])))
      · try simp at hc1
        refine awp_skip ?_
        show AWp cx _ _ _
        refine awp_seq ?_
        refine rg ?_
        refine qv m_as ?_
        show AWp cx _ _ _
        refine awp_ret ?_
        exact x1 (hr := (rI_ (by rw [lst_good ok hle (by simpa using hc1)])))
theorem f70 (l : List Int) (hl : l.length < 1000000) (hb : ∀ i, i < l.length → 0 ≤ ata l i ∧ ata l i ≤ 5) : ACallsF Tryz.prog 70 [ints l] (.one (.dv (.bool (rightB l)))) := by
  refine callsF_of Tryz.func70 rfl rfl (by rw [Tryz.ntmps70]; simp) fun cx hP hn hg => ?_
  rw [Tryz.ntmps70] at hn
  rw [startF_lk, none_mkM]
  simp only [List.nil_append, List.append_nil, List.cons_append, zipSV, Nat.reduceAdd]
  refine awp_seq ?_
  refine rg ?_
  refine qv m_as ?_
  show AWp cx _ _ _
  refine awp_seq ?_
  refine awp_seq ?_
  refine rg ?_
  refine qv m_as ?_
  show AWp cx _ _ _
  refine awp_block ?_
  refine awp_loop (ι := Nat) (fun c => ⟨lk [(0, .dv (ints (l))), (3, .dv (i64 (c : Nat)))], mkM []⟩) (fun c => (1 ≤ c) ∧ (∀ j, 1 ≤ j → j < l.length → j < c → gap l j = true)) (fun c => l.length - c) 1 ⟨Nat.le_refl _, fun j h1 h2 h3 => absurd h3 (by omega)⟩ (tl []) ?_
  intro c hφ0
  refine awp_seq ?_
  refine awp_seq ?_
  refine rg ?_
  refine qv m_mv ?_
  refine qv m_mv ?_
  refine qv (m_len il25) ?_
  refine qv m_lss ?_
  show AWp cx _ _ _
  refine cd (fun hc0 => ?_) (fun hc0 => ?_)
  · try simp at hc0
    refine awp_skip ?_
    show AWp cx _ _ _
    refine awp_seq ?_
    refine awp_block ?_
    refine awp_seq ?_
    have hc : c < l.length := by omega
    have hgc := ata_get hc
    have hgd := ata_get (a := l) (i := c - 1) (by omega)
    have hgp := gap_bd hb hφ0.1 hc
    have hcast : ((c : Nat) : Int) - 1 = ((c - 1 : Nat) : Int) := by omega
    refine rd mixed ?_
    refine zv m_mv ?_
    refine zv m_mv ?_
    first | refine zv (m_ixN el25 sz3) ?_ | refine zv (m_ix el25 sz3) ?_
    refine zv (m_ld sz3 ag3) ?_
    refine zv m_mv ?_
    refine zv m_mv ?_
    refine zv m_sub ?_
    rw [hcast]
    first | refine zv (m_ixN el25 sz3) ?_ | refine zv (m_ix el25 sz3) ?_
    refine zv (m_ld sz3 ag3) ?_
    refine zv m_sub ?_
    refine zqF (R := []) (f108 (ata l c - ata l (c - 1)) (-1) 1) ?_
    refine zv m_not ?_
    refine ⟨by rfl, ?_⟩
    show AWp cx _ _ _
    refine cd (fun hc1 => ?_) (fun hc1 => ?_)
    · try simp at hc1
      refine awp_seq ?_
      refine rg ?_
      refine qv m_as ?_
      show AWp cx _ _ _
      refine awp_ret ?_
      exact x1 (hr := (rB_ (by rw [right_bad hφ0.1 hc (by simpa [gap] using hc1)])))
    · try simp at hc1
      refine awp_skip ?_
      show AWp cx _ _ _
      refine rg ?_
      refine qv m_mv ?_
      refine qv m_add ?_
      refine qv m_as ?_
      exact ⟨c + 1, ⟨by omega, fun j h1 h2 h3 => by
        rcases Nat.lt_or_ge j c with h4 | h4
        · exact hφ0.2 j h1 h2 h4
        · obtain rfl : j = c := by omega
          unfold gap; simpa using hc1⟩, (by simp only; omega), (tl [])⟩
  · try simp at hc0
    refine awp_exit ?_
    show AWp cx _ _ _
    refine awp_seq ?_
    refine rg ?_
    refine qv m_as ?_
    show AWp cx _ _ _
    refine awp_ret ?_
    exact x1 (hr := (rB_ (by rw [right_ok fun j h1 h2 => hφ0.2 j h1 h2 (by omega)])))
theorem f27 (b : Bg) (l : List Int) : ACallsF Tryz.prog 27 [dBg b, ints l] (.one (.dv (i64 (holV b l)))) := by
  refine callsF_of Tryz.func27 rfl rfl (by rw [Tryz.ntmps27]; simp) fun cx hP hn hg => ?_
  rw [Tryz.ntmps27] at hn
  rw [startF_lk, none_mkM]
  simp only [List.nil_append, List.append_nil, List.cons_append, zipSV, Nat.reduceAdd]
  refine awp_seq ?_
  refine rg ?_
  refine qp m_box ?_
  refine qv m_as ?_
  show AWp cx _ _ _
  refine awp_seq ?_
  refine awp_seq ?_
  refine rg ?_
  refine qv (m_ldpa sz24 ag24) ?_
  refine qv m_mv ?_
  refine qqF (f69 b l) ?_
  refine qv m_as ?_
  show AWp cx _ _ _
  refine awp_seq ?_
  refine rg ?_
  refine qv m_mv ?_
  refine qv m_neq ?_
  show AWp cx _ _ _
  refine cd (fun hc0 => ?_) (fun hc0 => ?_)
  · skip
    have hv0 : ¬ lstV b l = 0 := by simpa using hc0
    refine awp_seq ?_
    refine rg ?_
    refine qv m_mv ?_
    refine qv m_as ?_
    show AWp cx _ _ _
    refine awp_ret ?_
    exact x1 (hr := (rI_ (by rw [(hol_bad hv0).1, (hol_bad hv0).2])))
  · skip
    have hv0 : lstV b l = 0 := by simpa using hc0
    have ok := lst_0 hv0
    have hn6 := ok.bg.n6
    have hd4 := ok.bg.d4
    have hle := ok.len
    refine awp_skip ?_
    show AWp cx _ _ _
    refine awp_seq ?_
    refine awp_seq ?_
    refine rg ?_
    refine qv m_mv ?_
    refine qqF (f70 l (by omega) (fun i hi => by have := ok.bd i hi; omega)) ?_
    refine qv m_not ?_
    show AWp cx _ _ _
    refine cd (fun hc1 => ?_) (fun hc1 => ?_)
    · try simp at hc1
      refine awp_seq ?_
      refine rg ?_
      refine qv m_as ?_
      show AWp cx _ _ _
      refine awp_ret ?_
      exact x1 (hr := (rI_ (by rw [hol_no hv0 (by simpa using hc1)])))
    · try simp at hc1
      refine awp_skip ?_
      show AWp cx _ _ _
      refine awp_seq ?_
      refine rg ?_
      refine qv m_as ?_
      show AWp cx _ _ _
      refine awp_ret ?_
      exact x1 (hr := (rI_ (by rw [hol_yes hv0 (by simpa using hc1)])))
end Go.Ab.Tryz
set_option linter.all false
namespace Go.Ab.Tryz
open Go Go.Ab Go.Proofs Go.Ab.Moss
theorem f97x (l : List Int) (h : l.length < 1000000) (hl : l ≠ []) : ACallsF Tryz.prog 97 [ints l] (.one (rI l)) := by
  refine callsF_of Tryz.func97 rfl rfl (by rw [Tryz.ntmps97]; simp) fun cx hP hn hg => ?_
  rw [Tryz.ntmps97] at hn
  rw [startF_lk, none_mkM]
  simp only [zipSV, Nat.reduceAdd]
  refine awp_seq ?_
  refine awp_reg hg ?_
  refine c_val hP hn (by decide) trivial (e_assign (by simp only [St.look, St.ev, lk, mkM, blkOf, svOf, svOfCell, reduceIte, Nat.reduceAdd, Nat.reduceEqDiff, Nat.reduceMul]; rfl)) ?_
  show AWp cx _ _ _
  refine awp_seq ?_
  refine awp_seq ?_
  refine awp_reg hg ?_
  refine c_val hP hn (by decide) trivial (e_move (by simp only [St.look, St.ev, lk, mkM, blkOf, svOf, svOfCell, reduceIte, Nat.reduceAdd, Nat.reduceEqDiff, Nat.reduceMul]; rfl)) ?_
  refine c_val hP hn (by decide) trivial (by simp only [outOf, binSV, nilOf, nilCmp, il25, if_true, Option.map_some, St.look, St.ev, lk, mkM, blkOf, svOf, svOfCell, reduceIte, Nat.reduceAdd, Nat.reduceEqDiff, Nat.reduceMul]; rw [if_neg (by simpa using hl)]; rfl) ?_
  show AWp cx _ _ _
  refine awp_cond (by simp only [St.look, St.ev, lk, mkM, blkOf, svOf, svOfCell, reduceIte, Nat.reduceAdd, Nat.reduceEqDiff, Nat.reduceMul]; rfl) (fun hc0 => ?_) (fun hc0 => ?_)
  · exact absurd hc0 (by simp)
  refine awp_skip ?_
  show AWp cx _ _ _
  refine awp_seq ?_
  refine awp_reg hg ?_
  refine c_row hP hn (by decide) trivial (e_buildSlice (by simp only [List.map, St.look, St.ev, lk, mkM, blkOf, svOf, svOfCell, reduceIte, Nat.reduceAdd, Nat.reduceEqDiff, Nat.reduceMul]; rfl) el25 ze3 sz3 rfl (by decide) (by decide) (by simp [fillSV, putCells, cellsSV, List.replicate]; rfl)) rfl (by simp only [mkM, reduceIte, Nat.reduceEqDiff]; rfl) ?_
  refine c_val hP hn (by decide) trivial (e_move (by simp only [St.look, St.ev, lk, mkM, blkOf, svOf, svOfCell, reduceIte, Nat.reduceAdd, Nat.reduceEqDiff, Nat.reduceMul]; rfl)) ?_
  first
  | refine c_app0 hP hn (by decide) trivial (e_app0 (by simp only [St.look, St.ev, lk, mkM, blkOf, svOf, svOfCell, reduceIte, Nat.reduceAdd, Nat.reduceEqDiff, Nat.reduceMul]; rfl) (by simp only [St.look, St.ev, lk, mkM, blkOf, svOf, svOfCell, reduceIte, Nat.reduceAdd, Nat.reduceEqDiff, Nat.reduceMul]; first | exact src_ints | rfl | (simp [srcSV, cellOk]; rfl)) el25 el25 ze3 sz3 by3 (by first | omega | (simp; try omega)) (by first | omega | (simp; try omega)) rfl) (by simp only [mkM, reduceIte, Nat.reduceEqDiff]; rfl) ?_
  | refine c_app1 hP hn (by decide) trivial (e_app1 (by simp only [St.look, St.ev, lk, mkM, blkOf, svOf, svOfCell, reduceIte, Nat.reduceAdd, Nat.reduceEqDiff, Nat.reduceMul]; rfl) (by simp only [St.look, St.ev, lk, mkM, blkOf, svOf, svOfCell, reduceIte, Nat.reduceAdd, Nat.reduceEqDiff, Nat.reduceMul]; first | exact src_ints | rfl | (simp [srcSV, cellOk]; rfl)) el25 el25 ze3 sz3 by3 (by rfl) (by rfl) (by rfl) (by first | omega | (simp; try omega)) (by first | omega | (simp; try omega)) (by first | omega | (simp; try omega)) rfl (by first | exact ints_snoc | exact ints_app | rfl)) (by simp only [mkM, reduceIte, Nat.reduceEqDiff]; rfl) (by simp only [mkM, reduceIte, Nat.reduceEqDiff]; rfl) rfl ?_
  refine c_val hP hn (by decide) trivial (e_assign (by simp only [St.look, St.ev, lk, mkM, blkOf, svOf, svOfCell, reduceIte, Nat.reduceAdd, Nat.reduceEqDiff, Nat.reduceMul]; rfl)) ?_
  show AWp cx _ _ _
  refine awp_ret ?_
  exact end_row1 (.inr rfl) (by first | (simp only [lk, reduceIte, Nat.reduceEqDiff]; done) | (simp only [lk, reduceIte, Nat.reduceEqDiff]; rfl)) (retOk_rK (by simp only [mkM, reduceIte, Nat.reduceEqDiff]; rfl) (by simp))
theorem f97n : ACallsF Tryz.prog 97 [ints []] (.one (rI [])) := by
  refine callsF_of Tryz.func97 rfl rfl (by rw [Tryz.ntmps97]; simp) fun cx hP hn hg => ?_
  rw [Tryz.ntmps97] at hn
  rw [startF_lk, none_mkM]
  simp only [zipSV, Nat.reduceAdd]
  refine AWp.split (t := 0) (by simp [lk]) fun b => ?_
  cases b
  · skip
    refine awp_seq ?_
    refine awp_reg hg ?_
    refine c_val hP hn (by decide) trivial (e_assign (by simp only [St.look, St.ev, lk, mkM, blkOf, svOf, svOfCell, reduceIte, Nat.reduceAdd, Nat.reduceEqDiff, Nat.reduceMul]; rfl)) ?_
    show AWp cx _ _ _
    refine awp_seq ?_
    refine awp_seq ?_
    refine awp_reg hg ?_
    refine c_val hP hn (by decide) trivial (e_move (by simp only [St.look, St.ev, lk, mkM, blkOf, svOf, svOfCell, reduceIte, Nat.reduceAdd, Nat.reduceEqDiff, Nat.reduceMul]; rfl)) ?_
    refine c_val hP hn (by decide) trivial (by simp only [outOf, binSV, nilOf, nilCmp, il25, if_true, Option.map_some, St.look, St.ev, lk, mkM, blkOf, svOf, svOfCell, reduceIte, Nat.reduceAdd, Nat.reduceEqDiff, Nat.reduceMul]; rfl) ?_
    show AWp cx _ _ _
    refine awp_cond (by simp only [St.look, St.ev, lk, mkM, blkOf, svOf, svOfCell, reduceIte, Nat.reduceAdd, Nat.reduceEqDiff, Nat.reduceMul]; rfl) (fun hc0 => ?_) (fun hc0 => ?_)
    · exact absurd hc0 (by simp)
    refine awp_skip ?_
    show AWp cx _ _ _
    refine awp_seq ?_
    refine awp_reg hg ?_
    refine c_row hP hn (by decide) trivial (e_buildSlice (by simp only [List.map, St.look, St.ev, lk, mkM, blkOf, svOf, svOfCell, reduceIte, Nat.reduceAdd, Nat.reduceEqDiff, Nat.reduceMul]; rfl) el25 ze3 sz3 rfl (by decide) (by decide) (by simp [fillSV, putCells, cellsSV, List.replicate]; rfl)) rfl (by simp only [mkM, reduceIte, Nat.reduceEqDiff]; rfl) ?_
    refine c_val hP hn (by decide) trivial (e_move (by simp only [St.look, St.ev, lk, mkM, blkOf, svOf, svOfCell, reduceIte, Nat.reduceAdd, Nat.reduceEqDiff, Nat.reduceMul]; rfl)) ?_
    first
    | refine c_app0 hP hn (by decide) trivial (e_app0 (by simp only [St.look, St.ev, lk, mkM, blkOf, svOf, svOfCell, reduceIte, Nat.reduceAdd, Nat.reduceEqDiff, Nat.reduceMul]; rfl) (by simp only [St.look, St.ev, lk, mkM, blkOf, svOf, svOfCell, reduceIte, Nat.reduceAdd, Nat.reduceEqDiff, Nat.reduceMul]; first | exact src_ints | rfl | (simp [srcSV, cellOk]; rfl)) el25 el25 ze3 sz3 by3 (by first | omega | (simp; try omega)) (by first | omega | (simp; try omega)) rfl) (by simp only [mkM, reduceIte, Nat.reduceEqDiff]; rfl) ?_
    | refine c_app1 hP hn (by decide) trivial (e_app1 (by simp only [St.look, St.ev, lk, mkM, blkOf, svOf, svOfCell, reduceIte, Nat.reduceAdd, Nat.reduceEqDiff, Nat.reduceMul]; rfl) (by simp only [St.look, St.ev, lk, mkM, blkOf, svOf, svOfCell, reduceIte, Nat.reduceAdd, Nat.reduceEqDiff, Nat.reduceMul]; first | exact src_ints | rfl | (simp [srcSV, cellOk]; rfl)) el25 el25 ze3 sz3 by3 (by rfl) (by rfl) (by rfl) (by first | omega | (simp; try omega)) (by first | omega | (simp; try omega)) (by first | omega | (simp; try omega)) rfl (by first | exact ints_snoc | exact ints_app | rfl)) (by simp only [mkM, reduceIte, Nat.reduceEqDiff]; rfl) (by simp only [mkM, reduceIte, Nat.reduceEqDiff]; rfl) rfl ?_
    refine c_val hP hn (by decide) trivial (e_assign (by simp only [St.look, St.ev, lk, mkM, blkOf, svOf, svOfCell, reduceIte, Nat.reduceAdd, Nat.reduceEqDiff, Nat.reduceMul]; rfl)) ?_
    show AWp cx _ _ _
    refine awp_ret ?_
    exact end_row1 (.inr rfl) (by first | (simp only [lk, reduceIte, Nat.reduceEqDiff]; done) | (simp only [lk, reduceIte, Nat.reduceEqDiff]; rfl)) (retOk_rK (by simp only [mkM, reduceIte, Nat.reduceEqDiff]; rfl) (by simp))
  · skip
    refine awp_seq ?_
    refine awp_reg hg ?_
    refine c_val hP hn (by decide) trivial (e_assign (by simp only [St.look, St.ev, lk, mkM, blkOf, svOf, svOfCell, reduceIte, Nat.reduceAdd, Nat.reduceEqDiff, Nat.reduceMul]; rfl)) ?_
    show AWp cx _ _ _
    refine awp_seq ?_
    refine awp_seq ?_
    refine awp_reg hg ?_
    refine c_val hP hn (by decide) trivial (e_move (by simp only [St.look, St.ev, lk, mkM, blkOf, svOf, svOfCell, reduceIte, Nat.reduceAdd, Nat.reduceEqDiff, Nat.reduceMul]; rfl)) ?_
    refine c_val hP hn (by decide) trivial (by simp only [outOf, binSV, nilOf, nilCmp, il25, if_true, Option.map_some, St.look, St.ev, lk, mkM, blkOf, svOf, svOfCell, reduceIte, Nat.reduceAdd, Nat.reduceEqDiff, Nat.reduceMul]; rfl) ?_
    show AWp cx _ _ _
    refine awp_cond (by simp only [St.look, St.ev, lk, mkM, blkOf, svOf, svOfCell, reduceIte, Nat.reduceAdd, Nat.reduceEqDiff, Nat.reduceMul]; rfl) (fun hc0 => ?_) (fun hc0 => ?_)
    rotate_left
    · exact absurd hc0 (by simp)
    refine awp_seq ?_
    refine awp_reg hg ?_
    refine c_val hP hn (by decide) trivial (e_assign (by simp only [St.look, St.ev, lk, mkM, blkOf, svOf, svOfCell, reduceIte, Nat.reduceAdd, Nat.reduceEqDiff, Nat.reduceMul]; rfl)) ?_
    show AWp cx _ _ _
    refine awp_ret ?_
    exact end_row1 (.inr rfl) (by first | (simp only [lk, reduceIte, Nat.reduceEqDiff]; done) | (simp only [lk, reduceIte, Nat.reduceEqDiff]; rfl)) retOk_rK0
theorem f97 (l : List Int) (h : l.length < 1000000) : ACallsF Tryz.prog 97 [ints l] (.one (rI l)) := by
  by_cases hl : l = []
  · subst hl; exact f97n
  · exact f97x l h hl
end Go.Ab.Tryz
