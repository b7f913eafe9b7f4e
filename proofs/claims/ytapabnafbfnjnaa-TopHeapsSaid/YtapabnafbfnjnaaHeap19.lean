/- The functions of the heap laws, part 19. The walks are written by wip/gen/gw.py. -/
import Derived.Test.YtapabnafbfnjnaaHeap17
import Derived.Test.YtapabnafbfnjnaaHeapFacts
import Derived.Test.YtapabnafbfnjnaaHeapPT
set_option linter.all false
namespace Go.Ab.Try
open Go Go.Ab Go.Proofs Go.Ab.Heap

theorem check_nil (h : Hp) : checkE h [] = validate h := by
  unfold checkE
  by_cases e : validate h = 0
  · rw [if_neg (by simp [e])]; simp [e]
  · rw [if_pos e]
def limitR (h : Hp) (i : Int) : Int × Int := if oneE h i [] ≠ 0 then (0, oneE h i []) else (h.sp.lim i.toNat, 0)
theorem limit_bad {h : Hp} {i : Int} (e : oneE h i [] ≠ 0) : limitR h i = (0, oneE h i []) := by unfold limitR; rw [if_pos e]
theorem limit_ok {h : Hp} {k : Nat} (e : oneE h (k : Int) [] = 0) : limitR h (k : Int) = (h.sp.lim k, 0) := by unfold limitR; rw [if_neg (by simp [e])]; rfl
theorem bump_len {a : List Int} {k : Nat} : (bump a k).length = a.length := by simp [bump]
theorem inR_ex {i : Int} {n : Nat} (e : inR i 0 ((n : Int) - 1) = true) : ∃ k : Nat, k < n ∧ i = (k : Int) := by
  simp only [inR, Bool.and_eq_true, decide_eq_true_eq] at e
  exact ⟨i.toNat, by omega, by omega⟩
theorem sm_le5 {n : Nat} {f : Nat → Int} (hn : n ≤ 5) (hf : ∀ i, i < n → 0 ≤ f i ∧ f i ≤ 5000000) : 0 ≤ sm f n ∧ sm f n ≤ 25000000 := by
  have h1 := sm_nonneg fun i hi => (hf i hi).1
  have h2 := sm_le (f := f) (g := fun _ => 5000000) (n := n) fun i hi => (hf i hi).2
  rw [sm_const] at h2
  exact ⟨h1, by omega⟩

/-! a list of topples -/
def clF (h : Hp) : List Int → Int → List Int → List Int × Int × Int
  | out, k, [] => (out, k, 0)
  | out, k, i :: rest => if ata out i.toNat < h.sp.lim i.toNat then ([], k, 6) else clF h (topL h out i.toNat 1) (k + 1) rest
def listR (h : Hp) (a l : List Int) : List Int × Int × Int :=
  if checkE h [a] ≠ 0 then ([], 0, checkE h [a]) else if 200 < l.length then ([], 0, 3) else if l.all (fun i => inR i 0 ((a.length : Int) - 1)) then clF h a 0 l else ([], 0, 4)
theorem list_bad {h : Hp} {a l : List Int} (e : checkE h [a] ≠ 0) : listR h a l = ([], 0, checkE h [a]) := by unfold listR; rw [if_pos e]
theorem list_long {h : Hp} {a l : List Int} (e : checkE h [a] = 0) (hl : 200 < l.length) : listR h a l = ([], 0, 3) := by unfold listR; rw [if_neg (by simp [e]), if_pos hl]
theorem list_none {h : Hp} {a l : List Int} (e : checkE h [a] = 0) (hl : ¬ 200 < l.length) {q : Nat} {x : Int} (hx : l[q]? = some x) (hr : inR x 0 ((a.length : Int) - 1) = false) : listR h a l = ([], 0, 4) := by
  have : (l.all fun i => inR i 0 ((a.length : Int) - 1)) = false := by
    rw [List.all_eq_false]; exact ⟨x, List.mem_of_getElem? hx, by simp [hr]⟩
  unfold listR; rw [if_neg (by simp [e]), if_neg hl, this]; rfl
theorem list_ok {h : Hp} {a l : List Int} (e : checkE h [a] = 0) (hl : ¬ 200 < l.length) (hr : ∀ j, j < l.length → inR (ata l j) 0 ((a.length : Int) - 1) = true) : listR h a l = clF h a 0 l := by
  have : (l.all fun i => inR i 0 ((a.length : Int) - 1)) = true := by
    rw [List.all_eq_true]
    intro x hx
    obtain ⟨j, hj, rfl⟩ := List.getElem_of_mem hx
    have h1 := hr j hj
    have h2 := ata_get hj
    rw [List.getElem?_eq_getElem hj] at h2
    rw [Option.some.inj h2]; exact h1
  unfold listR; rw [if_neg (by simp [e]), if_neg hl, if_pos this]
structure CInv (h : Hp) (a l : List Int) (out : List Int) (q : Nat) : Prop where
  qle : q ≤ l.length
  eq : clF h out (q : Int) (l.drop q) = clF h a 0 l
  I : ∃ t, SInv h a out t
theorem CInv.start {h : Hp} {a : List Int} (l : List Int) (ha : Hpg h a) : CInv h a l a 0 := ⟨Nat.zero_le _, by simp, _, SInv.start ha.len ha.nn⟩
theorem CInv.no {h : Hp} {a l out : List Int} {q x : Nat} (c : CInv h a l out q) (hx : l[q]? = some (x : Int)) (e : ata out x < h.sp.lim x) : clF h a 0 l = ([], (q : Int), 6) := by
  have hq : q < l.length := (List.getElem?_eq_some_iff.1 hx).1
  rw [← c.eq, List.drop_eq_getElem_cons hq]
  rw [List.getElem?_eq_getElem hq] at hx
  rw [Option.some.inj hx]
  simp only [clF, Int.toNat_natCast]
  rw [if_pos e]
theorem CInv.next {h : Hp} (v : VH h) {a l out : List Int} {q x : Nat} (c : CInv h a l out q) (hx : l[q]? = some (x : Int)) (hxn : x < h.ground.length) (e : ¬ ata out x < h.sp.lim x) : CInv h a l (topL h out x 1) (q + 1) := by
  have hq : q < l.length := (List.getElem?_eq_some_iff.1 hx).1
  obtain ⟨t, I⟩ := c.I
  refine ⟨hq, ?_, _, I.step v hxn (k := 1) (by omega) (by omega)⟩
  rw [← c.eq, List.drop_eq_getElem_cons hq]
  have hx' := hx
  rw [List.getElem?_eq_getElem hq] at hx'
  rw [Option.some.inj hx']
  simp only [clF, Int.toNat_natCast]
  rw [if_neg e]; rfl
theorem CInv.done {h : Hp} {a l out : List Int} (c : CInv h a l out l.length) : clF h a 0 l = (out, (l.length : Int), 0) := by
  rw [← c.eq, List.drop_length]; rfl

/-! a script -/
def spF (h : Hp) (a s : List Int) : Nat → List Int
  | 0 => a
  | q + 1 => topL h (spF h a s q) q (ata s q)
theorem spF_len {h : Hp} {a s : List Int} (ha : a.length = h.ground.length) : ∀ q, (spF h a s q).length = h.ground.length
  | 0 => ha
  | q + 1 => topL_len
theorem spF_bd {h : Hp} (v : VH h) {a s : List Int} (x : Hpg30 h a) (hs : ∀ i, i < h.ground.length → -1000 ≤ ata s i ∧ ata s i ≤ 1000) : ∀ q, q ≤ h.ground.length → ∀ j, j < h.ground.length → -(30 + 14000 * (q : Int)) ≤ ata (spF h a s q) j ∧ ata (spF h a s q) j ≤ 30 + 14000 * (q : Int)
  | 0, _, j, hj => by have := x.bd j hj; simp only [spF]; omega
  | q + 1, hq, j, hj => by
    have ih := spF_bd v x hs q (by omega) j hj
    have h1 := hs q (by omega)
    have h2 := v.lb q j (by omega) hj
    have h3 := v.lim1 (i := q) (by omega)
    have h4 := v.lim12 (i := q) (by omega)
    have p1 := mul_abs (a := ata s q) (b := h.sp.lim q) (A := 1000) (B := 12) (by omega) (by omega) (by omega) h4
    have p2 := mul_abs (a := ata s q) (b := lnk h q j) (A := 1000) (B := 2) (by omega) (by omega) (by omega) (by omega)
    simp only [spF]
    rw [topL_at hj]
    split <;> omega
def csR (h : Hp) (a b s : List Int) : Int := if checkE h [a, b] ≠ 0 then checkE h [a, b] else if s.length ≠ a.length ∨ s.any (fun n => !inR n (-1000) 1000) = true then 1 else if spF h a s h.ground.length == b then 0 else 7
theorem cs_bad {h : Hp} {a b s : List Int} (e : checkE h [a, b] ≠ 0) : csR h a b s = checkE h [a, b] := by unfold csR; rw [if_pos e]
theorem cs_arg {h : Hp} {a b s : List Int} (e : checkE h [a, b] = 0) (hs : s.length ≠ a.length ∨ s.any (fun n => !inR n (-1000) 1000) = true) : csR h a b s = 1 := by unfold csR; rw [if_neg (by simp [e]), if_pos hs]
theorem cs_any {s : List Int} {q : Nat} {x : Int} (hx : s[q]? = some x) (hr : inR x (-1000) 1000 = false) : s.any (fun n => !inR n (-1000) 1000) = true := any_at hx (by simp [hr])
theorem cs_in {s : List Int} (e : s.any (fun n => !inR n (-1000) 1000) = false) : ∀ i, i < s.length → -1000 ≤ ata s i ∧ ata s i ≤ 1000 := fun i hi => by
  rw [List.any_eq_false] at e
  have := e (ata s i) (List.mem_of_getElem? (ata_get hi))
  simp only [inR, Bool.not_eq_true', Bool.and_eq_false_iff, decide_eq_false_iff_not, not_or, Decidable.not_not] at this
  exact this
theorem cs_of {s : List Int} (e : ∀ i, i < s.length → inR (ata s i) (-1000) 1000 = true) : s.any (fun n => !inR n (-1000) 1000) = false := by
  rw [List.any_eq_false]
  intro x hx
  obtain ⟨j, hj, rfl⟩ := List.getElem_of_mem hx
  have h1 := e j hj
  have h2 := ata_get hj
  rw [List.getElem?_eq_getElem hj] at h2
  rw [Option.some.inj h2]; simp [h1]
theorem cs_no {h : Hp} {a b s : List Int} (e : checkE h [a, b] = 0) (hl : s.length = a.length) (hs : s.any (fun n => !inR n (-1000) 1000) = false) (hb : (spF h a s h.ground.length == b) = false) : csR h a b s = 7 := by unfold csR; rw [if_neg (by simp [e]), if_neg (by simp [hl, hs]), hb]; rfl
theorem cs_yes {h : Hp} {a b s : List Int} (e : checkE h [a, b] = 0) (hl : s.length = a.length) (hs : s.any (fun n => !inR n (-1000) 1000) = false) (hb : (spF h a s h.ground.length == b) = true) : csR h a b s = 0 := by unfold csR; rw [if_neg (by simp [e]), if_neg (by simp [hl, hs]), hb]; rfl


theorem f20 (h : Hp) (i : Int) : ACallsF Try.prog 20 [dHp h, i64 i] (.many [.dv (i64 (limitR h i).1), .dv (i64 (limitR h i).2)]) := by
  refine callsF_of Try.func20 rfl rfl (by rw [Try.ntmps20]; simp) fun cx hP hn hg => ?_
  rw [Try.ntmps20] at hn
  rw [startF_lk, none_mkM]
  simp only [List.nil_append, List.append_nil, List.cons_append, zipSV, Nat.reduceAdd]
  refine awp_seq ?_
  refine rg ?_
  refine qp m_box ?_
  refine qv m_as ?_
  refine qv m_as ?_
  show AWp cx _ _ _
  refine awp_seq ?_
  refine awp_seq ?_
  refine rg ?_
  refine qv (m_ldpa sz25 ag25) ?_
  refine qv m_mv ?_
  refine qqF (f59 h i [] (by simp)) ?_ (ha := (args_cons data_dv (args_cons data_dv (args_cons .nils args_nil))))
  refine qv m_as ?_
  show AWp cx _ _ _
  refine awp_seq ?_
  refine rg ?_
  refine qv m_mv ?_
  refine qv m_neq ?_
  show AWp cx _ _ _
  refine cd (fun hc0 => ?_) (fun hc0 => ?_)
  · skip
    have he0 : oneE h i [] ≠ 0 := by simpa using hc0
    refine awp_seq ?_
    refine rg ?_
    refine qv m_mv ?_
    refine qv m_as ?_
    refine qv m_as ?_
    show AWp cx _ _ _
    refine awp_ret ?_
    exact x2 (hr := (rI_ (by rw [limit_bad he0]))) (hr' := (rI_ (by rw [limit_bad he0])))
  · skip
    have he0 : oneE h i [] = 0 := by simpa using hc0
    obtain ⟨he1, k, hk, rfl⟩ := one_ok he0
    have v := vh_of (by rw [← check_nil]; exact he1)
    refine awp_skip ?_
    show AWp cx _ _ _
    refine awp_seq ?_
    refine rg ?_
    refine qv (m_ldpa sz25 ag25) ?_
    refine qv m_mv ?_
    refine qqF (f60 h v k hk) ?_
    refine qv m_as ?_
    refine qv m_as ?_
    show AWp cx _ _ _
    refine awp_ret ?_
    exact x2 (hr := (rI_ (by rw [limit_ok he0]))) (hr' := (rI_ (by rw [limit_ok he0])))

theorem f36 (h : Hp) (i : Int) : ACallsF Try.prog 36 [dHp h, i64 i] (.many [.dv (i64 (limitR h i).1), .dv (i64 (limitR h i).2)]) := by
  have hcn := check_nil h
  refine callsF_of Try.func36 rfl rfl (by rw [Try.ntmps36]; simp) fun cx hP hn hg => ?_
  rw [Try.ntmps36] at hn
  rw [startF_lk, none_mkM]
  simp only [List.nil_append, List.append_nil, List.cons_append, zipSV, Nat.reduceAdd]
  refine awp_seq ?_
  refine rg ?_
  refine qp m_box ?_
  refine qv m_as ?_
  refine qv m_as ?_
  show AWp cx _ _ _
  refine awp_seq ?_
  refine rg ?_
  refine qv (m_ldpa sz25 ag25) ?_
  refine qqF (f37 h) ?_
  refine qv m_as ?_
  show AWp cx _ _ _
  refine awp_seq ?_
  refine awp_seq ?_
  refine rg ?_
  refine qv m_mv ?_
  refine qv m_neq ?_
  show AWp cx _ _ _
  refine cd (fun hc0 => ?_) (fun hc0 => ?_)
  · skip
    have he0 : checkE h [] ≠ 0 := by rw [hcn]; simpa using hc0
    have heb := one_bad (i := i) he0
    have heo : oneE h i [] ≠ 0 := by rw [heb]; exact he0
    refine awp_seq ?_
    refine rg ?_
    refine qv m_mv ?_
    refine qv m_as ?_
    refine qv m_as ?_
    show AWp cx _ _ _
    refine awp_ret ?_
    exact x2 (hr := (rI_ (by rw [limit_bad heo]))) (hr' := (rI_ (by rw [limit_bad heo, heb, hcn])))
  · skip
    have he0 : checkE h [] = 0 := by rw [hcn]; simpa using hc0
    have v := vh_of (by rw [← hcn]; exact he0)
    have h5 := v.n5
    refine awp_skip ?_
    show AWp cx _ _ _
    refine awp_seq ?_
    refine awp_seq ?_
    refine rg ?_
    refine qv m_mv ?_
    refine qv (m_fdp fd25_1) ?_
    refine qv (m_ldp sz23 ag23) ?_
    refine qv (m_len il23) ?_
    refine qv m_sub ?_
    refine qqF (f78 i 0 ((h.ground.length : Int) - 1)) ?_
    refine qv m_not ?_
    show AWp cx _ _ _
    refine cd (fun hc1 => ?_) (fun hc1 => ?_)
    · skip
      have hno := one_none (l := []) he0 (by simpa using hc1)
      refine awp_seq ?_
      refine rg ?_
      refine qv m_as ?_
      refine qv m_as ?_
      show AWp cx _ _ _
      refine awp_ret ?_
      exact x2 (hr := (rI_ (by rw [limit_bad (by rw [hno]; decide)]))) (hr' := (rI_ (by rw [limit_bad (by rw [hno]; decide), hno])))
    · skip
      obtain ⟨k, hk, rfl⟩ := inR_ex (by simpa using hc1)
      have heo := one_of (l := []) he0 hk
      refine awp_skip ?_
      show AWp cx _ _ _
      refine awp_seq ?_
      refine rg ?_
      refine qv (m_ldpa sz25 ag25) ?_
      refine qv m_mv ?_
      refine qqF (f79 h v k hk) ?_
      refine qv m_as ?_
      refine qv m_as ?_
      show AWp cx _ _ _
      refine awp_ret ?_
      exact x2 (hr := (rI_ (by rw [limit_ok heo]))) (hr' := (rI_ (by rw [limit_ok heo])))

set_option maxHeartbeats 4000000 in
theorem f38 (h : Hp) (a : List Int) (i : Int) : ACallsF Try.prog 38 [dHp h, ints a, i64 i] (.many [rI (dropR h a i).1, .dv (i64 (dropR h a i).2.1), .dv (i64 (dropR h a i).2.2)]) := by
  refine callsF_of Try.func38 rfl rfl (by rw [Try.ntmps38]; simp) fun cx hP hn hg => ?_
  rw [Try.ntmps38] at hn
  rw [startF_lk, none_mkM]
  simp only [List.nil_append, List.append_nil, List.cons_append, zipSV, Nat.reduceAdd]
  refine awp_seq ?_
  refine rg ?_
  refine qp m_box ?_
  refine qv m_as ?_
  refine qv m_as ?_
  refine qv m_as ?_
  show AWp cx _ _ _
  refine awp_seq ?_
  refine awp_seq ?_
  refine rg ?_
  refine qv (m_ldpa sz25 ag25) ?_
  refine qv m_mv ?_
  refine qv m_mv ?_
  refine qr (m_bsl el22 ze23 sz23) ?_
  refine qqF (f59 h i [a] (by simp)) ?_ (ha := (args_cons data_dv (args_cons data_dv (args_cons (data_rows (L := [a]) (by simp only [mkM, reduceIte, Nat.reduceEqDiff] <;> rfl) trivial rfl (fun _ => trivial)) args_nil))))
  refine qv m_as ?_
  show AWp cx _ _ _
  refine awp_seq ?_
  refine rg ?_
  refine qv m_mv ?_
  refine qv m_neq ?_
  show AWp cx _ _ _
  refine cd (fun hc0 => ?_) (fun hc0 => ?_)
  · skip
    have he0 : oneE h i [a] ≠ 0 := by simpa using hc0
    refine awp_seq ?_
    refine rg ?_
    refine qv m_mv ?_
    refine qv m_as ?_
    refine qv m_as ?_
    refine qv m_as ?_
    show AWp cx _ _ _
    refine awp_ret ?_
    exact x3 (hr := (rN_ (by rw [drop_bad he0]))) (hr' := (rI_ (by rw [drop_bad he0]))) (hr'' := (rI_ (by rw [drop_bad he0])))
  · skip
    have he0 : oneE h i [a] = 0 := by simpa using hc0
    obtain ⟨he1, k, hk, rfl⟩ := one_ok he0
    obtain ⟨v, h30⟩ := check1 he1
    have h5 := v.n5
    have hal := h30.len
    have hgk := ata_get (a := a) (i := k) (by omega)
    have hbk := h30.bd k hk
    have hbf := bump_fit h30 hk
    have hbl := bump_len (a := a) (k := k)
    have hbs : a.set k (ata a k + 1) = bump a k := rfl
    have hsb := stl_bds v hbf
    have hsl := stl_len (h := h) (a := bump a k)
    have htl := stlT_len v hbf.hpg
    have hss := sm_le5 h5 hsb.2
    refine awp_skip ?_
    show AWp cx _ _ _
    refine awp_seq ?_
    refine rg ?_
    refine qv m_mv ?_
    refine qqF (f80 a (by omega)) ?_
    refine qv m_as ?_
    show AWp cx _ _ _
    refine awp_seq ?_
    refine rg ?_
    refine qv m_mv ?_
    refine qv m_mv ?_
    refine qv (m_ixR el23 sz3) ?_
    refine qv (m_ldI sz3 ag3 (hq := hgk)) ?_
    refine qv m_add ?_
    refine qv (m_ixR el23 sz3) ?_
    refine qs (m_stI sz3) ?_
    show AWp cx _ _ _
    refine awp_seq ?_
    rw [hbs]
    refine rg ?_
    refine qv (m_ldpa sz25 ag25) ?_
    refine qv m_mv ?_
    refine qqF (f66 h v (bump a k) hbf) ?_ (ha := (args_cons data_dv (args_cons (data_ints (L := bump a k) (by simp only [mkM, reduceIte, Nat.reduceEqDiff] <;> rfl) trivial (by first | exact hbl | rfl | omega | (simp; done) | (simp; omega)) rfl rfl (fun _ => trivial)) args_nil))) (hS := (res_rr (d2 := 1031) rfl (by (simp only [mkM, reduceIte, Nat.reduceEqDiff] <;> rfl)) (by (simp only [mkM, reduceIte, Nat.reduceEqDiff] <;> rfl))))
    refine qv m_mv ?_
    refine qv m_ext ?_
    refine qv m_ext ?_
    refine qv m_as ?_
    refine qv m_as ?_
    show AWp cx _ _ _
    refine awp_seq ?_
    refine rg ?_
    refine qv m_mv ?_
    refine qv m_mv ?_
    refine qqF (f67 (stlT h (bump a k)) (by omega) (fun j hj => by have := hsb.2 j (by omega); omega)) ?_ (ha := (args_cons (data_ints (L := stlT h (bump a k)) (by simp only [mkM, reduceIte, Nat.reduceEqDiff] <;> rfl) trivial (by first | rfl | omega | (simp; done) | (simp; omega)) rfl rfl (fun _ => trivial)) args_nil))
    refine qv m_as ?_
    refine qv m_as ?_
    refine qv m_as ?_
    show AWp cx _ _ _
    refine awp_ret ?_
    exact x3 (hr := (rR_ (by rw [drop_ok he0]) (hl := by (try dsimp only) <;> omega))) (hr' := (rI_ (by rw [drop_ok he0, htl]))) (hr'' := (rI_ (by rw [drop_ok he0])))

set_option maxHeartbeats 4000000 in
theorem f46 (h : Hp) (a : List Int) (i : Int) : ACallsF Try.prog 46 [dHp h, ints a, i64 i] (.many [rI (toppleR h a i).1, .dv (i64 (toppleR h a i).2)]) := by
  refine callsF_of Try.func46 rfl rfl (by rw [Try.ntmps46]; simp) fun cx hP hn hg => ?_
  rw [Try.ntmps46] at hn
  rw [startF_lk, none_mkM]
  simp only [List.nil_append, List.append_nil, List.cons_append, zipSV, Nat.reduceAdd]
  refine awp_seq ?_
  refine rg ?_
  refine qp m_box ?_
  refine qv m_as ?_
  refine qv m_as ?_
  show AWp cx _ _ _
  refine awp_seq ?_
  refine awp_seq ?_
  refine rg ?_
  refine qv (m_ldpa sz25 ag25) ?_
  refine qv m_mv ?_
  refine qv m_mv ?_
  refine qr (m_bsl el22 ze23 sz23) ?_
  refine qqF (f59 h i [a] (by simp)) ?_ (ha := (args_cons data_dv (args_cons data_dv (args_cons (data_rows (L := [a]) (by simp only [mkM, reduceIte, Nat.reduceEqDiff] <;> rfl) trivial rfl (fun _ => trivial)) args_nil))))
  refine qv m_as ?_
  show AWp cx _ _ _
  refine awp_seq ?_
  refine rg ?_
  refine qv m_mv ?_
  refine qv m_neq ?_
  show AWp cx _ _ _
  refine cd (fun hc0 => ?_) (fun hc0 => ?_)
  · skip
    have he0 : oneE h i [a] ≠ 0 := by simpa using hc0
    refine awp_seq ?_
    refine rg ?_
    refine qv m_mv ?_
    refine qv m_as ?_
    refine qv m_as ?_
    show AWp cx _ _ _
    refine awp_ret ?_
    exact x2 (hr := (rN_ (by rw [topple_bad he0]))) (hr' := (rI_ (by rw [topple_bad he0])))
  · skip
    have he0 : oneE h i [a] = 0 := by simpa using hc0
    obtain ⟨he1, k, hk, rfl⟩ := one_ok he0
    obtain ⟨v, h30⟩ := check1 he1
    have h5 := v.n5
    have hal := h30.len
    have hgk := ata_get (a := a) (i := k) (by omega)
    have hbk := h30.bd k hk
    refine awp_skip ?_
    show AWp cx _ _ _
    refine awp_seq ?_
    refine awp_seq ?_
    refine rd mixed ?_
    refine zv m_mv ?_
    refine zv m_mv ?_
    first | refine zv (m_ixN el23 sz3) ?_ | refine zv (m_ix el23 sz3) ?_
    refine zv (m_ld sz3 ag3) ?_
    refine zv (m_ldpa sz25 ag25) ?_
    refine zv m_mv ?_
    refine zqF (R := []) (f60 h v k hk) ?_
    refine zv m_lss ?_
    refine ⟨by rfl, ?_⟩
    show AWp cx _ _ _
    refine cd (fun hc1 => ?_) (fun hc1 => ?_)
    · skip
      have hlo : ata a k < h.sp.lim k := by simpa using hc1
      refine awp_seq ?_
      refine rg ?_
      refine qv m_as ?_
      refine qv m_as ?_
      show AWp cx _ _ _
      refine awp_ret ?_
      exact x2 (hr := (rN_ (by rw [topple_low he0 hlo]))) (hr' := (rI_ (by rw [topple_low he0 hlo])))
    · skip
      have hlo : ¬ ata a k < h.sp.lim k := by simpa using hc1
      refine awp_skip ?_
      show AWp cx _ _ _
      refine awp_seq ?_
      refine rg ?_
      refine qv m_mv ?_
      refine qqF (f80 a (by omega)) ?_
      refine qv m_as ?_
      show AWp cx _ _ _
      refine awp_seq ?_
      rw [hal]
      refine rg ?_
      refine qv (m_ldpa sz25 ag25) ?_
      refine qv m_mv ?_
      refine qv m_mv ?_
      refine qqG (f82 h v a k 1 hal hk (fun j hj => by have := h30.bd j hj; omega) (by omega)) [] [(100000, 27)] [27] ?_
      show AWp cx _ _ _
      refine awp_seq ?_
      refine rg ?_
      refine qv m_mv ?_
      refine qv m_as ?_
      refine qv m_as ?_
      show AWp cx _ _ _
      refine awp_ret ?_
      exact x2 (hr := (rR_ (by rw [topple_ok he0 hlo]) (hl := by first | rw [topL_len] | (dsimp only; rw [topL_len]) | rw [topL_len, hal]))) (hr' := (rI_ (by rw [topple_ok he0 hlo])))

set_option maxHeartbeats 4000000 in
theorem f47 (h : Hp) (a : List Int) (i : Int) : ACallsF Try.prog 47 [dHp h, ints a, i64 i] (.many [rI (toppleR h a i).1, .dv (i64 (toppleR h a i).2)]) := by
  refine callsF_of Try.func47 rfl rfl (by rw [Try.ntmps47]; simp) fun cx hP hn hg => ?_
  rw [Try.ntmps47] at hn
  rw [startF_lk, none_mkM]
  simp only [List.nil_append, List.append_nil, List.cons_append, zipSV, Nat.reduceAdd]
  refine awp_seq ?_
  refine rg ?_
  refine qp m_box ?_
  refine qv m_as ?_
  refine qv m_as ?_
  show AWp cx _ _ _
  refine awp_seq ?_
  refine rg ?_
  refine qv (m_ldpa sz25 ag25) ?_
  refine qv m_mv ?_
  refine qr (m_bsl el22 ze23 sz23) ?_
  refine qqF (f76 h [a] (by simp)) ?_ (ha := (args_cons data_dv (args_cons (data_rows (L := [a]) (by simp only [mkM, reduceIte, Nat.reduceEqDiff] <;> rfl) trivial rfl (fun _ => trivial)) args_nil)))
  refine qv m_as ?_
  show AWp cx _ _ _
  refine awp_seq ?_
  refine awp_seq ?_
  refine rg ?_
  refine qv m_mv ?_
  refine qv m_neq ?_
  show AWp cx _ _ _
  refine cd (fun hc0 => ?_) (fun hc0 => ?_)
  · skip
    have he0 : checkE h [a] ≠ 0 := by simpa using hc0
    have heb := one_bad (i := i) he0
    have heo : oneE h i [a] ≠ 0 := by rw [heb]; exact he0
    refine awp_seq ?_
    refine rg ?_
    refine qv m_mv ?_
    refine qv m_as ?_
    refine qv m_as ?_
    show AWp cx _ _ _
    refine awp_ret ?_
    exact x2 (hr := (rN_ (by rw [topple_bad heo]))) (hr' := (rI_ (by rw [topple_bad heo, heb])))
  · skip
    have he0 : checkE h [a] = 0 := by simpa using hc0
    obtain ⟨v, h30⟩ := check1 he0
    have h5 := v.n5
    have hal := h30.len
    have f := Fit.of30 h30
    refine awp_skip ?_
    show AWp cx _ _ _
    refine awp_seq ?_
    refine awp_seq ?_
    refine rg ?_
    refine qv m_mv ?_
    refine qv m_mv ?_
    refine qv (m_len il23) ?_
    refine qv m_sub ?_
    refine qqF (f78 i 0 ((a.length : Int) - 1)) ?_
    refine qv m_not ?_
    show AWp cx _ _ _
    refine cd (fun hc1 => ?_) (fun hc1 => ?_)
    · skip
      have hno := one_none (l := [a]) he0 (by rw [← hal]; simpa using hc1)
      refine awp_seq ?_
      refine rg ?_
      refine qv m_as ?_
      refine qv m_as ?_
      show AWp cx _ _ _
      refine awp_ret ?_
      exact x2 (hr := (rN_ (by rw [topple_bad (by rw [hno]; decide)]))) (hr' := (rI_ (by rw [topple_bad (by rw [hno]; decide), hno])))
    · skip
      obtain ⟨k, hk, rfl⟩ := inR_ex (n := h.ground.length) (by rw [← hal]; simpa using hc1)
      have heo := one_of (l := [a]) he0 hk
      have hgk := ata_get (a := a) (i := k) (by omega)
      have hbk := h30.bd k hk
      refine awp_skip ?_
      show AWp cx _ _ _
      refine awp_seq ?_
      refine awp_seq ?_
      refine rd mixed ?_
      refine zv m_mv ?_
      refine zv m_mv ?_
      first | refine zv (m_ixN el23 sz3) ?_ | refine zv (m_ix el23 sz3) ?_
      refine zv (m_ld sz3 ag3) ?_
      refine zv (m_ldpa sz25 ag25) ?_
      refine zv m_mv ?_
      refine zqF (R := []) (f79 h v k hk) ?_
      refine zv m_lss ?_
      refine ⟨by rfl, ?_⟩
      show AWp cx _ _ _
      refine cd (fun hc2 => ?_) (fun hc2 => ?_)
      · skip
        have hlo : ata a k < h.sp.lim k := by simpa using hc2
        refine awp_seq ?_
        refine rg ?_
        refine qv m_as ?_
        refine qv m_as ?_
        show AWp cx _ _ _
        refine awp_ret ?_
        exact x2 (hr := (rN_ (by rw [topple_low heo hlo]))) (hr' := (rI_ (by rw [topple_low heo hlo])))
      · skip
        have hlo : ¬ ata a k < h.sp.lim k := by simpa using hc2
        refine awp_skip ?_
        show AWp cx _ _ _
        refine awp_seq ?_
        refine rg ?_
        refine qv (m_ldpa sz25 ag25) ?_
        refine qv m_mv ?_
        refine qv m_mv ?_
        refine qqF (f83 h v a k 1 hal hk (fun j hj => by have := h30.bd j hj; omega) (by omega)) ?_
        refine qv m_as ?_
        refine qv m_as ?_
        show AWp cx _ _ _
        refine awp_ret ?_
        exact x2 (hr := (rR_ (by rw [topple_ok heo hlo]))) (hr' := (rI_ (by rw [topple_ok heo hlo])))

set_option maxHeartbeats 4000000 in
theorem f39 (h : Hp) (a : List Int) (i : Int) : ACallsF Try.prog 39 [dHp h, ints a, i64 i] (.many [rI (dropR h a i).1, .dv (i64 (dropR h a i).2.1), .dv (i64 (dropR h a i).2.2)]) := by
  refine callsF_of Try.func39 rfl rfl (by rw [Try.ntmps39]; simp) fun cx hP hn hg => ?_
  rw [Try.ntmps39] at hn
  rw [startF_lk, none_mkM]
  simp only [List.nil_append, List.append_nil, List.cons_append, zipSV, Nat.reduceAdd]
  refine awp_seq ?_
  refine rg ?_
  refine qp m_box ?_
  refine qv m_as ?_
  refine qv m_as ?_
  refine qv m_as ?_
  show AWp cx _ _ _
  refine awp_seq ?_
  refine rg ?_
  refine qv (m_ldpa sz25 ag25) ?_
  refine qv m_mv ?_
  refine qr (m_bsl el22 ze23 sz23) ?_
  refine qqF (f76 h [a] (by simp)) ?_ (ha := (args_cons data_dv (args_cons (data_rows (L := [a]) (by simp only [mkM, reduceIte, Nat.reduceEqDiff] <;> rfl) trivial rfl (fun _ => trivial)) args_nil)))
  refine qv m_as ?_
  show AWp cx _ _ _
  refine awp_seq ?_
  refine awp_seq ?_
  refine rg ?_
  refine qv m_mv ?_
  refine qv m_neq ?_
  show AWp cx _ _ _
  refine cd (fun hc0 => ?_) (fun hc0 => ?_)
  · skip
    have he0 : checkE h [a] ≠ 0 := by simpa using hc0
    have heb := one_bad (i := i) he0
    have heo : oneE h i [a] ≠ 0 := by rw [heb]; exact he0
    refine awp_seq ?_
    refine rg ?_
    refine qv m_mv ?_
    refine qv m_as ?_
    refine qv m_as ?_
    refine qv m_as ?_
    show AWp cx _ _ _
    refine awp_ret ?_
    exact x3 (hr := (rN_ (by rw [drop_bad heo]))) (hr' := (rI_ (by rw [drop_bad heo]))) (hr'' := (rI_ (by rw [drop_bad heo, heb])))
  · skip
    have he0 : checkE h [a] = 0 := by simpa using hc0
    obtain ⟨v, h30⟩ := check1 he0
    have h5 := v.n5
    have hal := h30.len
    have f := Fit.of30 h30
    refine awp_skip ?_
    show AWp cx _ _ _
    refine awp_seq ?_
    refine awp_seq ?_
    refine rg ?_
    refine qv m_mv ?_
    refine qv m_mv ?_
    refine qv (m_len il23) ?_
    refine qv m_sub ?_
    refine qqF (f78 i 0 ((a.length : Int) - 1)) ?_
    refine qv m_not ?_
    show AWp cx _ _ _
    refine cd (fun hc1 => ?_) (fun hc1 => ?_)
    · skip
      have hno := one_none (l := [a]) he0 (by rw [← hal]; simpa using hc1)
      refine awp_seq ?_
      refine rg ?_
      refine qv m_as ?_
      refine qv m_as ?_
      refine qv m_as ?_
      show AWp cx _ _ _
      refine awp_ret ?_
      exact x3 (hr := (rN_ (by rw [drop_bad (by rw [hno]; decide)]))) (hr' := (rI_ (by rw [drop_bad (by rw [hno]; decide)]))) (hr'' := (rI_ (by rw [drop_bad (by rw [hno]; decide), hno])))
    · skip
      obtain ⟨k, hk, rfl⟩ := inR_ex (n := h.ground.length) (by rw [← hal]; simpa using hc1)
      have heo := one_of (l := [a]) he0 hk
      have hgk := ata_get (a := a) (i := k) (by omega)
      have hbk := h30.bd k hk
      have hbf := bump_fit h30 hk
      have hbl := bump_len (a := a) (k := k)
      have hbs : a.set k (ata a k + 1) = bump a k := rfl
      have hsb := stl_bds v hbf
      have hsl := stl_len (h := h) (a := bump a k)
      have htl := stlT_len v hbf.hpg
      have hss := sm_le5 h5 hsb.2
      refine awp_skip ?_
      show AWp cx _ _ _
      refine awp_seq ?_
      refine rg ?_
      refine qr (m_bsl el23 ze3 sz3) ?_
      refine qv m_mv ?_
      refine qa1 (m_app1 el23 el23 ze3 sz3 by3) ?_
      refine qv m_as ?_
      show AWp cx _ _ _
      refine awp_seq ?_
      refine rg ?_
      refine qv m_mv ?_
      refine qv m_mv ?_
      refine qv (m_ixR el23 sz3) ?_
      refine qv (m_ldI sz3 ag3 (hq := hgk)) ?_
      refine qv m_add ?_
      refine qv (m_ixR el23 sz3) ?_
      refine qs (m_stI sz3) ?_
      show AWp cx _ _ _
      refine awp_seq ?_
      rw [hbs]
      refine rg ?_
      refine qv (m_ldpa sz25 ag25) ?_
      refine qv m_mv ?_
      refine qqF (f81 h v (bump a k) hbf) ?_ (ha := (args_cons data_dv (args_cons (data_ints (L := bump a k) (by simp only [mkM, reduceIte, Nat.reduceEqDiff] <;> rfl) trivial (by first | exact hbl | rfl | omega | (simp; done) | (simp; omega)) rfl rfl (fun _ => trivial)) args_nil))) (hS := (res_rrd (d2 := 1041) rfl (by (simp only [mkM, reduceIte, Nat.reduceEqDiff] <;> rfl)) (by (simp only [mkM, reduceIte, Nat.reduceEqDiff] <;> rfl))))
      refine qv m_mv ?_
      refine qv m_ext ?_
      refine qv m_ext ?_
      refine qv m_ext ?_
      refine qv m_as ?_
      refine qv m_as ?_
      refine qv m_as ?_
      show AWp cx _ _ _
      refine awp_seq ?_
      refine rg ?_
      refine qv m_as ?_
      show AWp cx _ _ _
      refine awp_seq ?_
      refine awp_seq ?_
      refine rg ?_
      refine qv m_as ?_
      show AWp cx _ _ _
      refine awp_block ?_
      refine awp_loop (ι := Nat) (fun q => ⟨lk [(11, .sl 11 0 0 h.ground.length), (12, .sl 12 0 0 h.ground.length), (14, .dv (i64 (sm (ata (stlT h (bump a k))) q))), (15, .dv (i64 (q : Nat)))], mkM [(11, 0, some (rowI (stl h (bump a k)))), (12, 0, some (rowI (stlT h (bump a k))))]⟩) (fun q => q ≤ h.ground.length) (fun q => h.ground.length - q) 0 (by simp) (tl [(11, 41), (12, 1041)] (hF := by simp [FLe, svLe, lk, mkM, isLive, tauL, sm, hsl, htl]) (hM := by simp [MLe, blkLe, svLe, svLes, lk, mkM, isLive, tauL, svLes_ints, svLes_self, isDvs, isDvs_map, isDvs_app, isDvs_take, isDvs_set, isDvs_repl, sm, hsl, htl])) ?_
      intro q hφ0
      refine awp_seq ?_
      refine awp_seq ?_
      refine rg ?_
      refine qv m_mv ?_
      refine qv m_mv ?_
      refine qv (m_lenR il23) ?_
      refine qv m_lss ?_
      show AWp cx _ _ _
      refine cd (fun hc2 => ?_) (fun hc2 => ?_)
      · try simp at hc2
        have hq : q < h.ground.length := by omega
        have hgq := ata_get (a := stlT h (bump a k)) (i := q) (by omega)
        have hb2 := hsb.2 q hq
        have hsq := sm_le5 (n := q) (by omega) (fun i hi => hsb.2 i (by omega))
        refine awp_skip ?_
        show AWp cx _ _ _
        refine awp_seq ?_
        refine awp_block ?_
        refine rg ?_
        refine qv m_mv ?_
        refine qv m_mv ?_
        refine qv m_mv ?_
        refine qv (m_ixR el23 sz3) ?_
        refine qv (m_ldI sz3 ag3 (hq := hgq)) ?_
        refine qv m_add ?_
        refine qv m_as ?_
        show AWp cx _ _ _
        refine rg ?_
        refine qv m_mv ?_
        refine qv m_add ?_
        refine qv m_as ?_
        exact ⟨q + 1, hq, (by simp only; omega), (tl [(11, 11), (12, 12)] (hF := by simp [FLe, svLe, lk, mkM, isLive, tauL, sm, hsl, htl]) (hM := by simp [MLe, blkLe, svLe, svLes, lk, mkM, isLive, tauL, svLes_ints, svLes_self, isDvs, isDvs_map, isDvs_app, isDvs_take, isDvs_set, isDvs_repl, sm, hsl, htl]))⟩
      · try simp at hc2
        obtain rfl : q = h.ground.length := by omega
        refine awp_exit ?_
        show AWp cx _ _ _
        refine awp_seq ?_
        refine rg ?_
        refine qv m_mv ?_
        refine qv m_mv ?_
        refine qv m_as ?_
        refine qv m_as ?_
        refine qv m_as ?_
        show AWp cx _ _ _
        refine awp_ret ?_
        exact x3 (hr := (rR_ (by rw [drop_ok heo]) (hl := by (try dsimp only) <;> omega))) (hr' := (rI_ (by rw [drop_ok heo]))) (hr'' := (rI_ (by rw [drop_ok heo])))

set_option maxHeartbeats 4000000 in
theorem f40 (h : Hp) (a l : List Int) (hll : l.length < 1000000) : ACallsF Try.prog 40 [dHp h, ints a, ints l] (.many [rI (listR h a l).1, .dv (i64 (listR h a l).2.1), .dv (i64 (listR h a l).2.2)]) := by
  refine callsF_of Try.func40 rfl rfl (by rw [Try.ntmps40]; simp) fun cx hP hn hg => ?_
  rw [Try.ntmps40] at hn
  rw [startF_lk, none_mkM]
  simp only [List.nil_append, List.append_nil, List.cons_append, zipSV, Nat.reduceAdd]
  refine awp_seq ?_
  refine rg ?_
  refine qp m_box ?_
  refine qv m_as ?_
  refine qv m_as ?_
  refine qv m_as ?_
  show AWp cx _ _ _
  refine awp_seq ?_
  refine awp_seq ?_
  refine rg ?_
  refine qv (m_ldpa sz25 ag25) ?_
  refine qv m_mv ?_
  refine qr (m_bsl el22 ze23 sz23) ?_
  refine qqF (f61 h [a] (by simp)) ?_ (ha := (args_cons data_dv (args_cons (data_rows (L := [a]) (by simp only [mkM, reduceIte, Nat.reduceEqDiff] <;> rfl) trivial rfl (fun _ => trivial)) args_nil)))
  refine qv m_as ?_
  show AWp cx _ _ _
  refine awp_seq ?_
  refine rg ?_
  refine qv m_mv ?_
  refine qv m_neq ?_
  show AWp cx _ _ _
  refine cd (fun hc0 => ?_) (fun hc0 => ?_)
  · skip
    have he0 : checkE h [a] ≠ 0 := by simpa using hc0
    refine awp_seq ?_
    refine rg ?_
    refine qv m_mv ?_
    refine qv m_as ?_
    refine qv m_as ?_
    refine qv m_as ?_
    show AWp cx _ _ _
    refine awp_ret ?_
    exact x3 (hr := (rN_ (by rw [list_bad he0]))) (hr' := (rI_ (by rw [list_bad he0]))) (hr'' := (rI_ (by rw [list_bad he0])))
  · skip
    have he0 : checkE h [a] = 0 := by simpa using hc0
    obtain ⟨v, h30⟩ := check1 he0
    have h5 := v.n5
    have hal := h30.len
    have f := Fit.of30 h30
    refine awp_skip ?_
    show AWp cx _ _ _
    refine awp_seq ?_
    refine awp_seq ?_
    refine rg ?_
    refine qv m_mv ?_
    refine qv (m_len il23) ?_
    refine qv m_gtr ?_
    show AWp cx _ _ _
    refine cd (fun hc1 => ?_) (fun hc1 => ?_)
    · skip
      have hlg : 200 < l.length := by simp at hc1; omega
      refine awp_seq ?_
      refine rg ?_
      refine qv m_as ?_
      refine qv m_as ?_
      refine qv m_as ?_
      show AWp cx _ _ _
      refine awp_ret ?_
      exact x3 (hr := (rN_ (by rw [list_long he0 hlg]))) (hr' := (rI_ (by rw [list_long he0 hlg]))) (hr'' := (rI_ (by rw [list_long he0 hlg])))
    · skip
      have hlg : ¬ 200 < l.length := by simp at hc1; omega
      refine awp_skip ?_
      show AWp cx _ _ _
      refine awp_seq ?_
      refine awp_seq ?_
      refine rg ?_
      refine qv m_mv ?_
      refine qv (m_len il23) ?_
      refine qv m_mv ?_
      show AWp cx _ _ _
      refine awp_block ?_
      refine awp_loop (ι := Nat) (fun q => ⟨lk [(1, .dv (ints (a))), (2, .dv (ints (l))), (3, .pt 3 0 0), (25, .dv (ints (l))), (26, .dv (i64 ((l.length : Int)))), (27, .dv (i64 (q : Nat)))], mkM [(3, 0, some ⟨[.dv (.list ((h.links).map ints)), .dv (ints (h.ground))], 0, 25, 0, false⟩)]⟩) (fun q => q ≤ l.length ∧ ∀ j, j < q → inR (ata l j) 0 ((a.length : Int) - 1) = true) (fun q => l.length - q) 0 (by simp) (tl [(3, 3)]) ?_
      intro q hφ0
      refine awp_seq ?_
      refine rg ?_
      refine qv m_lss ?_
      show AWp cx _ _ _
      refine awp_seq ?_
      refine cd (fun hc2 => ?_) (fun hc2 => ?_)
      · try simp at hc2
        refine awp_skip ?_
        show AWp cx _ _ _
        refine awp_seq ?_
        refine awp_block ?_
        refine awp_seq ?_
        have hgq := ata_get (a := l) (i := q) (by omega)
        refine rg ?_
        first | refine qv (m_ixN el23 sz3) ?_ | refine qv (m_ix el23 sz3) ?_
        refine qv (m_ld sz3 ag3) ?_
        refine qv m_as ?_
        show AWp cx _ _ _
        refine awp_seq ?_
        refine rg ?_
        refine qv m_mv ?_
        refine qv m_mv ?_
        refine qv (m_len il23) ?_
        refine qv m_sub ?_
        refine qqF (f64 (ata l q) 0 ((a.length : Int) - 1)) ?_
        refine qv m_not ?_
        show AWp cx _ _ _
        refine cd (fun hc3 => ?_) (fun hc3 => ?_)
        · skip
          have hno := list_none he0 hlg hgq (by simpa using hc3)
          refine awp_seq ?_
          refine rg ?_
          refine qv m_as ?_
          refine qv m_as ?_
          refine qv m_as ?_
          show AWp cx _ _ _
          refine awp_ret ?_
          exact x3 (hr := (rN_ (by rw [hno]))) (hr' := (rI_ (by rw [hno]))) (hr'' := (rI_ (by rw [hno])))
        · skip
          refine awp_skip ?_
          show AWp cx _ _ _
          refine rg ?_
          refine qv m_add ?_
          refine qv m_mv ?_
          refine ⟨q + 1, ?_, (by simp only; omega), (tl [(3, 3)])⟩
          refine ⟨by omega, fun j hj => ?_⟩
          rcases Nat.lt_or_ge j q with h1 | h1
          · exact hφ0.2 j h1
          · obtain rfl : j = q := by omega
            simpa using hc3
      · try simp at hc2
        have hall : ∀ j, j < l.length → inR (ata l j) 0 ((a.length : Int) - 1) = true := fun j hj => hφ0.2 j (by omega)
        have hlo0 := list_ok he0 hlg hall
        refine awp_exit ?_
        show AWp cx _ _ _
        refine awp_seq ?_
        refine rg ?_
        refine qv m_mv ?_
        refine qqF (f80 a (by omega)) ?_
        refine qv m_as ?_
        show AWp cx _ _ _
        refine awp_seq ?_
        refine awp_seq ?_
        refine rg ?_
        refine qv m_mv ?_
        refine qv (m_len il23) ?_
        refine qv m_mv ?_
        show AWp cx _ _ _
        refine awp_block ?_
        refine awp_loop (ι := List Int × Nat) (fun s => ⟨lk [(2, .dv (ints (l))), (3, .pt 3 0 0), (12, .sl 12 0 0 h.ground.length), (40, .dv (ints (l))), (41, .dv (i64 ((l.length : Int)))), (42, .dv (i64 (s.2 : Nat)))], mkM [(3, 0, some ⟨[.dv (.list ((h.links).map ints)), .dv (ints (h.ground))], 0, 25, 0, false⟩), (12, 0, some (rowI s.1))]⟩) (fun s => CInv h a l s.1 s.2) (fun s => l.length - s.2) (a, 0) (CInv.start l h30.hpg) (tl [(3, 3), (12, 39)] (hF := by simp [FLe, svLe, lk, mkM, isLive, tauL, hal]) (hM := by simp [MLe, blkLe, svLe, svLes, lk, mkM, isLive, tauL, svLes_ints, svLes_self, isDvs, isDvs_map, isDvs_app, isDvs_take, isDvs_set, isDvs_repl, hal])) ?_
        intro ⟨out, q⟩ hφ1
        dsimp only at hφ1 ⊢
        have hqle := hφ1.qle
        obtain ⟨t, I⟩ := hφ1.I
        have hol := I.lc
        have hcb := f.cb v I
        refine awp_seq ?_
        refine rg ?_
        refine qv m_lss ?_
        show AWp cx _ _ _
        refine awp_seq ?_
        refine cd (fun hc4 => ?_) (fun hc4 => ?_)
        · try simp at hc4
          obtain ⟨x, hxk, hxe⟩ := inR_ex (n := h.ground.length) (by rw [← hal]; exact hall q (by omega))
          have hgx : l[q]? = some (x : Int) := by rw [← hxe]; exact ata_get (by omega)
          have hgo := ata_get (a := out) (i := x) (by omega)
          have hcx := hcb.1 x hxk
          refine awp_skip ?_
          show AWp cx _ _ _
          refine awp_seq ?_
          refine awp_block ?_
          refine awp_seq ?_
          refine rg ?_
          refine qv m_mv ?_
          first | refine qv (m_ixN el23 sz3) ?_ | refine qv (m_ix el23 sz3) ?_
          refine qv (m_ld sz3 ag3) ?_
          refine qv m_as ?_
          refine qv m_as ?_
          show AWp cx _ _ _
          refine awp_seq ?_
          refine awp_seq ?_
          refine rd mixed ?_
          refine zv m_mv ?_
          refine zv m_mv ?_
          refine zv (m_ixR el23 sz3) ?_
          refine zv (m_ldI sz3 ag3 (hq := hgo)) ?_
          refine zv (m_ldpa sz25 ag25) ?_
          refine zv m_mv ?_
          refine zqF (R := []) (f60 h v x hxk) ?_
          refine zv m_lss ?_
          refine ⟨by rfl, ?_⟩
          show AWp cx _ _ _
          refine cd (fun hc5 => ?_) (fun hc5 => ?_)
          · skip
            have hlt : ata out x < h.sp.lim x := by simpa using hc5
            have hcn := hφ1.no hgx hlt
            refine awp_seq ?_
            refine rg ?_
            refine qv m_mv ?_
            refine qv m_as ?_
            refine qv m_as ?_
            refine qv m_as ?_
            show AWp cx _ _ _
            refine awp_ret ?_
            exact x3 (hr := (rN_ (by rw [hlo0, hcn]))) (hr' := (rI_ (by rw [hlo0, hcn]))) (hr'' := (rI_ (by rw [hlo0, hcn])))
          · skip
            have hlo : ¬ ata out x < h.sp.lim x := by simpa using hc5
            refine awp_skip ?_
            show AWp cx _ _ _
            refine rg ?_
            refine qv (m_ldpa sz25 ag25) ?_
            refine qv m_mv ?_
            refine qv m_mv ?_
            refine qqG (f82 h v out x 1 hol hxk (fun j hj => by have := hcb.1 j hj; omega) (by omega)) [] [(100000, 12)] [12] ?_
            show AWp cx _ _ _
            refine rg ?_
            refine qv m_add ?_
            refine qv m_mv ?_
            exact ⟨(topL h out x 1, q + 1), (hφ1.next v hgx hxk hlo), (by simp only; omega), (tl [(3, 3), (12, 12)] (hF := by simp [FLe, svLe, lk, mkM, isLive, tauL, topL_len]) (hM := by simp [MLe, blkLe, svLe, svLes, lk, mkM, isLive, tauL, svLes_ints, svLes_self, isDvs, isDvs_map, isDvs_app, isDvs_take, isDvs_set, isDvs_repl, topL_len]))⟩
        · try simp at hc4
          obtain rfl : q = l.length := by omega
          have hdn := hφ1.done
          refine awp_exit ?_
          show AWp cx _ _ _
          refine awp_seq ?_
          refine rg ?_
          refine qv m_mv ?_
          refine qv m_mv ?_
          refine qv (m_len il23) ?_
          refine qv m_as ?_
          refine qv m_as ?_
          refine qv m_as ?_
          show AWp cx _ _ _
          refine awp_ret ?_
          exact x3 (hr := (rR_ (by rw [hlo0, hdn]))) (hr' := (rI_ (by rw [hlo0, hdn]))) (hr'' := (rI_ (by rw [hlo0, hdn])))

end Go.Ab.Try
