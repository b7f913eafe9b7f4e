/- The functions of the heap laws, part 18. The walks are written by wip/gen/gw.py. -/
import Derived.Test.YtapabnafbfnjnaaHeap17
import Derived.Test.YtapabnafbfnjnaaHeap15
import Derived.Test.YtapabnafbfnjnaaHeap16
import Derived.Test.YtapabnafbfnjnaaHeapFacts
import Derived.Test.YtapabnafbfnjnaaHeapPT
set_option linter.all false
namespace Go.Ab.Try
open Go Go.Ab Go.Proofs Go.Ab.Heap

theorem lap_cast {h : Hp} {a b : List Int} (e : h.sp.Alike (ata a) (ata b)) : h.sp.Alike (ata a) (ata b) := e
/-- What undoes a heaping: twice what is alike to nothing, less it. -/
noncomputable def lessL (h : Hp) (a : List Int) : List Int := (List.range h.ground.length).map fun i => ata (nothingL h) i + (ata (nothingL h) i - ata a i)
theorem less_at {h : Hp} {a : List Int} {i : Nat} (hi : i < h.ground.length) : ata (lessL h a) i = ata (nothingL h) i + (ata (nothingL h) i - ata a i) := ata_mk hi
theorem less_len {h : Hp} {a : List Int} : (lessL h a).length = h.ground.length := by simp [lessL]
theorem less_half {h : Hp} (v : VH h) {a : List Int} (ha : Hpg h a) (hc : calmB h a) : Half h (lessL h a) := ⟨⟨less_len, fun i hi => by
  rw [less_at hi]; have := nothing_big v hi; have := hc i hi; have := v.lim1 hi; omega⟩, fun i hi => by
  rw [less_at hi]; have := nothing_big v hi; have := ha.nn i hi; omega⟩
noncomputable def lessQ (h : Hp) (a : List Int) (q : Nat) : List Int := (List.range h.ground.length).map fun i => if i < q then ata (nothingL h) i + (ata (nothingL h) i - ata a i) else ata (nothingL h) i
theorem lessQ_len {h : Hp} {a : List Int} {q : Nat} : (lessQ h a q).length = h.ground.length := by simp [lessQ]
theorem lessQ_at {h : Hp} {a : List Int} {q i : Nat} (hi : i < h.ground.length) : ata (lessQ h a q) i = if i < q then ata (nothingL h) i + (ata (nothingL h) i - ata a i) else ata (nothingL h) i := ata_mk hi
theorem lessQ_zero {h : Hp} {a : List Int} : nothingL h = lessQ h a 0 := by
  refine list_ext nothing_len fun j _ => ?_
  rw [if_neg (Nat.not_lt_zero j)]
theorem lessQ_succ {h : Hp} {a : List Int} {q : Nat} (hq : q < h.ground.length) : (lessQ h a q).set q (ata (lessQ h a q) q + (ata (lessQ h a q) q - ata a q)) = lessQ h a (q + 1) := by
  refine map_set (fun j _ hne => ?_) fun _ => ?_
  · by_cases h1 : j < q
    · rw [if_pos h1, if_pos (show j < q + 1 by omega)]
    · rw [if_neg h1, if_neg (show ¬ j < q + 1 by omega)]
  · rw [lessQ_at hq, if_neg (Nat.lt_irrefl q), if_pos (Nat.lt_succ_self q)]
theorem lessQ_full {h : Hp} {a : List Int} : lessQ h a h.ground.length = lessL h a := by
  unfold lessQ lessL
  refine List.map_congr_left fun j hj => ?_
  rw [if_pos (show j < h.ground.length by simpa using hj)]
/-- Taken n times. -/
noncomputable def tmsL (h : Hp) (a : List Int) (n : Int) : List Int := lastL h (mulL h n a)
theorem mul_alike {h : Hp} (k : Int) (a : List Int) : h.sp.Alike (ata (mulL h k a)) fun i => k * ata a i := alike_congr (fun i hi => (mulL_at hi).symm) (fun _ _ => rfl) (alike_refl fun i => k * ata a i)
theorem less_alike {h : Hp} (v : VH h) (a : List Int) : h.sp.Alike (ata (lessL h a)) fun i => (-1) * ata a i := by
  have h1 := alike_mul 2 (nothing_alike v)
  have h2 := alike_add h1 (alike_refl (s := h.sp) fun i => (-1) * ata a i)
  exact alike_congr (fun i hi => by rw [less_at hi]; omega) (fun i _ => by omega) h2
theorem back_eq {h : Hp} (v : VH h) {a : List Int} (ha : Hpg h a) (hc : calmB h a) : tmsL h a (cntD h - 1) = lastL h (lessL h a) := by
  have hp := cntD_pos v
  refine (last_alike v (mulL_hpg (by omega) ha) (less_half v ha hc).hpg).2 ?_
  refine alike_trans (mul_alike _ a) (alike_trans ?_ (alike_symm (less_alike v a)))
  have h2 := alike_add (Tk.cnt v a) (alike_refl (s := h.sp) fun i => (-1) * ata a i)
  exact alike_congr (fun i _ => by (try dsimp only); rw [Int.sub_mul]; omega) (fun i _ => by omega) h2
structure TInv (h : Hp) (a : List Int) (N : Int) (o p : List Int) (n : Int) : Prop where
  ho : Hpg h o
  ro : Rec h o
  hp : Half h p
  n0 : 0 ≤ n
  ex : ∃ x y : Int, h.sp.Alike (ata o) (fun i => x * ata a i) ∧ h.sp.Alike (ata p) (fun i => y * ata a i) ∧ x + n * y = N
theorem TInv.start {h : Hp} (v : VH h) {a : List Int} (ha : Half h a) {N : Int} (hN : 0 ≤ N) : TInv h a N (zeroL h) a N := by
  refine ⟨zero_hpg v, zero_rec v, ha, hN, 0, 1, ?_, ?_, by omega⟩
  · exact alike_congr (fun _ _ => rfl) (fun i _ => by simp) (zero_alike v)
  · exact alike_congr (fun _ _ => rfl) (fun i _ => by simp) (alike_refl (ata a))
theorem add_stl_alike {h : Hp} (v : VH h) {p q : List Int} {x y : Int} {a : List Int} (hp : Hpg h p) (hq : Hpg h q) (e1 : h.sp.Alike (ata p) fun i => x * ata a i) (e2 : h.sp.Alike (ata q) fun i => y * ata a i) : h.sp.Alike (ata (stl h (addL h p q))) fun i => (x + y) * ata a i := by
  refine alike_trans (alike_symm (stl_alike v (addL_hpg hp hq))) ?_
  exact alike_congr (fun i hi => (addL_at hi).symm) (fun i _ => by (try dsimp only); rw [Int.add_mul]) (alike_add e1 e2)
theorem half_stl {h : Hp} (v : VH h) {p : List Int} (hp : Hpg h p) : Half h (stl h p) := ⟨stl_hpg v hp, fun i hi => by have := stl_lt v hp i hi; have := v.lim12 hi; omega⟩
theorem Half.ofRec {h : Hp} (v : VH h) {p : List Int} (hp : Hpg h p) (r : Rec h p) : Half h p := ⟨hp, fun i hi => by have := r.1 i hi; have := v.lim12 hi; omega⟩
theorem TInv.odd {h : Hp} (v : VH h) {a : List Int} {N : Int} {o p : List Int} {n : Int} (I : TInv h a N o p n) (e : n % 2 = 1) : TInv h a N (stl h (addL h o p)) (stl h (addL h p p)) (n / 2) := by
  obtain ⟨x, y, e1, e2, e3⟩ := I.ex
  refine ⟨stl_hpg v (addL_hpg I.ho I.hp.hpg), rec_add v I.ho I.ro I.hp.hpg, half_stl v (addL_hpg I.hp.hpg I.hp.hpg), by have := I.n0; omega, x + y, y + y, add_stl_alike v I.ho I.hp.hpg e1 e2, add_stl_alike v I.hp.hpg I.hp.hpg e2 e2, ?_⟩
  have : n = 2 * (n / 2) + 1 := by omega
  rw [this] at e3
  rw [← e3, Int.add_mul, Int.mul_add, Int.mul_assoc]; omega
theorem TInv.even {h : Hp} (v : VH h) {a : List Int} {N : Int} {o p : List Int} {n : Int} (I : TInv h a N o p n) (e : n % 2 = 0) : TInv h a N o (stl h (addL h p p)) (n / 2) := by
  obtain ⟨x, y, e1, e2, e3⟩ := I.ex
  refine ⟨I.ho, I.ro, half_stl v (addL_hpg I.hp.hpg I.hp.hpg), by have := I.n0; omega, x, y + y, e1, add_stl_alike v I.hp.hpg I.hp.hpg e2 e2, ?_⟩
  have : n = 2 * (n / 2) := by omega
  rw [this] at e3
  rw [← e3, Int.mul_add, Int.mul_assoc]; omega
theorem TInv.done {h : Hp} (v : VH h) {a : List Int} (ha : Hpg h a) {N : Int} (hN : 0 ≤ N) {o p : List Int} {n : Int} (I : TInv h a N o p n) (e : n ≤ 0) : o = tmsL h a N := by
  obtain ⟨x, y, e1, _, e3⟩ := I.ex
  obtain ⟨l1, l2, l3⟩ := last_spec v (mulL_hpg hN ha)
  have hn : n = 0 := by have := I.n0; omega
  subst hn
  have hx : x = N := by rw [Int.zero_mul] at e3; omega
  subst hx
  exact rec_unique v I.ho l1 I.ro l2 (alike_trans e1 (alike_trans (alike_symm (mul_alike _ a)) l3))
theorem tms_zero {h : Hp} (v : VH h) {a : List Int} (ha : Hpg h a) {n : Int} (hn : 0 ≤ n) : tmsL h a n = zeroL h ↔ Tk h a n := by
  unfold tmsL zeroL
  rw [last_alike v (mulL_hpg hn ha) (nil0_hpg h)]
  exact ⟨fun e => alike_trans (alike_symm (mul_alike _ a)) (alike_trans e (nil0_alike h)), fun e => alike_trans (mul_alike _ a) (alike_trans e (alike_symm (nil0_alike h)))⟩
noncomputable def sumN (h : Hp) (a : List Int) : Nat → List Int
  | 0 => a
  | 1 => a
  | n + 2 => stl h (addL h (sumN h a (n + 1)) a)
theorem sumN_succ {h : Hp} {a : List Int} {n : Nat} (hn : 1 ≤ n) : sumN h a (n + 1) = stl h (addL h (sumN h a n) a) := by
  obtain ⟨k, rfl⟩ : ∃ k, n = k + 1 := ⟨n - 1, by omega⟩
  rfl
theorem sumN_spec {h : Hp} (v : VH h) {a : List Int} (ha : Hpg h a) (ra : Rec h a) : ∀ n : Nat, 1 ≤ n → Hpg h (sumN h a n) ∧ Rec h (sumN h a n) ∧ h.sp.Alike (ata (sumN h a n)) fun i => (n : Int) * ata a i
  | 0, hn => by omega
  | 1, _ => ⟨ha, ra, alike_congr (fun _ _ => rfl) (fun i _ => by simp [sumN]) (alike_refl (ata a))⟩
  | n + 2, _ => by
    obtain ⟨h1, h2, h3⟩ := sumN_spec v ha ra (n + 1) (by omega)
    have e : h.sp.Alike (ata a) fun i => (1 : Int) * ata a i := alike_congr (fun _ _ => rfl) (fun i _ => by simp) (alike_refl (ata a))
    refine ⟨stl_hpg v (addL_hpg h1 ha), rec_add v h1 h2 ha, ?_⟩
    have := add_stl_alike v h1 ha h3 e
    exact alike_congr (fun _ _ => rfl) (fun i _ => by (try dsimp only); congr 1) this
theorem sumN_len {h : Hp} (v : VH h) {a : List Int} (ha : Hpg h a) (ra : Rec h a) {n : Nat} (hn : 1 ≤ n) : (sumN h a n).length = h.ground.length := (sumN_spec v ha ra n hn).1.len
theorem sumN_zero {h : Hp} (v : VH h) {a : List Int} (ha : Hpg h a) (ra : Rec h a) {n : Nat} (hn : 1 ≤ n) : sumN h a n = zeroL h ↔ Tk h a n := by
  obtain ⟨h1, h2, h3⟩ := sumN_spec v ha ra n hn
  constructor
  · intro e; rw [e] at h3; exact alike_trans (alike_symm h3) (zero_alike v)
  · intro e; exact rec_unique v h1 (zero_hpg v) h2 (zero_rec v) (alike_trans h3 (alike_trans e (alike_symm (zero_alike v))))
theorem turn_at {h : Hp} (v : VH h) {a : List Int} {n : Nat} (h1 : 1 ≤ n) (h2 : n ≤ turnN h a) (e : Tk h a n) : n = turnN h a := by
  have := (turn_spec v a).2.2.2 n h1
  rcases Nat.lt_or_ge n (turnN h a) with h3 | h3
  · exact absurd e (this h3)
  · omega
theorem turn_not {h : Hp} (v : VH h) {a : List Int} {n : Nat} (h2 : n ≤ turnN h a) (e : ¬ Tk h a n) : n < turnN h a := by
  rcases Nat.lt_or_ge n (turnN h a) with h3 | h3
  · exact h3
  · have : n = turnN h a := by omega
    rw [this] at e
    exact absurd (turn_spec v a).2.2.1 e
theorem turn_tmod {h : Hp} (v : VH h) (a : List Int) : (cntD h).tmod (turnN h a) = 0 := Int.tmod_eq_zero_of_dvd (turn_dvd v a)
theorem lasts_yes {h : Hp} {a : List Int} (e : calmD h a = true) : lastsD h a = decide ((burnL h a).length = h.ground.length) := by unfold lastsD; rw [e]; rfl
theorem f62z (h : Hp) (v : VH h) : ACallsF Try.prog 62 [dHp h, ints (nil0 h)] (.one (rI (zeroL h))) := f62 h v (nil0 h) (nil0_half h)
noncomputable def backR (h : Hp) (a : List Int) : List Int × Int := if checkE h [a] ≠ 0 then ([], checkE h [a]) else if lastsD h a then (lastL h (lessL h a), 0) else ([], 8)
theorem back_bad {h : Hp} {a : List Int} (e : checkE h [a] ≠ 0) : backR h a = ([], checkE h [a]) := by unfold backR; rw [if_pos e]
theorem back_no {h : Hp} {a : List Int} (e : checkE h [a] = 0) (l : lastsD h a = false) : backR h a = ([], 8) := by unfold backR; rw [if_neg (by simp [e]), if_neg (by simp [l])]
theorem back_ok {h : Hp} {a : List Int} (e : checkE h [a] = 0) (l : lastsD h a = true) : backR h a = (lastL h (lessL h a), 0) := by unfold backR; rw [if_neg (by simp [e]), if_pos l]
noncomputable def turnsR (h : Hp) (a : List Int) : Int × Int := if checkE h [a] ≠ 0 then (0, checkE h [a]) else if lastsD h a then (turnN h a, 0) else (0, 8)
theorem turns_bad {h : Hp} {a : List Int} (e : checkE h [a] ≠ 0) : turnsR h a = (0, checkE h [a]) := by unfold turnsR; rw [if_pos e]
theorem turns_no {h : Hp} {a : List Int} (e : checkE h [a] = 0) (l : lastsD h a = false) : turnsR h a = (0, 8) := by unfold turnsR; rw [if_neg (by simp [e]), if_neg (by simp [l])]
theorem turns_ok {h : Hp} {a : List Int} (e : checkE h [a] = 0) (l : lastsD h a = true) : turnsR h a = ((turnN h a : Int), 0) := by unfold turnsR; rw [if_neg (by simp [e]), if_pos l]


theorem f26 (h : Hp) (a : List Int) : ACallsF Try.prog 26 [dHp h, ints a] (.many [rI (burnR h a).1, .dv (i64 (burnR h a).2)]) := by
  refine callsF_of Try.func26 rfl rfl (by rw [Try.ntmps26]; simp) fun cx hP hn hg => ?_
  rw [Try.ntmps26] at hn
  rw [startF_lk, none_mkM]
  simp only [List.nil_append, List.append_nil, List.cons_append, zipSV, Nat.reduceAdd]
  refine awp_seq ?_
  refine rg ?_
  refine qp m_box ?_
  refine qv m_as ?_
  refine qv m_as ?_
  show AWp cx _ _ _
  refine awp_seq ?_
  refine awp_seq ?_
  refine rg ?_
  refine qv (m_ldpa sz25 ag25) ?_
  refine qv m_mv ?_
  refine qr (m_bsl el22 ze23 sz23) ?_
  refine qqF (f61 h [a] (by simp)) ?_ (ha := (args_cons data_dv (args_cons (data_rows (L := [a]) (by simp only [mkM, reduceIte, Nat.reduceEqDiff] <;> rfl) trivial rfl (fun _ => trivial)) args_nil)))
  refine qv m_as ?_
  show AWp cx _ _ _
  refine awp_seq ?_
  refine rg ?_
  refine qv m_mv ?_
  refine qv m_neq ?_
  show AWp cx _ _ _
  refine cd (fun hc0 => ?_) (fun hc0 => ?_)
  · skip
    have he0 : checkE h [a] ≠ 0 := by simpa using hc0
    refine awp_seq ?_
    refine rg ?_
    refine qv m_mv ?_
    refine qv m_as ?_
    refine qv m_as ?_
    show AWp cx _ _ _
    refine awp_ret ?_
    exact x2 (hr := (rN_ (by rw [burn_bad he0]))) (hr' := (rI_ (by rw [burn_bad he0])))
  · skip
    have he0 : checkE h [a] = 0 := by simpa using hc0
    obtain ⟨v, h30⟩ := check1 he0
    have h5 := v.n5
    have hal := h30.len
    have f := Fit.of30 h30
    refine awp_skip ?_
    show AWp cx _ _ _
    refine awp_seq ?_
    refine rg ?_
    refine qv (m_ldpa sz25 ag25) ?_
    refine qv m_mv ?_
    refine qqF (f68 h v a h30) ?_
    refine qv m_as ?_
    refine qv m_as ?_
    show AWp cx _ _ _
    refine awp_ret ?_
    exact x2 (hr := (rR_ (by rw [burn_ok he0]))) (hr' := (rI_ (by rw [burn_ok he0])))

theorem f53 (h : Hp) (a : List Int) : ACallsF Try.prog 53 [dHp h, ints a] (.many [rI (burnR h a).1, .dv (i64 (burnR h a).2)]) := by
  refine callsF_of Try.func53 rfl rfl (by rw [Try.ntmps53]; simp) fun cx hP hn hg => ?_
  rw [Try.ntmps53] at hn
  rw [startF_lk, none_mkM]
  simp only [List.nil_append, List.append_nil, List.cons_append, zipSV, Nat.reduceAdd]
  refine awp_seq ?_
  refine rg ?_
  refine qp m_box ?_
  refine qv m_as ?_
  refine qv m_as ?_
  show AWp cx _ _ _
  refine awp_seq ?_
  refine rg ?_
  refine qv (m_ldpa sz25 ag25) ?_
  refine qv m_mv ?_
  refine qr (m_bsl el22 ze23 sz23) ?_
  refine qqF (f76 h [a] (by simp)) ?_ (ha := (args_cons data_dv (args_cons (data_rows (L := [a]) (by simp only [mkM, reduceIte, Nat.reduceEqDiff] <;> rfl) trivial rfl (fun _ => trivial)) args_nil)))
  refine qv m_as ?_
  show AWp cx _ _ _
  refine awp_seq ?_
  refine awp_seq ?_
  refine rg ?_
  refine qv m_mv ?_
  refine qv m_neq ?_
  show AWp cx _ _ _
  refine cd (fun hc0 => ?_) (fun hc0 => ?_)
  · skip
    have he0 : checkE h [a] ≠ 0 := by simpa using hc0
    refine awp_seq ?_
    refine rg ?_
    refine qv m_mv ?_
    refine qv m_as ?_
    refine qv m_as ?_
    show AWp cx _ _ _
    refine awp_ret ?_
    exact x2 (hr := (rN_ (by rw [burn_bad he0]))) (hr' := (rI_ (by rw [burn_bad he0])))
  · skip
    have he0 : checkE h [a] = 0 := by simpa using hc0
    obtain ⟨v, h30⟩ := check1 he0
    have h5 := v.n5
    have hal := h30.len
    have f := Fit.of30 h30
    refine awp_skip ?_
    show AWp cx _ _ _
    refine awp_seq ?_
    refine rg ?_
    refine qv (m_ldpa sz25 ag25) ?_
    refine qv m_mv ?_
    refine qqF (f91 h v a h30) ?_
    refine qv m_as ?_
    refine qv m_as ?_
    show AWp cx _ _ _
    refine awp_ret ?_
    exact x2 (hr := (rR_ (by rw [burn_ok he0]))) (hr' := (rI_ (by rw [burn_ok he0])))

theorem f89 (h : Hp) (v : VH h) (a : List Int) (x : Hpg30 h a) : ACallsF Try.prog 89 [dHp h, ints a] (.one (.dv (.bool (lastsD h a)))) := by
  have hal := x.len
  refine callsF_of Try.func89 rfl rfl (by rw [Try.ntmps89]; simp) fun cx hP hn hg => ?_
  rw [Try.ntmps89] at hn
  rw [startF_lk, none_mkM]
  simp only [List.nil_append, List.append_nil, List.cons_append, zipSV, Nat.reduceAdd]
  refine awp_seq ?_
  refine rg ?_
  refine qp m_box ?_
  refine qv m_as ?_
  show AWp cx _ _ _
  refine awp_seq ?_
  refine rg ?_
  refine qv (m_ldpa sz25 ag25) ?_
  refine qv m_mv ?_
  refine qqF (f85 h v a hal) ?_
  refine qv m_lss ?_
  refine qx m_mv (fun hg9 => ?_) (fun hg9 => ?_)
  · skip
    refine qv (m_ldpa sz25 ag25) ?_
    refine qv m_mv ?_
    refine qqF (f68 h v a x) ?_
    refine qv (m_lenR il23) ?_
    refine qv m_mv ?_
    refine qv (m_len il23) ?_
    refine qv m_eql ?_
    refine qv m_pk ?_
    refine qv m_as ?_
    show AWp cx _ _ _
    refine awp_ret ?_
    exact x1 (hr := (rD_ (by first | rw [lasts_calm hg9] | (rw [lasts_yes hg9, ← hal]; congr 1; rw [Bool.eq_iff_iff]; simp; omega) | (rw [lasts_yes hg9, ← hal]; congr 1; rw [Bool.eq_iff_iff]; simp))))
  · skip
    refine qk ?_
    refine qk ?_
    refine qk ?_
    refine qk ?_
    refine qk ?_
    refine qk ?_
    refine qk ?_
    refine qv m_pk ?_
    refine qv m_as ?_
    show AWp cx _ _ _
    refine awp_ret ?_
    exact x1 (hr := (rD_ (by first | rw [lasts_calm hg9] | (rw [lasts_yes hg9, ← hal]; congr 1; rw [Bool.eq_iff_iff]; simp; omega) | (rw [lasts_yes hg9, ← hal]; congr 1; rw [Bool.eq_iff_iff]; simp))))

theorem f90 (h : Hp) (v : VH h) (a : List Int) (x : Hpg30 h a) : ACallsF Try.prog 90 [dHp h, ints a] (.one (.dv (.bool (lastsD h a)))) := by
  have hal := x.len
  refine callsF_of Try.func90 rfl rfl (by rw [Try.ntmps90]; simp) fun cx hP hn hg => ?_
  rw [Try.ntmps90] at hn
  rw [startF_lk, none_mkM]
  simp only [List.nil_append, List.append_nil, List.cons_append, zipSV, Nat.reduceAdd]
  refine awp_seq ?_
  refine rg ?_
  refine qp m_box ?_
  refine qv m_as ?_
  show AWp cx _ _ _
  refine awp_seq ?_
  refine rg ?_
  refine qv (m_ldpa sz25 ag25) ?_
  refine qv m_mv ?_
  refine qqF (f86 h v a hal) ?_
  refine qx m_mv (fun hg8 => ?_) (fun hg8 => ?_)
  · skip
    refine qv (m_ldpa sz25 ag25) ?_
    refine qv m_mv ?_
    refine qqF (f91 h v a x) ?_
    refine qv (m_lenR il23) ?_
    refine qv m_mv ?_
    refine qv (m_len il23) ?_
    refine qv m_eql ?_
    refine qv m_pk ?_
    refine qv m_as ?_
    show AWp cx _ _ _
    refine awp_ret ?_
    exact x1 (hr := (rD_ (by first | rw [lasts_calm hg8] | (rw [lasts_yes hg8, ← hal]; congr 1; rw [Bool.eq_iff_iff]; simp; omega) | (rw [lasts_yes hg8, ← hal]; congr 1; rw [Bool.eq_iff_iff]; simp))))
  · skip
    refine qk ?_
    refine qk ?_
    refine qk ?_
    refine qk ?_
    refine qk ?_
    refine qk ?_
    refine qk ?_
    refine qv m_pk ?_
    refine qv m_as ?_
    show AWp cx _ _ _
    refine awp_ret ?_
    exact x1 (hr := (rD_ (by first | rw [lasts_calm hg8] | (rw [lasts_yes hg8, ← hal]; congr 1; rw [Bool.eq_iff_iff]; simp; omega) | (rw [lasts_yes hg8, ← hal]; congr 1; rw [Bool.eq_iff_iff]; simp))))

theorem f51 (h : Hp) (a : List Int) : ACallsF Try.prog 51 [dHp h, ints a] (.many [.dv (.bool (lastsR h a).1), .dv (i64 (lastsR h a).2)]) := by
  refine callsF_of Try.func51 rfl rfl (by rw [Try.ntmps51]; simp) fun cx hP hn hg => ?_
  rw [Try.ntmps51] at hn
  rw [startF_lk, none_mkM]
  simp only [List.nil_append, List.append_nil, List.cons_append, zipSV, Nat.reduceAdd]
  refine awp_seq ?_
  refine rg ?_
  refine qp m_box ?_
  refine qv m_as ?_
  refine qv m_as ?_
  show AWp cx _ _ _
  refine awp_seq ?_
  refine awp_seq ?_
  refine rg ?_
  refine qv (m_ldpa sz25 ag25) ?_
  refine qv m_mv ?_
  refine qr (m_bsl el22 ze23 sz23) ?_
  refine qqF (f61 h [a] (by simp)) ?_ (ha := (args_cons data_dv (args_cons (data_rows (L := [a]) (by simp only [mkM, reduceIte, Nat.reduceEqDiff] <;> rfl) trivial rfl (fun _ => trivial)) args_nil)))
  refine qv m_as ?_
  show AWp cx _ _ _
  refine awp_seq ?_
  refine rg ?_
  refine qv m_mv ?_
  refine qv m_neq ?_
  show AWp cx _ _ _
  refine cd (fun hc0 => ?_) (fun hc0 => ?_)
  · skip
    have he0 : checkE h [a] ≠ 0 := by simpa using hc0
    refine awp_seq ?_
    refine rg ?_
    refine qv m_mv ?_
    refine qv m_as ?_
    refine qv m_as ?_
    show AWp cx _ _ _
    refine awp_ret ?_
    exact x2 (hr := (rB_ (by rw [lasts_bad he0]))) (hr' := (rI_ (by rw [lasts_bad he0])))
  · skip
    have he0 : checkE h [a] = 0 := by simpa using hc0
    obtain ⟨v, h30⟩ := check1 he0
    have h5 := v.n5
    have hal := h30.len
    have f := Fit.of30 h30
    refine awp_skip ?_
    show AWp cx _ _ _
    refine awp_seq ?_
    refine rg ?_
    refine qv (m_ldpa sz25 ag25) ?_
    refine qv m_mv ?_
    refine qqF (f89 h v a h30) ?_
    refine qv m_as ?_
    refine qv m_as ?_
    show AWp cx _ _ _
    refine awp_ret ?_
    exact x2 (hr := (rB_ (by rw [lasts_ok he0]))) (hr' := (rI_ (by rw [lasts_ok he0])))

theorem f52 (h : Hp) (a : List Int) : ACallsF Try.prog 52 [dHp h, ints a] (.many [.dv (.bool (lastsR h a).1), .dv (i64 (lastsR h a).2)]) := by
  refine callsF_of Try.func52 rfl rfl (by rw [Try.ntmps52]; simp) fun cx hP hn hg => ?_
  rw [Try.ntmps52] at hn
  rw [startF_lk, none_mkM]
  simp only [List.nil_append, List.append_nil, List.cons_append, zipSV, Nat.reduceAdd]
  refine awp_seq ?_
  refine rg ?_
  refine qp m_box ?_
  refine qv m_as ?_
  refine qv m_as ?_
  show AWp cx _ _ _
  refine awp_seq ?_
  refine rg ?_
  refine qv (m_ldpa sz25 ag25) ?_
  refine qv m_mv ?_
  refine qr (m_bsl el22 ze23 sz23) ?_
  refine qqF (f76 h [a] (by simp)) ?_ (ha := (args_cons data_dv (args_cons (data_rows (L := [a]) (by simp only [mkM, reduceIte, Nat.reduceEqDiff] <;> rfl) trivial rfl (fun _ => trivial)) args_nil)))
  refine qv m_as ?_
  show AWp cx _ _ _
  refine awp_seq ?_
  refine awp_seq ?_
  refine rg ?_
  refine qv m_mv ?_
  refine qv m_neq ?_
  show AWp cx _ _ _
  refine cd (fun hc0 => ?_) (fun hc0 => ?_)
  · skip
    have he0 : checkE h [a] ≠ 0 := by simpa using hc0
    refine awp_seq ?_
    refine rg ?_
    refine qv m_mv ?_
    refine qv m_as ?_
    refine qv m_as ?_
    show AWp cx _ _ _
    refine awp_ret ?_
    exact x2 (hr := (rB_ (by rw [lasts_bad he0]))) (hr' := (rI_ (by rw [lasts_bad he0])))
  · skip
    have he0 : checkE h [a] = 0 := by simpa using hc0
    obtain ⟨v, h30⟩ := check1 he0
    have h5 := v.n5
    have hal := h30.len
    have f := Fit.of30 h30
    refine awp_skip ?_
    show AWp cx _ _ _
    refine awp_seq ?_
    refine rg ?_
    refine qv (m_ldpa sz25 ag25) ?_
    refine qv m_mv ?_
    refine qqF (f90 h v a h30) ?_
    refine qv m_as ?_
    refine qv m_as ?_
    show AWp cx _ _ _
    refine awp_ret ?_
    exact x2 (hr := (rB_ (by rw [lasts_ok he0]))) (hr' := (rI_ (by rw [lasts_ok he0])))

set_option maxHeartbeats 4000000 in
theorem f54 (h : Hp) (a : List Int) : ACallsF Try.prog 54 [dHp h, ints a] (.many [rI (backR h a).1, .dv (i64 (backR h a).2)]) := by
  refine callsF_of Try.func54 rfl rfl (by rw [Try.ntmps54]; simp) fun cx hP hn hg => ?_
  rw [Try.ntmps54] at hn
  rw [startF_lk, none_mkM]
  simp only [List.nil_append, List.append_nil, List.cons_append, zipSV, Nat.reduceAdd]
  refine awp_seq ?_
  refine rg ?_
  refine qp m_box ?_
  refine qv m_as ?_
  refine qv m_as ?_
  show AWp cx _ _ _
  refine awp_seq ?_
  refine awp_seq ?_
  refine rg ?_
  refine qv (m_ldpa sz25 ag25) ?_
  refine qv m_mv ?_
  refine qr (m_bsl el22 ze23 sz23) ?_
  refine qqF (f61 h [a] (by simp)) ?_ (ha := (args_cons data_dv (args_cons (data_rows (L := [a]) (by simp only [mkM, reduceIte, Nat.reduceEqDiff] <;> rfl) trivial rfl (fun _ => trivial)) args_nil)))
  refine qv m_as ?_
  show AWp cx _ _ _
  refine awp_seq ?_
  refine rg ?_
  refine qv m_mv ?_
  refine qv m_neq ?_
  show AWp cx _ _ _
  refine cd (fun hc0 => ?_) (fun hc0 => ?_)
  · skip
    have he0 : checkE h [a] ≠ 0 := by simpa using hc0
    refine awp_seq ?_
    refine rg ?_
    refine qv m_mv ?_
    refine qv m_as ?_
    refine qv m_as ?_
    show AWp cx _ _ _
    refine awp_ret ?_
    exact x2 (hr := (rN_ (by rw [back_bad he0]))) (hr' := (rI_ (by rw [back_bad he0])))
  · skip
    have he0 : checkE h [a] = 0 := by simpa using hc0
    obtain ⟨v, h30⟩ := check1 he0
    have h5 := v.n5
    have hal := h30.len
    have f := Fit.of30 h30
    refine awp_skip ?_
    show AWp cx _ _ _
    refine awp_seq ?_
    refine awp_seq ?_
    refine rg ?_
    refine qv (m_ldpa sz25 ag25) ?_
    refine qv m_mv ?_
    refine qqF (f89 h v a h30) ?_
    refine qv m_not ?_
    show AWp cx _ _ _
    refine cd (fun hc1 => ?_) (fun hc1 => ?_)
    · skip
      have hno : lastsD h a = false := by simpa using hc1
      refine awp_seq ?_
      refine rg ?_
      refine qv m_as ?_
      refine qv m_as ?_
      show AWp cx _ _ _
      refine awp_ret ?_
      exact x2 (hr := (rN_ (by rw [back_no he0 hno]))) (hr' := (rI_ (by rw [back_no he0 hno])))
    · skip
      have hya : lastsD h a = true := by simpa using hc1
      have hrc := (lastsD_iff v).1 hya
      refine awp_skip ?_
      show AWp cx _ _ _
      refine awp_seq ?_
      refine rg ?_
      refine qv (m_ldpa sz25 ag25) ?_
      refine qqF (f92 h v) ?_
      refine qv m_as ?_
      show AWp cx _ _ _
      refine awp_seq ?_
      refine awp_seq ?_
      refine rg ?_
      refine qv m_mv ?_
      refine qv (m_len il23) ?_
      refine qv m_mv ?_
      show AWp cx _ _ _
      refine awp_block ?_
      have hz := lessQ_zero (h := h) (a := a)
      have hnl := nothing_len (h := h)
      refine awp_loop (ι := Nat) (fun q => ⟨lk [(2, .pt 2 0 0), (7, .sl 7 0 0 h.ground.length), (23, .dv (ints (a))), (24, .dv (i64 ((a.length : Int)))), (25, .dv (i64 (q : Nat)))], mkM [(2, 0, some ⟨[.dv (.list ((h.links).map ints)), .dv (ints (h.ground))], 0, 25, 0, false⟩), (7, 0, some (rowI (lessQ h a q)))]⟩) (fun q => q ≤ h.ground.length) (fun q => h.ground.length - q) 0 (by simp) (tl [(2, 2), (7, 22)] (hF := by simp [FLe, svLe, lk, mkM, isLive, tauL, ← hz, hnl]) (hM := by simp [MLe, blkLe, svLe, svLes, lk, mkM, isLive, tauL, svLes_ints, svLes_self, isDvs, isDvs_map, isDvs_app, isDvs_take, isDvs_set, isDvs_repl, ← hz, hnl])) ?_
      intro q hφ0
      refine awp_seq ?_
      refine rg ?_
      refine qv m_lss ?_
      show AWp cx _ _ _
      refine awp_seq ?_
      refine cd (fun hc2 => ?_) (fun hc2 => ?_)
      · try simp at hc2
        refine awp_skip ?_
        show AWp cx _ _ _
        refine awp_seq ?_
        refine awp_block ?_
        refine awp_seq ?_
        have hq : q < h.ground.length := by omega
        have hga := ata_get (a := a) (i := q) (by omega)
        have hgq := ata_get (a := lessQ h a q) (i := q) (by rw [lessQ_len]; exact hq)
        have hkl := lessQ_len (h := h) (a := a) (q := q)
        have hsc := lessQ_succ (a := a) hq
        have hat := lessQ_at (a := a) (q := q) hq
        rw [if_neg (Nat.lt_irrefl q)] at hat
        have hnb := nothing_big v hq
        have hab := h30.bd q hq
        have hl1 := v.lim1 hq
        refine rg ?_
        refine qv m_mv ?_
        first | refine qv (m_ixN el23 sz3) ?_ | refine qv (m_ix el23 sz3) ?_
        refine qv (m_ld sz3 ag3) ?_
        refine qv m_as ?_
        refine qv m_as ?_
        show AWp cx _ _ _
        refine rd mixed ?_
        refine zv m_mv ?_
        refine zv m_mv ?_
        refine zv (m_ixR el23 sz3) ?_
        refine zv (m_ldI sz3 ag3 (hq := hgq)) ?_
        refine zv m_mv ?_
        refine zv m_mv ?_
        refine zv (m_ixR el23 sz3) ?_
        refine zv (m_ldI sz3 ag3 (hq := hgq)) ?_
        refine zv m_mv ?_
        refine zv m_sub ?_
        refine zv m_add ?_
        refine zv (m_ixR el23 sz3) ?_
        first | refine zs (m_stI sz3) ?_ | refine zs (m_st sz3) ?_
        refine ⟨by rfl, ?_⟩
        show AWp cx _ _ _
        refine rg ?_
        refine qv m_add ?_
        refine qv m_mv ?_
        exact ⟨q + 1, hq, (by simp only; omega), (tl [(2, 2), (7, 7)] (hF := by simp [FLe, svLe, lk, mkM, isLive, tauL, hsc, lessQ_len]) (hM := by simp [MLe, blkLe, svLe, svLes, lk, mkM, isLive, tauL, svLes_ints, svLes_self, isDvs, isDvs_map, isDvs_app, isDvs_take, isDvs_set, isDvs_repl, hsc, lessQ_len]))⟩
      · try simp at hc2
        obtain rfl : q = h.ground.length := by omega
        have hlf := lessQ_full (h := h) (a := a)
        rw [hlf]
        have hll := less_len (h := h) (a := a)
        refine awp_exit ?_
        show AWp cx _ _ _
        refine awp_seq ?_
        refine rg ?_
        refine qv (m_ldpa sz25 ag25) ?_
        refine qv m_mv ?_
        refine qqF (f62 h v (lessL h a) (less_half v h30.hpg hrc.1)) ?_ (ha := (args_cons data_dv (args_cons (data_ints (L := lessL h a) (by simp only [mkM, reduceIte, Nat.reduceEqDiff] <;> rfl) trivial (by first | exact less_len | rfl | omega | (simp; done) | (simp; omega)) rfl rfl (fun _ => trivial)) args_nil)))
        refine qv m_as ?_
        refine qv m_as ?_
        show AWp cx _ _ _
        refine awp_ret ?_
        exact x2 (hr := (rR_ (by rw [back_ok he0 hya]))) (hr' := (rI_ (by rw [back_ok he0 hya])))

set_option maxHeartbeats 4000000 in
theorem f93 (h : Hp) (v : VH h) (a : List Int) (x : Half h a) (N : Int) (hN0 : 0 ≤ N) (hNb : N ≤ 1000000000) : ACallsF Try.prog 93 [dHp h, ints a, i64 N] (.one (rI (tmsL h a N))) := by
  have hzl := (zero_hpg v).len
  refine callsF_of Try.func93 rfl rfl (by rw [Try.ntmps93]; simp) fun cx hP hn hg => ?_
  rw [Try.ntmps93] at hn
  rw [startF_lk, none_mkM]
  simp only [List.nil_append, List.append_nil, List.cons_append, zipSV, Nat.reduceAdd]
  refine awp_seq ?_
  refine rg ?_
  refine qp m_box ?_
  refine qv m_as ?_
  show AWp cx _ _ _
  refine awp_seq ?_
  refine rg ?_
  refine qv (m_ldpa sz25 ag25) ?_
  refine qqF (f74 h v) ?_
  refine qv m_mv ?_
  refine qv m_as ?_
  refine qv m_as ?_
  show AWp cx _ _ _
  refine awp_seq ?_
  refine awp_block ?_
  refine awp_loop (ι := (List Int × List Int) × Int) (fun s => ⟨lk [(2, .dv (i64 s.2)), (3, .pt 3 0 0), (7, .sl 7 0 0 h.ground.length), (8, .dv (ints s.1.2))], mkM [(3, 0, some ⟨[.dv (.list ((h.links).map ints)), .dv (ints (h.ground))], 0, 25, 0, false⟩), (7, 0, some (rowI s.1.1))]⟩) (fun s => TInv h a N s.1.1 s.1.2 s.2 ∧ s.2 ≤ 1000000000) (fun s => s.2.toNat) ((zeroL h, a), N) ⟨TInv.start v x hN0, hNb⟩ (tl [(3, 3), (7, 10)] (hF := by simp [FLe, svLe, lk, mkM, isLive, tauL, hzl]) (hM := by simp [MLe, blkLe, svLe, svLes, lk, mkM, isLive, tauL, svLes_ints, svLes_self, isDvs, isDvs_map, isDvs_app, isDvs_take, isDvs_set, isDvs_repl, hzl])) ?_
  intro ⟨⟨o, p⟩, n⟩ hφ0
  dsimp only at hφ0 ⊢
  have hol := hφ0.1.ho.len
  have hn0 := hφ0.1.n0
  refine awp_seq ?_
  refine awp_seq ?_
  refine rg ?_
  refine qv m_mv ?_
  refine qv m_gtr ?_
  show AWp cx _ _ _
  refine cd (fun hc0 => ?_) (fun hc0 => ?_)
  · skip
    have hnp : 0 < n := by simpa using hc0
    have hh1 : n.tmod 2 = n % 2 := Int.tmod_eq_emod_of_nonneg hn0
    have hh2 : n.tdiv 2 = n / 2 := Int.tdiv_eq_ediv_of_nonneg hn0
    have hsl := stl_len (h := h) (a := addL h p p)
    refine awp_skip ?_
    show AWp cx _ _ _
    refine awp_block ?_
    refine awp_seq ?_
    refine awp_seq ?_
    refine rg ?_
    refine qv m_mv ?_
    refine qv m_rem ?_
    refine qv m_eql ?_
    show AWp cx _ _ _
    refine cd (fun hc1 => ?_) (fun hc1 => ?_)
    · skip
      have hod : n.tmod 2 = 1 := by simpa using hc1
      refine rg ?_
      refine qv (m_ldpa sz25 ag25) ?_
      refine qv m_mv ?_
      refine qv m_mv ?_
      refine qqF (f77 h v o p (Half.ofRec v hφ0.1.ho hφ0.1.ro) hφ0.1.hp) ?_ (ha := (args_cons data_dv (args_cons (data_ints (L := o) (by simp only [mkM, reduceIte, Nat.reduceEqDiff] <;> rfl) trivial (by first | rfl | omega | (simp; done) | (simp; omega)) rfl rfl (fun _ => trivial)) (args_cons data_dv args_nil))))
      refine qv m_as ?_
      show AWp cx _ _ _
      refine awp_seq ?_
      refine rg ?_
      refine qv (m_ldpa sz25 ag25) ?_
      refine qv m_mv ?_
      refine qv m_mv ?_
      refine qqF (f77 h v p p hφ0.1.hp hφ0.1.hp) ?_
      refine qv m_as ?_
      show AWp cx _ _ _
      refine awp_frz 24 ?_
      refine awp_sink 8 (d := ints (stl h (addL h p p))) (data_ints (L := stl h (addL h p p)) (by simp only [mkM, reduceIte, Nat.reduceEqDiff] <;> rfl) rfl rfl rfl rfl (fun _ => trivial)) hg ?_
      refine rg ?_
      refine qv m_mv ?_
      refine qv m_quo ?_
      refine qv m_as ?_
      exact ⟨((stl h (addL h o p), stl h (addL h p p)), n / 2), ⟨hφ0.1.odd v (by omega), by omega⟩, (by simp only; omega), (tl [(3, 3), (7, 20)] (hF := by simp [FLe, svLe, lk, mkM, isLive, tauL, hsl, hh2, stl_len]) (hM := by simp [MLe, blkLe, svLe, svLes, lk, mkM, isLive, tauL, svLes_ints, svLes_self, isDvs, isDvs_map, isDvs_app, isDvs_take, isDvs_set, isDvs_repl, hsl, hh2, stl_len]))⟩
    · skip
      have hev : ¬ n.tmod 2 = 1 := by simpa using hc1
      refine awp_skip ?_
      show AWp cx _ _ _
      refine awp_seq ?_
      refine rg ?_
      refine qv (m_ldpa sz25 ag25) ?_
      refine qv m_mv ?_
      refine qv m_mv ?_
      refine qqF (f77 h v p p hφ0.1.hp hφ0.1.hp) ?_
      refine qv m_as ?_
      show AWp cx _ _ _
      refine awp_frz 24 ?_
      refine awp_sink 8 (d := ints (stl h (addL h p p))) (data_ints (L := stl h (addL h p p)) (by simp only [mkM, reduceIte, Nat.reduceEqDiff] <;> rfl) rfl rfl rfl rfl (fun _ => trivial)) hg ?_
      refine rg ?_
      refine qv m_mv ?_
      refine qv m_quo ?_
      refine qv m_as ?_
      exact ⟨((o, stl h (addL h p p)), n / 2), ⟨hφ0.1.even v (by omega), by omega⟩, (by simp only; omega), (tl [(3, 3), (7, 7)] (hF := by simp [FLe, svLe, lk, mkM, isLive, tauL, hsl, hh2, stl_len]) (hM := by simp [MLe, blkLe, svLe, svLes, lk, mkM, isLive, tauL, svLes_ints, svLes_self, isDvs, isDvs_map, isDvs_app, isDvs_take, isDvs_set, isDvs_repl, hsl, hh2, stl_len]))⟩
  · skip
    have hnz : n ≤ 0 := by simpa using hc0
    have hdn := hφ0.1.done v x.hpg hN0 hnz
    refine awp_exit ?_
    show AWp cx _ _ _
    refine awp_seq ?_
    refine rg ?_
    refine qv m_mv ?_
    refine qv m_as ?_
    show AWp cx _ _ _
    refine awp_ret ?_
    exact x1 (hr := (rR_ hdn (hl := by omega)))

theorem f55 (h : Hp) (a : List Int) : ACallsF Try.prog 55 [dHp h, ints a] (.many [rI (backR h a).1, .dv (i64 (backR h a).2)]) := by
  refine callsF_of Try.func55 rfl rfl (by rw [Try.ntmps55]; simp) fun cx hP hn hg => ?_
  rw [Try.ntmps55] at hn
  rw [startF_lk, none_mkM]
  simp only [List.nil_append, List.append_nil, List.cons_append, zipSV, Nat.reduceAdd]
  refine awp_seq ?_
  refine rg ?_
  refine qp m_box ?_
  refine qv m_as ?_
  refine qv m_as ?_
  show AWp cx _ _ _
  refine awp_seq ?_
  refine rg ?_
  refine qv (m_ldpa sz25 ag25) ?_
  refine qv m_mv ?_
  refine qr (m_bsl el22 ze23 sz23) ?_
  refine qqF (f76 h [a] (by simp)) ?_ (ha := (args_cons data_dv (args_cons (data_rows (L := [a]) (by simp only [mkM, reduceIte, Nat.reduceEqDiff] <;> rfl) trivial rfl (fun _ => trivial)) args_nil)))
  refine qv m_as ?_
  show AWp cx _ _ _
  refine awp_seq ?_
  refine awp_seq ?_
  refine rg ?_
  refine qv m_mv ?_
  refine qv m_neq ?_
  show AWp cx _ _ _
  refine cd (fun hc0 => ?_) (fun hc0 => ?_)
  · skip
    have he0 : checkE h [a] ≠ 0 := by simpa using hc0
    refine awp_seq ?_
    refine rg ?_
    refine qv m_mv ?_
    refine qv m_as ?_
    refine qv m_as ?_
    show AWp cx _ _ _
    refine awp_ret ?_
    exact x2 (hr := (rN_ (by rw [back_bad he0]))) (hr' := (rI_ (by rw [back_bad he0])))
  · skip
    have he0 : checkE h [a] = 0 := by simpa using hc0
    obtain ⟨v, h30⟩ := check1 he0
    have h5 := v.n5
    have hal := h30.len
    have f := Fit.of30 h30
    refine awp_skip ?_
    show AWp cx _ _ _
    refine awp_seq ?_
    refine awp_seq ?_
    refine rg ?_
    refine qv (m_ldpa sz25 ag25) ?_
    refine qv m_mv ?_
    refine qqF (f90 h v a h30) ?_
    refine qv m_not ?_
    show AWp cx _ _ _
    refine cd (fun hc1 => ?_) (fun hc1 => ?_)
    · skip
      have hno : lastsD h a = false := by simpa using hc1
      refine awp_seq ?_
      refine rg ?_
      refine qv m_as ?_
      refine qv m_as ?_
      show AWp cx _ _ _
      refine awp_ret ?_
      exact x2 (hr := (rN_ (by rw [back_no he0 hno]))) (hr' := (rI_ (by rw [back_no he0 hno])))
    · skip
      have hya : lastsD h a = true := by simpa using hc1
      have hrc := (lastsD_iff v).1 hya
      have hcb := cntD_bd v
      have hcp := cntD_pos v
      have hbe := back_eq v h30.hpg hrc.1
      refine awp_skip ?_
      show AWp cx _ _ _
      refine awp_seq ?_
      refine rd mixed ?_
      refine zv (m_ldpa sz25 ag25) ?_
      refine zv m_mv ?_
      refine zv (m_ldpa sz25 ag25) ?_
      refine zqA (R := []) (f73 h v) ?_
      refine zqF (R := []) (f72m h v) ?_
      refine zv m_sub ?_
      refine zqF (R := []) (f93 h v a (Half.of30 h30) (cntD h - 1) (by omega) (by omega)) ?_
      refine zv m_as ?_
      refine zv m_as ?_
      refine ⟨by rfl, ?_⟩
      show AWp cx _ _ _
      refine awp_ret ?_
      exact x2 (hr := (rR_ (L := tmsL h a (cntD h - 1)) (by rw [back_ok he0 hya]; exact hbe))) (hr' := (rI_ (by rw [back_ok he0 hya])))

set_option maxHeartbeats 4000000 in
theorem f56 (h : Hp) (a : List Int) : ACallsF Try.prog 56 [dHp h, ints a] (.many [.dv (i64 (turnsR h a).1), .dv (i64 (turnsR h a).2)]) := by
  refine callsF_of Try.func56 rfl rfl (by rw [Try.ntmps56]; simp) fun cx hP hn hg => ?_
  rw [Try.ntmps56] at hn
  rw [startF_lk, none_mkM]
  simp only [List.nil_append, List.append_nil, List.cons_append, zipSV, Nat.reduceAdd]
  refine awp_seq ?_
  refine rg ?_
  refine qp m_box ?_
  refine qv m_as ?_
  refine qv m_as ?_
  show AWp cx _ _ _
  refine awp_seq ?_
  refine awp_seq ?_
  refine rg ?_
  refine qv (m_ldpa sz25 ag25) ?_
  refine qv m_mv ?_
  refine qr (m_bsl el22 ze23 sz23) ?_
  refine qqF (f61 h [a] (by simp)) ?_ (ha := (args_cons data_dv (args_cons (data_rows (L := [a]) (by simp only [mkM, reduceIte, Nat.reduceEqDiff] <;> rfl) trivial rfl (fun _ => trivial)) args_nil)))
  refine qv m_as ?_
  show AWp cx _ _ _
  refine awp_seq ?_
  refine rg ?_
  refine qv m_mv ?_
  refine qv m_neq ?_
  show AWp cx _ _ _
  refine cd (fun hc0 => ?_) (fun hc0 => ?_)
  · skip
    have he0 : checkE h [a] ≠ 0 := by simpa using hc0
    refine awp_seq ?_
    refine rg ?_
    refine qv m_mv ?_
    refine qv m_as ?_
    refine qv m_as ?_
    show AWp cx _ _ _
    refine awp_ret ?_
    exact x2 (hr := (rI_ (by rw [turns_bad he0]))) (hr' := (rI_ (by rw [turns_bad he0])))
  · skip
    have he0 : checkE h [a] = 0 := by simpa using hc0
    obtain ⟨v, h30⟩ := check1 he0
    have h5 := v.n5
    have hal := h30.len
    have f := Fit.of30 h30
    refine awp_skip ?_
    show AWp cx _ _ _
    refine awp_seq ?_
    refine awp_seq ?_
    refine rg ?_
    refine qv (m_ldpa sz25 ag25) ?_
    refine qv m_mv ?_
    refine qqF (f89 h v a h30) ?_
    refine qv m_not ?_
    show AWp cx _ _ _
    refine cd (fun hc1 => ?_) (fun hc1 => ?_)
    · skip
      have hno : lastsD h a = false := by simpa using hc1
      refine awp_seq ?_
      refine rg ?_
      refine qv m_as ?_
      refine qv m_as ?_
      show AWp cx _ _ _
      refine awp_ret ?_
      exact x2 (hr := (rI_ (by rw [turns_no he0 hno]))) (hr' := (rI_ (by rw [turns_no he0 hno])))
    · skip
      have hya : lastsD h a = true := by simpa using hc1
      have hrc := (lastsD_iff v).1 hya
      have htn := turn_spec v a
      have hcb := cntD_bd v
      have hzl := (zero_hpg v).len
      refine awp_skip ?_
      show AWp cx _ _ _
      refine awp_seq ?_
      refine rd mixed ?_
      refine zv (m_ldpa sz25 ag25) ?_
      refine zv m_mv ?_
      refine zv (m_len il23) ?_
      refine zr (m_mkI el23 ze3 sz3 by3) ?_
      refine zqF (R := [24]) (f62z h v) ?_ (ha := (args_cons data_dv (args_cons (data_ints (L := nil0 h) (by first | (simp [rst, mkM]; done) | (simp [rst, mkM] <;> rfl)) trivial (by simp [nil0, hal]) rfl (by simp [nil0, hal]) (fun _ => trivial)) args_nil)))
      refine zv m_as ?_
      refine ⟨by rfl, ?_⟩
      show AWp cx _ _ _
      refine awp_seq ?_
      refine rg ?_
      refine qv m_as ?_
      show AWp cx _ _ _
      refine awp_seq ?_
      refine awp_seq ?_
      refine rg ?_
      refine qv m_mv ?_
      refine qv m_as ?_
      show AWp cx _ _ _
      refine awp_block ?_
      refine awp_loop (ι := Nat) (fun n => ⟨lk [(1, .dv (ints (a))), (2, .pt 2 0 0), (7, .sl 7 0 0 h.ground.length), (8, .dv (i64 (n : Nat))), (9, .dv (ints (sumN h a n)))], mkM [(2, 0, some ⟨[.dv (.list ((h.links).map ints)), .dv (ints (h.ground))], 0, 25, 0, false⟩), (7, 0, some (rowI (zeroL h)))]⟩) (fun n => 1 ≤ n ∧ n ≤ turnN h a) (fun n => turnN h a - n) 1 ⟨Nat.le_refl _, htn.1⟩ (tl [(2, 2), (7, 25)] (hF := by simp [FLe, svLe, lk, mkM, isLive, tauL, sumN, hzl]) (hM := by simp [MLe, blkLe, svLe, svLes, lk, mkM, isLive, tauL, svLes_ints, svLes_self, isDvs, isDvs_map, isDvs_app, isDvs_take, isDvs_set, isDvs_repl, sumN, hzl])) ?_
      intro n hφ0
      refine awp_seq ?_
      refine awp_seq ?_
      have hsl := sumN_len v h30.hpg hrc hφ0.1
      have hsz := sumN_zero v h30.hpg hrc hφ0.1
      refine rg ?_
      refine qv m_mv ?_
      refine qv m_mv ?_
      refine qqF (f63 (sumN h a n) (zeroL h) (by omega)) ?_ (ha := (args_cons data_dv (args_cons (data_ints (L := zeroL h) (by simp only [mkM, reduceIte, Nat.reduceEqDiff] <;> rfl) trivial (by first | exact (zero_hpg v).len | rfl | omega | (simp; done) | (simp; omega)) rfl rfl (fun _ => trivial)) args_nil)))
      refine qv m_not ?_
      show AWp cx _ _ _
      refine cd (fun hc2 => ?_) (fun hc2 => ?_)
      · skip
        have hnt : ¬ Tk h a n := fun hh => by rw [hsz.2 hh] at hc2; simp at hc2
        have hlt := turn_not v hφ0.2 hnt
        have hss := sumN_succ (h := h) (a := a) hφ0.1
        have hso := sumN_spec v h30.hpg hrc n hφ0.1
        refine awp_skip ?_
        show AWp cx _ _ _
        refine awp_seq ?_
        refine awp_block ?_
        refine rg ?_
        refine qv (m_ldpa sz25 ag25) ?_
        refine qv m_mv ?_
        refine qv m_mv ?_
        refine qqF (f75 h v (sumN h a n) a (Half.ofRec v hso.1 hso.2.1) (Half.of30 h30)) ?_
        refine qv m_as ?_
        show AWp cx _ _ _
        refine awp_frz 36 ?_
        refine awp_sink 9 (d := ints (stl h (addL h (sumN h a n) a))) (data_ints (L := stl h (addL h (sumN h a n) a)) (by simp only [mkM, reduceIte, Nat.reduceEqDiff] <;> rfl) rfl rfl rfl rfl (fun _ => trivial)) hg ?_
        refine rg ?_
        refine qv m_mv ?_
        refine qv m_add ?_
        refine qv m_as ?_
        exact ⟨n + 1, ⟨by omega, by omega⟩, (by simp only; omega), (tl [(2, 2), (7, 7)] (hF := by simp [FLe, svLe, lk, mkM, isLive, tauL, hss]) (hM := by simp [MLe, blkLe, svLe, svLes, lk, mkM, isLive, tauL, svLes_ints, svLes_self, isDvs, isDvs_map, isDvs_app, isDvs_take, isDvs_set, isDvs_repl, hss]))⟩
      · skip
        have hty : Tk h a n := hsz.1 (by simpa using hc2)
        obtain rfl := turn_at v hφ0.1 hφ0.2 hty
        refine awp_exit ?_
        show AWp cx _ _ _
        refine awp_seq ?_
        refine rg ?_
        refine qv m_mv ?_
        refine qv m_as ?_
        refine qv m_as ?_
        show AWp cx _ _ _
        refine awp_ret ?_
        exact x2 (hr := (rI_ (by rw [turns_ok he0 hya]))) (hr' := (rI_ (by rw [turns_ok he0 hya])))

set_option maxHeartbeats 4000000 in
theorem f57 (h : Hp) (a : List Int) : ACallsF Try.prog 57 [dHp h, ints a] (.many [.dv (i64 (turnsR h a).1), .dv (i64 (turnsR h a).2)]) := by
  refine callsF_of Try.func57 rfl rfl (by rw [Try.ntmps57]; simp) fun cx hP hn hg => ?_
  rw [Try.ntmps57] at hn
  rw [startF_lk, none_mkM]
  simp only [List.nil_append, List.append_nil, List.cons_append, zipSV, Nat.reduceAdd]
  refine awp_seq ?_
  refine rg ?_
  refine qp m_box ?_
  refine qv m_as ?_
  refine qv m_as ?_
  show AWp cx _ _ _
  refine awp_seq ?_
  refine rg ?_
  refine qv (m_ldpa sz25 ag25) ?_
  refine qv m_mv ?_
  refine qr (m_bsl el22 ze23 sz23) ?_
  refine qqF (f76 h [a] (by simp)) ?_ (ha := (args_cons data_dv (args_cons (data_rows (L := [a]) (by simp only [mkM, reduceIte, Nat.reduceEqDiff] <;> rfl) trivial rfl (fun _ => trivial)) args_nil)))
  refine qv m_as ?_
  show AWp cx _ _ _
  refine awp_seq ?_
  refine awp_seq ?_
  refine rg ?_
  refine qv m_mv ?_
  refine qv m_neq ?_
  show AWp cx _ _ _
  refine cd (fun hc0 => ?_) (fun hc0 => ?_)
  · skip
    have he0 : checkE h [a] ≠ 0 := by simpa using hc0
    refine awp_seq ?_
    refine rg ?_
    refine qv m_mv ?_
    refine qv m_as ?_
    refine qv m_as ?_
    show AWp cx _ _ _
    refine awp_ret ?_
    exact x2 (hr := (rI_ (by rw [turns_bad he0]))) (hr' := (rI_ (by rw [turns_bad he0])))
  · skip
    have he0 : checkE h [a] = 0 := by simpa using hc0
    obtain ⟨v, h30⟩ := check1 he0
    have h5 := v.n5
    have hal := h30.len
    have f := Fit.of30 h30
    refine awp_skip ?_
    show AWp cx _ _ _
    refine awp_seq ?_
    refine awp_seq ?_
    refine rg ?_
    refine qv (m_ldpa sz25 ag25) ?_
    refine qv m_mv ?_
    refine qqF (f90 h v a h30) ?_
    refine qv m_not ?_
    show AWp cx _ _ _
    refine cd (fun hc1 => ?_) (fun hc1 => ?_)
    · skip
      have hno : lastsD h a = false := by simpa using hc1
      refine awp_seq ?_
      refine rg ?_
      refine qv m_as ?_
      refine qv m_as ?_
      show AWp cx _ _ _
      refine awp_ret ?_
      exact x2 (hr := (rI_ (by rw [turns_no he0 hno]))) (hr' := (rI_ (by rw [turns_no he0 hno])))
    · skip
      have hya : lastsD h a = true := by simpa using hc1
      have hrc := (lastsD_iff v).1 hya
      have htn := turn_spec v a
      have hcb := cntD_bd v
      have hcp := cntD_pos v
      have hzl := (zero_hpg v).len
      have htm := turn_tmod v a
      refine awp_skip ?_
      show AWp cx _ _ _
      refine awp_seq ?_
      refine rd mixed ?_
      refine zv (m_ldpa sz25 ag25) ?_
      refine zqA (R := []) (f73 h v) ?_
      refine zqF (R := []) (f72m h v) ?_
      refine zv (m_ldpa sz25 ag25) ?_
      refine zqF (R := []) (f74 h v) ?_
      refine zv m_as ?_
      refine zv m_as ?_
      refine ⟨by rfl, ?_⟩
      show AWp cx _ _ _
      refine awp_seq ?_
      refine awp_seq ?_
      refine rg ?_
      refine qv m_as ?_
      show AWp cx _ _ _
      refine awp_block ?_
      refine awp_loop (ι := Nat) (fun n => ⟨lk [(1, .dv (ints (a))), (2, .pt 2 0 0), (7, .dv (i64 (cntD h))), (8, .sl 8 0 0 h.ground.length), (9, .dv (i64 (n : Nat)))], mkM [(2, 0, some ⟨[.dv (.list ((h.links).map ints)), .dv (ints (h.ground))], 0, 25, 0, false⟩), (8, 0, some (rowI (zeroL h)))]⟩) (fun n => 1 ≤ n ∧ n ≤ turnN h a) (fun n => turnN h a - n) 1 ⟨Nat.le_refl _, htn.1⟩ (tl [(2, 2), (8, 25)] (hF := by simp [FLe, svLe, lk, mkM, isLive, tauL, hzl]) (hM := by simp [MLe, blkLe, svLe, svLes, lk, mkM, isLive, tauL, svLes_ints, svLes_self, isDvs, isDvs_map, isDvs_app, isDvs_take, isDvs_set, isDvs_repl, hzl])) ?_
      intro n hφ0
      refine awp_seq ?_
      refine awp_seq ?_
      refine rg ?_
      refine qv m_mv ?_
      refine qv m_mv ?_
      refine qv m_lss ?_
      show AWp cx _ _ _
      refine cd (fun hc2 => ?_) (fun hc2 => ?_)
      · try simp at hc2
        have htz := tms_zero v h30.hpg (n := (n : Int)) (by omega)
        have htl : (tmsL h a (n : Int)).length = h.ground.length := last_len
        refine awp_skip ?_
        show AWp cx _ _ _
        refine awp_seq ?_
        refine awp_block ?_
        refine awp_seq ?_
        refine rg ?_
        refine qv m_mv ?_
        refine qv m_mv ?_
        refine qv m_rem ?_
        refine qv m_eql ?_
        refine qx m_mv (fun hg35 => ?_) (fun hg35 => ?_)
        · skip
          refine qv (m_ldpa sz25 ag25) ?_
          refine qv m_mv ?_
          refine qv m_mv ?_
          refine qqF (f93 h v a (Half.of30 h30) (n : Int) (by omega) (by omega)) ?_
          refine qv m_mv ?_
          refine qqF (f27 (tmsL h a (n : Int)) (zeroL h) (by omega)) ?_ (ha := (args_cons (data_ints (L := tmsL h a (n : Int)) (by simp only [mkM, reduceIte, Nat.reduceEqDiff] <;> rfl) trivial (by first | exact last_len | rfl | omega | (simp; done) | (simp; omega)) rfl rfl (fun _ => trivial)) (args_cons (data_ints (L := zeroL h) (by simp only [mkM, reduceIte, Nat.reduceEqDiff] <;> rfl) trivial (by first | exact (zero_hpg v).len | rfl | omega | (simp; done) | (simp; omega)) rfl rfl (fun _ => trivial)) args_nil)))
          have hlt0 : (((cntD h).tmod (n : Int)) == 0) = false → n < turnN h a := fun hg => turn_not v hφ0.2 (fun hh => by have hx := turn_at v hφ0.1 hφ0.2 hh; rw [hx] at hg; simp [htm] at hg)
          refine qv m_pk ?_
          show AWp cx _ _ _
          refine cd (fun hc3 => ?_) (fun hc3 => ?_)
          · skip
            have hty : Tk h a n := htz.1 (by simpa using hc3)
            obtain rfl := turn_at v hφ0.1 hφ0.2 hty
            refine awp_seq ?_
            refine rg ?_
            refine qv m_mv ?_
            refine qv m_as ?_
            refine qv m_as ?_
            show AWp cx _ _ _
            refine awp_ret ?_
            exact x2 (hr := (rI_ (by rw [turns_ok he0 hya]))) (hr' := (rI_ (by rw [turns_ok he0 hya])))
          · skip
            have hlt : n < turnN h a := turn_not v hφ0.2 (fun hh => by rw [htz.2 hh] at hc3; simp at hc3)
            refine awp_skip ?_
            show AWp cx _ _ _
            refine rg ?_
            refine qv m_mv ?_
            refine qv m_add ?_
            refine qv m_as ?_
            exact ⟨n + 1, ⟨by omega, by first | omega | (have := hlt0 hg35; omega)⟩, (by first | (simp only; omega) | (have := hlt0 hg35; simp only; omega)), (tl [(2, 2), (8, 8)])⟩
        · skip
          refine qk ?_
          refine qk ?_
          refine qk ?_
          refine qk ?_
          refine qk ?_
          refine qk ?_
          have hlt0 : (((cntD h).tmod (n : Int)) == 0) = false → n < turnN h a := fun hg => turn_not v hφ0.2 (fun hh => by have hx := turn_at v hφ0.1 hφ0.2 hh; rw [hx] at hg; simp [htm] at hg)
          refine qv m_pk ?_
          show AWp cx _ _ _
          refine cdF (hb := by first | rfl | simp | simp_all) (ht := ?_)
          refine awp_skip ?_
          show AWp cx _ _ _
          refine rg ?_
          refine qv m_mv ?_
          refine qv m_add ?_
          refine qv m_as ?_
          exact ⟨n + 1, ⟨by omega, by first | omega | (have := hlt0 hg35; omega)⟩, (by first | (simp only; omega) | (have := hlt0 hg35; simp only; omega)), (tl [(2, 2), (8, 8)])⟩
      · try simp at hc2
        have hta : (turnN h a : Int) = cntD h := by omega
        refine awp_exit ?_
        show AWp cx _ _ _
        refine awp_seq ?_
        refine rg ?_
        refine qv m_mv ?_
        refine qv m_as ?_
        refine qv m_as ?_
        show AWp cx _ _ _
        refine awp_ret ?_
        exact x2 (hr := (rI_ (by rw [turns_ok he0 hya, hta]))) (hr' := (rI_ (by rw [turns_ok he0 hya])))

end Go.Ab.Try
