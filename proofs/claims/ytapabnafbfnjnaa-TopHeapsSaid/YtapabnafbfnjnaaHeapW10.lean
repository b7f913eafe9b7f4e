/- The functions of the heap laws, part W10. The walks are written by wip/gen/gw.py. -/
import Derived.Test.YtapabnafbfnjnaaHeap21
import Derived.Test.YtapabnafbfnjnaaHeap19
import Derived.Test.YtapabnafbfnjnaaHeapLA
import Derived.Test.YtapabnafbfnjnaaHeapPT
import Derived.Test.YtapabnafbfnjnaaHeapFacts
import Derived.Test.YtapabnafbfnjnaaHeapPT
set_option linter.all false
namespace Go.Ab.Try
open Go Go.Ab Go.Proofs Go.Ab.Heap

theorem clF_len {h : Hp} (n5 : h.ground.length ≤ 5) : ∀ {l out : List Int} {k : Int}, out.length = h.ground.length → (clF h out k l).1.length < 1000000
  | [], out, k, ho => by simp only [clF]; omega
  | i :: l, out, k, ho => by
    simp only [clF]
    split
    · simp
    · exact clF_len n5 topL_len
theorem listR_len {h : Hp} {a l : List Int} : (listR h a l).1.length < 1000000 := by
  unfold listR
  split
  · simp
  · rename_i e
    obtain ⟨v, x⟩ := check1 (Classical.not_not.1 e)
    split
    · simp
    · split
      · exact clF_len v.n5 x.len
      · simp
theorem spF_at {h : Hp} (v : VH h) {a s : List Int} {j : Nat} (hj : j < h.ground.length) : ∀ q, q ≤ h.ground.length → ata (spF h a s q) j = ata a j - h.sp.lap (fun k => if k < q then ata s k else 0) j
  | 0, _ => by
    have : (fun k => if k < 0 then ata s k else 0) = fun _ => (0 : Int) := by funext k; rw [if_neg (by omega)]
    rw [this, lap_zero]; simp [spF]
  | q + 1, hq => by
    have ih := spF_at v (a := a) (s := s) hj q (by omega)
    simp only [spF]
    rw [topL_lft v (by omega) hj]
    unfold SP.lft
    rw [ih]
    have e : (fun k => if k < q + 1 then ata s k else 0) = fun k => (if k < q then ata s k else 0) + (if k = q then ata s q else 0) := by
      funext k
      rcases Nat.lt_trichotomy k q with c | c | c
      · rw [if_pos (by omega), if_pos c, if_neg (by omega)]; omega
      · subst c; rw [if_pos (by omega), if_neg (by omega), if_pos rfl]; omega
      · rw [if_neg (by omega), if_neg (by omega), if_neg (by omega)]; rfl
    rw [e, lap_add]; omega
theorem spF_stl {h : Hp} (v : VH h) {a : List Int} (ha : Hpg h a) : spF h a (stlT h a) h.ground.length = stl h a := by
  refine ata_ext (n := h.ground.length) (spF_len ha.len _) stl_len fun i hi => ?_
  rw [spF_at v hi _ (Nat.le_refl _), (stl_spec v ha).1.eq i hi]
  unfold SP.lft
  rw [lap_congr (s := h.sp) (u := fun k => if k < h.ground.length then ata (stlT h a) k else 0) (v := ata (stlT h a)) (fun j hj => if_pos hj) hi]
theorem stlT_bd {h : Hp} (v : VH h) {a : List Int} (x : Hpg30 h a) : ∀ i, i < h.ground.length → 0 ≤ ata (stlT h a) i ∧ ata (stlT h a) i ≤ 750 := fun i hi => by
  have h5 := v.n5
  have hs : sm (ata a) h.ground.length ≤ 150 := by
    have h1 := sm_le (f := ata a) (g := fun _ => 30) (n := h.ground.length) fun i hi => (x.bd i hi).2
    rw [sm_const] at h1; omega
  have := (stl_spec v x.hpg).1.bd v x.hpg.nn hs i hi
  omega
def cntI (l : List Int) (j : Nat) : Int := ((l.filter fun x => x == (j : Int)).length : Int)
theorem cntI_nil (j : Nat) : cntI [] j = 0 := rfl
theorem cntI_cons (x : Int) (l : List Int) (j : Nat) : cntI (x :: l) j = (if (j : Int) = x then 1 else 0) + cntI l j := by
  unfold cntI
  rw [List.filter_cons]
  by_cases c : x = (j : Int)
  · rw [if_pos (by simp [c]), if_pos c.symm, List.length_cons]; omega
  · rw [if_neg (by simp [c]), if_neg (Ne.symm c)]; omega
theorem clF_sinv {h : Hp} (v : VH h) {a : List Int} : ∀ {l out t : List Int} {k : Int}, SInv h a out t → (∀ x ∈ l, 0 ≤ x ∧ x < (h.ground.length : Int)) → (clF h out k l).2.2 = 0 → ∃ t', SInv h a (clF h out k l).1 t' ∧ ∀ j, j < h.ground.length → ata t' j = ata t j + cntI l j
  | [], out, t, k, I, _, _ => ⟨t, I, fun j _ => by rw [cntI_nil]; omega⟩
  | x :: l, out, t, k, I, hl, e => by
    obtain ⟨h0, h1⟩ := hl x (List.mem_cons_self ..)
    simp only [clF] at e ⊢
    split at e
    · simp at e
    · rename_i hc
      rw [if_neg hc]
      obtain ⟨t', I', ht⟩ := clF_sinv v (I.step v (i := x.toNat) (by omega) (k := 1) (by omega) (by omega)) (fun y hy => hl y (List.mem_cons_of_mem _ hy)) e
      refine ⟨t', I', fun j hj => ?_⟩
      rw [ht j hj, ata_set (by rw [I.lt]; omega), cntI_cons]
      by_cases c : j = x.toNat
      · subst c; rw [if_pos rfl, if_pos (by omega)]; omega
      · rw [if_neg c, if_neg (by omega)]; omega
/-- What holds behind a list of topples that can be. -/
structure AnyO (h : Hp) (a l o : List Int) : Prop where
  v : VH h
  val : validate h = 0
  x : Hpg30 h a
  nl : l.length ≤ 200
  rng : ∀ j, j < l.length → 0 ≤ ata l j ∧ ata l j < (h.ground.length : Int)
  oh : Hpg h o
  same : stl h a = stl h o
  cnt : ∀ j, j < h.ground.length → ata (stlT h a) j = cntI l j + ata (stlT h o) j
theorem any_order {h : Hp} {a l : List Int} (e : (listR h a l).2.2 = 0) : AnyO h a l (listR h a l).1 := by
  have hc : checkE h [a] = 0 := by
    unfold listR at e
    split at e
    · rename_i c; exact absurd e c
    · rename_i c; exact Classical.not_not.1 c
  obtain ⟨v, x⟩ := check1 hc
  have hn : ¬ 200 < l.length := fun c => by rw [list_long hc c] at e; exact absurd e (by decide)
  have hr : ∀ j, j < l.length → inR (ata l j) 0 ((a.length : Int) - 1) = true := fun j hj => by
    cases q : inR (ata l j) 0 ((a.length : Int) - 1) with
    | true => rfl
    | false => rw [list_none hc hn (ata_get hj) q] at e; exact absurd e (by decide)
  rw [list_ok hc hn hr] at e ⊢
  have hrr : ∀ j, j < l.length → 0 ≤ ata l j ∧ ata l j < (h.ground.length : Int) := fun j hj => by
    have := hr j hj
    simp only [inR, Bool.and_eq_true, decide_eq_true_eq] at this
    rw [x.len] at this; omega
  have hm : ∀ y ∈ l, 0 ≤ y ∧ y < (h.ground.length : Int) := fun y hy => by
    obtain ⟨j, hj, rfl⟩ := List.getElem_of_mem hy
    have h1 := hrr j hj
    have h2 := ata_get hj
    rw [List.getElem?_eq_getElem hj] at h2
    rw [Option.some.inj h2]; exact h1
  obtain ⟨t, I, ht⟩ := clF_sinv v (SInv.start x.hpg.len x.hpg.nn) hm e
  have oh : Hpg h (clF h a 0 l).1 := ⟨I.lc, I.c0⟩
  obtain ⟨s1, s2⟩ := stl_first v oh I.le I.eq
  refine ⟨v, val_of_check hc, x, by omega, hrr, oh, s1, fun j hj => ?_⟩
  rw [s2 j hj, ht j hj, ata_repl hj]; omega
theorem AnyO.stlT0 {h : Hp} {a l o : List Int} (A : AnyO h a l o) {j : Nat} (hj : j < h.ground.length) : 0 ≤ ata (stlT h o) j := (stl_spec A.v A.oh).1.le.1 j hj
/-- How often the heaps of the first q of a list occur. -/
def oftQ (n : Nat) (l : List Int) (q : Nat) : List Int := (List.range n).map fun j => cntI (l.take q) j
theorem oftQ_len {n : Nat} {l : List Int} {q : Nat} : (oftQ n l q).length = n := by simp [oftQ]
theorem oftQ_zero {n : Nat} {l : List Int} : oftQ n l 0 = List.replicate n 0 := by
  refine ata_ext (n := n) oftQ_len (by simp) fun i hi => ?_
  rw [ata_repl hi]; unfold oftQ; rw [ata_mk hi]; rfl
theorem oftQ_at {n : Nat} {l : List Int} {q j : Nat} (hj : j < n) : ata (oftQ n l q) j = cntI (l.take q) j := ata_mk hj
theorem cntI_app (a b : List Int) (j : Nat) : cntI (a ++ b) j = cntI a j + cntI b j := by unfold cntI; rw [List.filter_append, List.length_append]; omega
theorem oftQ_succ {n : Nat} {l : List Int} {q x : Nat} (hx : l[q]? = some (x : Int)) (hn : x < n) : (oftQ n l q).set x (ata (oftQ n l q) x + 1) = oftQ n l (q + 1) := by
  refine ata_ext (n := n) (by simp [oftQ]) oftQ_len fun i hi => ?_
  rw [ata_set (by rw [oftQ_len]; exact hn), oftQ_at hi, oftQ_at hn, oftQ_at hi, List.take_add_one, hx]
  show _ = cntI (l.take q ++ [(x : Int)]) i
  rw [cntI_app, cntI_cons, cntI_nil]
  by_cases c : i = x
  · subst c; rw [if_pos rfl, if_pos rfl]; omega
  · rw [if_neg c, if_neg (by omega)]; omega
theorem cntI_le (l : List Int) (j : Nat) : 0 ≤ cntI l j ∧ cntI l j ≤ (l.length : Int) := by
  unfold cntI
  have := List.length_filter_le (fun x => x == (j : Int)) l
  omega


set_option maxHeartbeats 8000000 in
theorem f10 (h : Hp) (hk : h.links.length ≤ 9223372036854775807) (a l : List Int) : ACallsF Try.prog 10 [dHp h, ints a, ints l] (.one (.dv (.bool true))) := by
  refine callsF_of Try.func10 rfl rfl (by rw [Try.ntmps10]; simp) fun cx hP hn hg => ?_
  rw [Try.ntmps10] at hn
  rw [startF_lk, none_mkM]
  simp only [List.nil_append, List.append_nil, List.cons_append, zipSV, Nat.reduceAdd]
  refine awp_seq ?_
  refine rg ?_
  refine qp m_box ?_
  refine qv m_as ?_
  show AWp cx _ _ _
  refine awp_seq ?_
  refine awp_seq ?_
  refine rg ?_
  refine qv (m_ldpa sz25 ag25) ?_
  refine qv m_mv ?_
  refine qv m_mv ?_
  refine qr (m_bsl el22 ze23 sz23) ?_
  refine qqF (f21 h [a, l] (by simp) hk) ?_ (ha := (args_cons data_dv (args_cons (data_rows (L := [a, l]) (by simp only [mkM, reduceIte, Nat.reduceEqDiff] <;> rfl) trivial rfl (fun _ => trivial)) args_nil)))
  show AWp cx _ _ _
  refine cd (fun hc0 => ?_) (fun hc0 => ?_)
  · skip
    refine awp_seq ?_
    refine rg ?_
    refine qqF (f29) ?_
    refine qv m_as ?_
    show AWp cx _ _ _
    refine awp_ret ?_
    exact x1 (hr := (rB_))
  · skip
    have hlg : longB h [a, l] = false := by simpa using hc0
    have hla := long_args hlg
    have hal4 : a.length ≤ 400 := hla.1 a (by simp)
    have hll4 : l.length ≤ 400 := hla.1 l (by simp)
    refine awp_skip ?_
    show AWp cx _ _ _
    refine awp_seq ?_
    refine rg ?_
    refine qv (m_ldpa sz25 ag25) ?_
    refine qv m_mv ?_
    refine qv m_mv ?_
    refine qqF (f40 h a l (by omega)) ?_
    refine qv m_mv ?_
    refine qv m_ext ?_
    refine qv m_ext ?_
    refine qv m_ext ?_
    refine qv m_as ?_
    refine qv m_as ?_
    refine qv m_as ?_
    show AWp cx _ _ _
    refine awp_seq ?_
    refine rg ?_
    refine qv (m_ldpa sz25 ag25) ?_
    refine qv m_mv ?_
    refine qqF (f25 h a) ?_ (hS := (res_rrdd (d2 := 1039) rfl (by (simp only [mkM, reduceIte, Nat.reduceEqDiff] <;> rfl)) (by (simp only [mkM, reduceIte, Nat.reduceEqDiff] <;> rfl))))
    refine qv m_mv ?_
    refine qv m_ext ?_
    refine qv m_ext ?_
    refine qv m_ext ?_
    refine qv m_ext ?_
    refine qv m_as ?_
    refine qv m_as ?_
    refine qv m_as ?_
    refine qv m_as ?_
    show AWp cx _ _ _
    refine awp_seq ?_
    refine awp_seq ?_
    refine rg ?_
    refine qv m_mv ?_
    refine qv m_neq ?_
    refine qx m_mv (fun hg46 => ?_) (fun hg46 => ?_)
    · skip
      refine qk ?_
      refine qk ?_
      refine qv m_pk ?_
      show AWp cx _ _ _
      refine cdT (hb := by first | rfl | simp | simp_all) (ht := ?_)
      refine awp_seq ?_
      refine rg ?_
      refine qqF (f29) ?_
      refine qv m_as ?_
      show AWp cx _ _ _
      refine awp_ret ?_
      exact x1 (hr := (rB_))
    · skip
      refine qv m_mv ?_
      refine qv m_neq ?_
      refine qv m_pk ?_
      show AWp cx _ _ _
      refine cd (fun hc1 => ?_) (fun hc1 => ?_)
      · skip
        refine awp_seq ?_
        refine rg ?_
        refine qqF (f29) ?_
        refine qv m_as ?_
        show AWp cx _ _ _
        refine awp_ret ?_
        exact x1 (hr := (rB_))
      · skip
        have he : (listR h a l).2.2 = 0 := by simpa using hg46
        have hf : (settleR h a).2.2.2 = 0 := by simpa using hc1
        have Q := any_order he
        have hsc := settle_check hf
        have hlc : (settleR h a).1 = stl h a := by rw [settle_ok hsc]
        have htc : (settleR h a).2.1 = stlT h a := by rw [settle_ok hsc]
        have hal := Q.x.len
        have h5 := Q.v.n5
        have htl := stlT_len Q.v Q.x.hpg
        have hsl := stl_len (h := h) (a := a)
        rw [hlc, htc]
        refine awp_skip ?_
        show AWp cx _ _ _
        refine awp_seq ?_
        refine awp_seq ?_
        refine rg ?_
        refine qv m_mv ?_
        refine qv (m_lenR il23) ?_
        refine qv m_mv ?_
        refine qv (m_len il23) ?_
        refine qv m_neq ?_
        refine qx m_mv (fun hg56 => ?_) (fun hg56 => ?_)
        · exact absurd hg56 (by simp [htl, hal])
        refine qv m_mv ?_
        refine qv (m_lenR il23) ?_
        refine qv m_mv ?_
        refine qv (m_len il23) ?_
        refine qv m_neq ?_
        refine qv m_pk ?_
        show AWp cx _ _ _
        refine cdF (hb := by simp [hsl, hal]) (ht := ?_)
        refine awp_skip ?_
        show AWp cx _ _ _
        refine awp_seq ?_
        refine rg ?_
        refine qv m_mv ?_
        refine qv (m_len il23) ?_
        refine qr (m_mkI el23 ze3 sz3 by3) ?_
        refine qv m_as ?_
        show AWp cx _ _ _
        refine awp_seq ?_
        refine awp_seq ?_
        refine rg ?_
        refine qv m_as ?_
        show AWp cx _ _ _
        refine awp_block ?_
        refine awp_loop (ι := Nat) (fun q => ⟨lk [(2, .dv (ints (l))), (3, .pt 3 0 0), (7, .sl 32 0 0 ((listR h a l).1).length), (10, .sl 39 0 0 (stl h a).length), (11, .sl 1039 0 0 (stlT h a).length), (14, .sl 14 0 0 h.ground.length), (15, .dv (i64 (q : Nat)))], mkM [(3, 0, some ⟨[.dv (.list ((h.links).map ints)), .dv (ints (h.ground))], 0, 25, 0, false⟩), (32, 0, some (rowI ((listR h a l).1))), (39, 0, some (rowI (stl h a))), (1039, 0, some (rowI (stlT h a))), (14, 0, some (rowI (oftQ h.ground.length l q)))]⟩) (fun q => q ≤ l.length) (fun q => l.length - q) 0 (by simp) (tl [(3, 3), (32, 32), (39, 39), (1039, 1039), (14, 65)] (hF := by simp [FLe, svLe, lk, mkM, isLive, tauL, oftQ_zero, hal]) (hM := by simp [MLe, blkLe, svLe, svLes, lk, mkM, isLive, tauL, svLes_ints, svLes_self, isDvs, isDvs_map, isDvs_app, isDvs_take, isDvs_set, isDvs_repl, oftQ_zero, hal])) ?_
        intro q hφ0
        refine awp_seq ?_
        refine awp_seq ?_
        refine rg ?_
        refine qv m_mv ?_
        refine qv m_mv ?_
        refine qv (m_len il23) ?_
        refine qv m_lss ?_
        show AWp cx _ _ _
        refine cd (fun hc3 => ?_) (fun hc3 => ?_)
        · try simp at hc3
          refine awp_skip ?_
          show AWp cx _ _ _
          refine awp_seq ?_
          refine awp_block ?_
          refine awp_seq ?_
          refine awp_seq ?_
          have hq : q < l.length := by omega
          have hgq := ata_get (a := l) (i := q) hq
          obtain ⟨r0, r1⟩ := Q.rng q hq
          obtain ⟨x, hx⟩ : ∃ x : Nat, ata l q = (x : Int) := ⟨(ata l q).toNat, by omega⟩
          rw [hx] at hgq
          have hxn : x < h.ground.length := by omega
          have hol := oftQ_len (n := h.ground.length) (l := l) (q := q)
          have hgo := ata_get (a := oftQ h.ground.length l q) (i := x) (by omega)
          have hos := oftQ_succ hgq hxn
          have hcl := cntI_le (l.take q) x
          have hoa := oftQ_at (n := h.ground.length) (l := l) (q := q) hxn
          have htl2 := List.length_take_le q l
          refine rg ?_
          refine qv m_mv ?_
          refine qv m_mv ?_
          first | refine qv (m_ixN el23 sz3) ?_ | refine qv (m_ix el23 sz3) ?_
          refine qv (m_ld sz3 ag3) ?_
          refine qv m_lss ?_
          refine qx m_mv (fun hg77 => ?_) (fun hg77 => ?_)
          · exact absurd hg77 (by rw [decide_eq_true_eq]; omega)
          refine qv m_mv ?_
          refine qv m_mv ?_
          first | refine qv (m_ixN el23 sz3) ?_ | refine qv (m_ix el23 sz3) ?_
          refine qv (m_ld sz3 ag3) ?_
          refine qv m_mv ?_
          refine qv (m_lenR il23) ?_
          refine qv m_geq ?_
          refine qv m_pk ?_
          show AWp cx _ _ _
          refine cdF (hb := by first | (simp; done) | (simp; omega)) (ht := ?_)
          refine awp_skip ?_
          show AWp cx _ _ _
          refine rg ?_
          refine qv m_mv ?_
          refine qv m_mv ?_
          refine qv m_mv ?_
          first | refine qv (m_ixN el23 sz3) ?_ | refine qv (m_ix el23 sz3) ?_
          refine qv (m_ld sz3 ag3) ?_
          refine qv (m_ixR el23 sz3) ?_
          refine qv (m_ldI sz3 ag3 (hq := hgo)) ?_
          refine qv m_add ?_
          refine qv (m_ixR el23 sz3) ?_
          refine qs (m_stI sz3) ?_
          show AWp cx _ _ _
          refine rg ?_
          refine qv m_mv ?_
          refine qv m_add ?_
          refine qv m_as ?_
          exact ⟨q + 1, (by omega), (by simp only; omega), (tl [(3, 3), (32, 32), (39, 39), (1039, 1039), (14, 14)] (hF := by simp [FLe, svLe, lk, mkM, isLive, tauL, hos, oftQ_len]) (hM := by simp [MLe, blkLe, svLe, svLes, lk, mkM, isLive, tauL, svLes_ints, svLes_self, isDvs, isDvs_map, isDvs_app, isDvs_take, isDvs_set, isDvs_repl, hos, oftQ_len]))⟩
        · try simp at hc3
          obtain rfl : q = l.length := by omega
          have hol := oftQ_len (n := h.ground.length) (l := l) (q := l.length)
          refine awp_exit ?_
          show AWp cx _ _ _
          refine awp_seq ?_
          refine awp_seq ?_
          refine rg ?_
          refine qv m_as ?_
          show AWp cx _ _ _
          refine awp_block ?_
          refine awp_loop (ι := Nat) (fun j => ⟨lk [(3, .pt 3 0 0), (7, .sl 32 0 0 ((listR h a l).1).length), (10, .sl 39 0 0 (stl h a).length), (11, .sl 1039 0 0 (stlT h a).length), (14, .sl 14 0 0 h.ground.length), (16, .dv (i64 (j : Nat)))], mkM [(3, 0, some ⟨[.dv (.list ((h.links).map ints)), .dv (ints (h.ground))], 0, 25, 0, false⟩), (32, 0, some (rowI ((listR h a l).1))), (39, 0, some (rowI (stl h a))), (1039, 0, some (rowI (stlT h a))), (14, 0, some (rowI (oftQ h.ground.length l l.length)))]⟩) (fun j => j ≤ h.ground.length) (fun j => h.ground.length - j) 0 (by simp) (tl [(3, 3), (32, 32), (39, 39), (1039, 1039), (14, 14)]) ?_
          intro j hφ1
          refine awp_seq ?_
          refine awp_seq ?_
          refine rg ?_
          refine qv m_mv ?_
          refine qv m_mv ?_
          refine qv (m_lenR il23) ?_
          refine qv m_lss ?_
          show AWp cx _ _ _
          refine cd (fun hc5 => ?_) (fun hc5 => ?_)
          · try simp at hc5
            refine awp_skip ?_
            show AWp cx _ _ _
            refine awp_seq ?_
            refine awp_block ?_
            refine awp_seq ?_
            have hj : j < h.ground.length := by omega
            have hgo1 := ata_get (a := oftQ h.ground.length l l.length) (i := j) (by omega)
            have hgt1 := ata_get (a := stlT h a) (i := j) (by omega)
            have hcj : ata (oftQ h.ground.length l l.length) j = cntI l j := by rw [oftQ_at hj, List.take_length]
            have hct := Q.cnt j hj
            have h0t := Q.stlT0 hj
            refine rd mixed ?_
            refine zv m_mv ?_
            refine zv m_mv ?_
            refine zv (m_ixR el23 sz3) ?_
            refine zv (m_ldI sz3 ag3 (hq := hgo1)) ?_
            refine zv m_mv ?_
            refine zv m_mv ?_
            refine zv (m_ixR el23 sz3) ?_
            refine zv (m_ldI sz3 ag3 (hq := hgt1)) ?_
            refine zv m_gtr ?_
            refine ⟨by rfl, ?_⟩
            show AWp cx _ _ _
            refine cdF (hb := by first | (simp; done) | (simp; omega)) (ht := ?_)
            refine awp_skip ?_
            show AWp cx _ _ _
            refine rg ?_
            refine qv m_mv ?_
            refine qv m_add ?_
            refine qv m_as ?_
            exact ⟨j + 1, (by omega), (by simp only; omega), (tl [(3, 3), (32, 32), (39, 39), (1039, 1039), (14, 14)])⟩
          · try simp at hc5
            obtain rfl : j = h.ground.length := by omega
            refine awp_exit ?_
            show AWp cx _ _ _
            refine awp_seq ?_
            refine rg ?_
            refine qv (m_ldpa sz25 ag25) ?_
            refine qv m_mv ?_
            refine qqF (f25 h (listR h a l).1) ?_ (ha := (args_cons data_dv (args_cons (data_ints (L := (listR h a l).1) (by simp only [mkM, reduceIte, Nat.reduceEqDiff] <;> rfl) trivial (by first | rfl | omega | (simp; done) | (simp; omega)) rfl rfl (fun _ => trivial)) args_nil))) (hS := (res_rrdd (d2 := 1113) rfl (by (simp only [mkM, reduceIte, Nat.reduceEqDiff] <;> rfl)) (by (simp only [mkM, reduceIte, Nat.reduceEqDiff] <;> rfl))))
            refine qv m_mv ?_
            refine qv m_ext ?_
            refine qv m_ext ?_
            refine qv m_ext ?_
            refine qv m_ext ?_
            refine qv m_as ?_
            refine qv m_as ?_
            refine qv m_as ?_
            refine qv m_as ?_
            show AWp cx _ _ _
            refine awp_seq ?_
            refine awp_seq ?_
            refine rg ?_
            refine qv m_mv ?_
            refine qv m_neq ?_
            show AWp cx _ _ _
            refine cd (fun hc7 => ?_) (fun hc7 => ?_)
            · skip
              have h1 := settle_err Q.val (by simpa using hc7)
              refine awp_seq ?_
              refine rg ?_
              refine qv m_mv ?_
              refine qv m_eql ?_
              refine qx m_mv (fun hg122 => ?_) (fun hg122 => ?_)
              rotate_left
              · exact absurd hg122 (by simp [h1])
              refine qqF (f29) ?_
              refine qv m_pk ?_
              refine qv m_as ?_
              show AWp cx _ _ _
              refine awp_ret ?_
              exact x1 (hr := (rB_))
            · skip
              have hf2 : (settleR h (listR h a l).1).2.2.2 = 0 := by simpa using hc7
              have hsc2 := settle_check hf2
              have hlc2 : (settleR h (listR h a l).1).1 = stl h (listR h a l).1 := by rw [settle_ok hsc2]
              have htc2 : (settleR h (listR h a l).1).2.1 = stlT h (listR h a l).1 := by rw [settle_ok hsc2]
              have htl3 := stlT_len Q.v Q.oh
              rw [hlc2, htc2]
              refine awp_skip ?_
              show AWp cx _ _ _
              refine awp_seq ?_
              refine awp_seq ?_
              refine rg ?_
              refine qv m_mv ?_
              refine qv (m_lenR il23) ?_
              refine qv m_mv ?_
              refine qv (m_lenR il23) ?_
              refine qv m_neq ?_
              show AWp cx _ _ _
              refine cdF (hb := by simp [htl3]) (ht := ?_)
              refine awp_skip ?_
              show AWp cx _ _ _
              refine awp_seq ?_
              refine awp_seq ?_
              refine rg ?_
              refine qv m_as ?_
              show AWp cx _ _ _
              refine awp_block ?_
              refine awp_loop (ι := Nat) (fun m => ⟨lk [(10, .sl 39 0 0 (stl h a).length), (11, .sl 1039 0 0 (stlT h a).length), (14, .sl 14 0 0 h.ground.length), (17, .sl 113 0 0 (stl h (listR h a l).1).length), (18, .sl 1113 0 0 (stlT h (listR h a l).1).length), (21, .dv (i64 (m : Nat)))], mkM [(39, 0, some (rowI (stl h a))), (1039, 0, some (rowI (stlT h a))), (14, 0, some (rowI (oftQ h.ground.length l l.length))), (113, 0, some (rowI (stl h (listR h a l).1))), (1113, 0, some (rowI (stlT h (listR h a l).1)))]⟩) (fun m => m ≤ h.ground.length) (fun m => h.ground.length - m) 0 (by simp) (tl [(39, 39), (1039, 1039), (14, 14), (113, 113), (1113, 1113)]) ?_
              intro m hφ2
              refine awp_seq ?_
              refine awp_seq ?_
              refine rg ?_
              refine qv m_mv ?_
              refine qv m_mv ?_
              refine qv (m_lenR il23) ?_
              refine qv m_lss ?_
              show AWp cx _ _ _
              refine cd (fun hc9 => ?_) (fun hc9 => ?_)
              · try simp at hc9
                refine awp_skip ?_
                show AWp cx _ _ _
                refine awp_seq ?_
                refine awp_block ?_
                refine awp_seq ?_
                have hm : m < h.ground.length := by omega
                have hgo2 := ata_get (a := oftQ h.ground.length l l.length) (i := m) (by omega)
                have hgt2 := ata_get (a := stlT h a) (i := m) (by omega)
                have hgm := ata_get (a := stlT h (listR h a l).1) (i := m) (by omega)
                have hcj : ata (oftQ h.ground.length l l.length) m = cntI l m := by rw [oftQ_at hm, List.take_length]
                have hct := Q.cnt m hm
                have h0t := Q.stlT0 hm
                have hbd := stlT_bd Q.v Q.x m hm
                have hcl := cntI_le l m
                refine rd mixed ?_
                refine zv m_mv ?_
                refine zv m_mv ?_
                refine zv (m_ixR el23 sz3) ?_
                refine zv (m_ldI sz3 ag3 (hq := hgo2)) ?_
                refine zv m_mv ?_
                refine zv m_mv ?_
                refine zv (m_ixR el23 sz3) ?_
                refine zv (m_ldI sz3 ag3 (hq := hgm)) ?_
                refine zv m_add ?_
                refine zv m_mv ?_
                refine zv m_mv ?_
                refine zv (m_ixR el23 sz3) ?_
                refine zv (m_ldI sz3 ag3 (hq := hgt2)) ?_
                refine zv m_neq ?_
                refine ⟨by rfl, ?_⟩
                show AWp cx _ _ _
                refine cdF (hb := by first | (simp; done) | (simp; omega)) (ht := ?_)
                refine awp_skip ?_
                show AWp cx _ _ _
                refine rg ?_
                refine qv m_mv ?_
                refine qv m_add ?_
                refine qv m_as ?_
                exact ⟨m + 1, (by omega), (by simp only; omega), (tl [(39, 39), (1039, 1039), (14, 14), (113, 113), (1113, 1113)])⟩
              · try simp at hc9
                obtain rfl : m = h.ground.length := by omega
                refine awp_exit ?_
                show AWp cx _ _ _
                refine awp_seq ?_
                refine rg ?_
                refine qv m_mv ?_
                refine qv m_mv ?_
                refine qqF (f27 (stl h (listR h a l).1) (stl h a) (by rw [stl_len]; omega)) ?_ (ha := (args_cons (data_ints (L := (stl h (listR h a l).1)) (by simp only [mkM, reduceIte, Nat.reduceEqDiff] <;> rfl) trivial (by first | rfl | omega | (simp; done) | (simp; omega)) rfl rfl (fun _ => trivial)) (args_cons (data_ints (L := (stl h a)) (by simp only [mkM, reduceIte, Nat.reduceEqDiff] <;> rfl) trivial (by first | rfl | omega | (simp; done) | (simp; omega)) rfl rfl (fun _ => trivial)) args_nil)))
                refine qx m_mv (fun hg153 => ?_) (fun hg153 => ?_)
                rotate_left
                · exact absurd hg153 (by simp [Q.same])
                refine qqF (f29) ?_
                refine qv m_pk ?_
                refine qv m_as ?_
                show AWp cx _ _ _
                refine awp_ret ?_
                exact x1 (hr := (rB_))

end Go.Ab.Try
