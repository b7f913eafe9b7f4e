/- The functions of the heap laws, part W3. The walks are written by wip/gen/gw.py. -/
import Derived.Test.YtapabnafbfnjnaaHeapW6
import Derived.Test.YtapabnafbfnjnaaHeapW10
import Derived.Test.YtapabnafbfnjnaaHeap18
import Derived.Test.YtapabnafbfnjnaaHeapPT
import Derived.Test.YtapabnafbfnjnaaHeapFacts
import Derived.Test.YtapabnafbfnjnaaHeapPT
set_option linter.all false
namespace Go.Ab.Try
open Go Go.Ab Go.Proofs Go.Ab.Heap

theorem lastR_len {h : Hp} {a : List Int} : (lastR h a).1.length < 1000000 := by
  unfold lastR
  split
  · simp
  · rename_i e
    have v5 := (check1 (Classical.not_not.1 e)).1.n5
    have := last_len (h := h) (a := a)
    dsimp only; omega
theorem last_check {h : Hp} {a : List Int} (e : (lastR h a).2 = 0) : checkE h [a] = 0 := by
  unfold lastR at e
  split at e
  · rename_i c; exact absurd e c
  · rename_i c; exact Classical.not_not.1 c
theorem hpg30_last {h : Hp} (v : VH h) {a : List Int} (ha : Hpg h a) : Hpg30 h (lastL h a) := .ofCalm v (last_spec v ha).1 (last_spec v ha).2.1.1
theorem lasting_one {h : Hp} {a : List Int} (e : (lastR h a).2 = 0) : lastsR h (lastR h a).1 = (true, 0) ∧ alikeR h a (lastR h a).1 = (true, 0) ∧ lastR h (lastR h a).1 = ((lastR h a).1, 0) := by
  have hc := last_check e
  obtain ⟨v, x⟩ := check1 hc
  have hv := val_of_check hc
  obtain ⟨s1, s2, s3⟩ := last_spec v x.hpg
  have y := hpg30_last v x.hpg
  rw [last_ok hc]
  dsimp only
  rw [lasts_ok (check_of1 hv y), alike_ok (check_of2 hv x y), last_ok (check_of1 hv y), last_rec v s1 s2, (lastsD_iff v).2 s2, beq_self_eq_true]
  exact ⟨rfl, rfl, rfl⟩
theorem settle_script {h : Hp} {a : List Int} (e : (settleR h a).2.2.2 = 0) : csR h a (settleR h a).1 (settleR h a).2.1 = 0 ∧ sm (ata a) a.length = sm (ata (settleR h a).1) (settleR h a).1.length + (settleR h a).2.2.1 ∧ (a.length < 1000 ∧ ∀ i, i < a.length → -100000000 ≤ ata a i ∧ ata a i ≤ 100000000) ∧ (settleR h a).1.length < 1000 ∧ (∀ i, i < (settleR h a).1.length → -100000000 ≤ ata (settleR h a).1 i ∧ ata (settleR h a).1 i ≤ 100000000) ∧ 0 ≤ (settleR h a).2.2.1 ∧ (settleR h a).2.2.1 ≤ 1000 ∧ 0 ≤ sm (ata (settleR h a).1) (settleR h a).1.length ∧ sm (ata (settleR h a).1) (settleR h a).1.length ≤ 1000 := by
  have hc : checkE h [a] = 0 := by
    unfold settleR at e
    split at e
    · rename_i c; exact absurd e c
    · rename_i c; exact Classical.not_not.1 c
  rw [settle_ok hc]
  obtain ⟨v, x⟩ := check1 hc
  have h5 := v.n5
  have hv := val_of_check hc
  have x2 := hpg30_stl v x.hpg
  have hg := stl_ground v x.hpg
  have hl := x.len
  have b1 : 0 ≤ sm (ata a) h.ground.length ∧ sm (ata a) h.ground.length ≤ 150 := by
    have h1 := sm_le (f := ata a) (g := fun _ => 30) (n := h.ground.length) fun i hi => (x.bd i hi).2
    rw [sm_const] at h1
    exact ⟨sm_nonneg fun i hi => (x.bd i hi).1, by omega⟩
  have b2 : 0 ≤ sm (ata (stl h a)) h.ground.length := sm_nonneg fun i hi => (x2.bd i hi).1
  have b3 : 0 ≤ grd h (stlT h a) := sm_nonneg fun i hi => Int.mul_nonneg (v.gb i hi).1 (stlT_bd v x i hi).1
  refine ⟨?_, ?_, ⟨by omega, fun i hi => by have := x.bd i (by omega); omega⟩, ?_, ?_, b3, ?_, ?_, ?_⟩
  · refine cs_yes (check_of2 hv x x2) (by rw [stlT_len v x.hpg, x.len]) (cs_of fun i hi => ?_) ?_
    · have := stlT_bd v x i (by rw [stlT_len v x.hpg] at hi; exact hi)
      simp only [inR, Bool.and_eq_true, decide_eq_true_eq]; omega
    · dsimp only; rw [spF_stl v x.hpg]; exact beq_self_eq_true _
  · dsimp only; rw [stl_len, x.len]; omega
  · dsimp only; rw [stl_len]; omega
  · dsimp only; rw [stl_len]; intro i hi; have := x2.bd i hi; omega
  · dsimp only; omega
  · dsimp only; rw [stl_len]; omega
  · dsimp only; rw [stl_len]; omega
def H1 : Hp := ⟨[[0]], [2]⟩
theorem f20t : ACallsF Try.prog 20 [dHp H1, i64 0] (.many [.dv (i64 2), .dv (i64 0)]) := by
  have := f20 H1 0
  have e : limitR H1 0 = (2, 0) := by decide +kernel
  rwa [e] at this
theorem top_val {h : Hp} {a b : List Int} (hv : validate h ≠ 0) : (alikeR h a b).2 = validate h := by
  have hc : checkE h [a, b] = validate h := check_bad hv
  unfold alikeR
  rw [if_pos (by rw [hc]; exact hv)]; exact hc
theorem last_no {h : Hp} {a : List Int} (hv : validate h = 0) (e : (lastR h a).2 ≠ 0) : hpgB h a = false := by
  cases q : hpgB h a with
  | false => rfl
  | true => exact absurd (by rw [last_ok (check_of1 hv (hpgB_ok q))]) e
theorem top_bad {h : Hp} {a b : List Int} (e : (lastR h a).2 ≠ 0 ∨ (lastR h b).2 ≠ 0) (hv : validate h = 0) : (alikeR h a b).2 = 1 := by
  have hc : checkE h [a, b] = 1 := by
    rcases e with e | e
    · exact check_no hv (j := 0) rfl (last_no hv e)
    · exact check_no hv (j := 1) rfl (last_no hv e)
  unfold alikeR
  rw [if_pos (by rw [hc]; decide)]; exact hc
theorem top_ok {h : Hp} {a b : List Int} (e : (lastR h a).2 = 0) (f : (lastR h b).2 = 0) :
    alikeR h a b = ((lastR h a).1 == (lastR h b).1, 0) ∧ (settleR h a).2.2.2 = 0 ∧ lastR h (settleR h a).1 = ((lastR h a).1, 0) ∧ (burnR h (lastR h a).1).2 = 0 ∧ (burnR h (lastR h a).1).1.length = (lastR h a).1.length := by
  have hc := last_check e
  have hd := last_check f
  obtain ⟨v, x⟩ := check1 hc
  obtain ⟨_, y⟩ := check1 hd
  have hv := val_of_check hc
  rw [alike_ok (check_of2 hv x y), settle_ok hc, last_ok hc, last_ok hd]
  dsimp only
  rw [last_ok (check_of1 hv (hpg30_stl v x.hpg))]
  have x3 := hpg30_last v x.hpg
  obtain ⟨p1, p2, p3⟩ := last_spec v x.hpg
  have hb : burnR h (lastL h a) = (burnL h (lastL h a), 0) := by unfold burnR; rw [if_neg (by rw [check_of1 hv x3]; simp)]
  rw [hb]
  refine ⟨rfl, rfl, ?_, rfl, ?_⟩
  · refine congrArg (·, (0 : Int)) ?_
    exact ((last_alike v (stl_hpg v x.hpg) x.hpg).2 (alike_symm (stl_alike v x.hpg)))
  · dsimp only
    rw [burnL_len, (burn_all v _).2 p2.2, p1.len]


set_option maxHeartbeats 8000000 in
theorem f3 (h : Hp) (hk : h.links.length ≤ 9223372036854775807) (x : Tri) (l : List Int) : ACallsF Try.prog 3 [dHp h, dTri x, ints l] (.one (.dv (.bool true))) := by
  refine callsF_of Try.func3 rfl rfl (by rw [Try.ntmps3]; simp) fun cx hP hn hg => ?_
  rw [Try.ntmps3] at hn
  rw [startF_lk, none_mkM]
  simp only [List.nil_append, List.append_nil, List.cons_append, zipSV, Nat.reduceAdd]
  refine awp_seq ?_
  refine rg ?_
  refine qp m_box ?_
  refine qp m_box ?_
  refine qv m_as ?_
  show AWp cx _ _ _
  refine awp_seq ?_
  refine rg ?_
  refine qr (m_bsl el23 ze3 sz3) ?_
  refine qr (m_bsl el22 ze23 sz23) ?_
  refine qr (m_bsl el23 ze3 sz3) ?_
  refine qv (m_bld pl25 ze25) ?_
  refine qqF (f20t) ?_ (ha := (args_cons (data_agg (args_cons (data_cells (blk := ⟨[.sl 23 1 0 1], 1, 23, 0, true⟩) (l := [ints [0]]) (by simp only [mkM, reduceIte, Nat.reduceEqDiff] <;> rfl) trivial rfl (by simp [DV.cells]) (args_cons (data_ints (L := [0]) (by simp only [mkM, reduceIte, Nat.reduceEqDiff] <;> rfl) trivial rfl rfl rfl (fun _ => trivial)) args_nil)) (args_cons (data_ints (L := [2]) (by simp only [mkM, reduceIte, Nat.reduceEqDiff] <;> rfl) trivial rfl rfl rfl (fun _ => trivial)) args_nil))) (args_cons data_dv args_nil)))
  refine qv m_mv ?_
  refine qv m_ext ?_
  refine qv m_ext ?_
  refine qv m_as ?_
  refine qv m_as ?_
  show AWp cx _ _ _
  refine awp_seq ?_
  refine awp_seq ?_
  refine rg ?_
  refine qv m_mv ?_
  refine qv m_neq ?_
  refine qx m_mv (fun hg32 => ?_) (fun hg32 => ?_)
  · exact absurd hg32 (by simp)
  refine qv m_mv ?_
  refine qv m_neq ?_
  refine qv m_pk ?_
  show AWp cx _ _ _
  refine cdF (hb := by simp) (ht := ?_)
  refine awp_skip ?_
  show AWp cx _ _ _
  refine awp_seq ?_
  refine awp_seq ?_
  refine rg ?_
  refine qv (m_ldpa sz25 ag25) ?_
  refine qv (m_fdp fd27_0) ?_
  refine qv (m_ldp sz23 ag23) ?_
  refine qv (m_fdp fd27_1) ?_
  refine qv (m_ldp sz23 ag23) ?_
  refine qv (m_fdp fd27_2) ?_
  refine qv (m_ldp sz23 ag23) ?_
  refine qv m_mv ?_
  refine qr (m_bsl el22 ze23 sz23) ?_
  refine qqF (f21 h [x.a, x.b, x.c, l] (by simp) hk) ?_ (ha := (args_cons data_dv (args_cons (data_rows (L := [x.a, x.b, x.c, l]) (by simp only [mkM, reduceIte, Nat.reduceEqDiff] <;> rfl) trivial rfl (fun _ => trivial)) args_nil)))
  show AWp cx _ _ _
  refine cd (fun hc1 => ?_) (fun hc1 => ?_)
  · skip
    refine awp_seq ?_
    refine rg ?_
    refine qv m_as ?_
    show AWp cx _ _ _
    refine awp_ret ?_
    exact x1 (hr := (rB_))
  · skip
    have hlg : longB h [x.a, x.b, x.c, l] = false := by simpa using hc1
    have hla := long_args hlg
    refine awp_skip ?_
    show AWp cx _ _ _
    refine awp_seq ?_
    refine awp_seq ?_
    refine rg ?_
    refine qv (m_ldpa sz25 ag25) ?_
    refine qv (m_fdp fd27_0) ?_
    refine qv (m_ldp sz23 ag23) ?_
    refine qv m_mv ?_
    refine qqF (f10 h hk x.a l) ?_
    refine qv m_not ?_
    refine qx m_mv (fun hg52 => ?_) (fun hg52 => ?_)
    · exact absurd hg52 (by simp)
    refine qv (m_ldpa sz25 ag25) ?_
    refine qv (m_ldpa sz27 ag27) ?_
    refine qqF (f6 h hk x) ?_
    refine qv m_not ?_
    refine qv m_pk ?_
    show AWp cx _ _ _
    refine cdF (hb := by simp) (ht := ?_)
    refine awp_skip ?_
    show AWp cx _ _ _
    refine awp_seq ?_
    refine rg ?_
    refine qv (m_ldpa sz25 ag25) ?_
    refine qv (m_fdp fd27_0) ?_
    refine qv (m_ldp sz23 ag23) ?_
    refine qqF (f22 h x.a) ?_
    refine qv m_mv ?_
    refine qv m_ext ?_
    refine qv m_ext ?_
    refine qv m_as ?_
    refine qv m_as ?_
    show AWp cx _ _ _
    refine awp_seq ?_
    refine rg ?_
    refine qv (m_ldpa sz25 ag25) ?_
    refine qv (m_fdp fd27_1) ?_
    refine qv (m_ldp sz23 ag23) ?_
    refine qqF (f22 h x.b) ?_
    refine qv m_mv ?_
    refine qv m_ext ?_
    refine qv m_ext ?_
    refine qv m_as ?_
    refine qv m_as ?_
    show AWp cx _ _ _
    refine awp_seq ?_
    refine rg ?_
    refine qv (m_ldpa sz25 ag25) ?_
    refine qv (m_fdp fd27_0) ?_
    refine qv (m_ldp sz23 ag23) ?_
    refine qv (m_fdp fd27_1) ?_
    refine qv (m_ldp sz23 ag23) ?_
    refine qqF (f23 h x.a x.b) ?_
    refine qv m_mv ?_
    refine qv m_ext ?_
    refine qv m_ext ?_
    refine qv m_as ?_
    refine qv m_as ?_
    show AWp cx _ _ _
    refine awp_seq ?_
    refine awp_seq ?_
    refine rg ?_
    refine qv m_mv ?_
    refine qv m_neq ?_
    refine qx m_mv (fun hg83 => ?_) (fun hg83 => ?_)
    · skip
      refine qk ?_
      refine qk ?_
      refine qv m_pk ?_
      show AWp cx _ _ _
      refine cdT (hb := by first | rfl | simp | simp_all) (ht := ?_)
      refine awp_seq ?_
      refine rg ?_
      refine qv (m_ldpa sz25 ag25) ?_
      refine qqF (f24 h) ?_
      refine qv m_neq ?_
      refine qx m_mv (fun hg90 => ?_) (fun hg90 => ?_)
      · try simp at hg90
        refine qv m_mv ?_
        refine qv (m_ldpa sz25 ag25) ?_
        refine qqF (f24 h) ?_
        refine qv m_eql ?_
        refine qv m_pk ?_
        refine qx m_mv (fun hg96 => ?_) (fun hg96 => ?_)
        rotate_left
        · exact absurd hg96 (by simp [top_val (h := h) (a := x.a) (b := x.b) (by simpa using hg90)])
        refine qk ?_
        refine qk ?_
        refine qv m_pk ?_
        refine qv m_as ?_
        show AWp cx _ _ _
        refine awp_ret ?_
        first | exact x1 (hr := (rB_ )) | exact x1 (hr := (rB_ (by simp [htb])))
      · try simp at hg90
        refine qk ?_
        refine qk ?_
        refine qk ?_
        refine qk ?_
        refine qv m_pk ?_
        refine qv m_mv ?_
        have htb := top_bad (h := h) (a := x.a) (b := x.b) (by first | exact .inl (by simpa using hg83) | exact .inr (by simpa using hc3)) (by simpa using hg90)
        refine qv m_mv ?_
        refine qv m_eql ?_
        refine qv m_pk ?_
        refine qv m_as ?_
        show AWp cx _ _ _
        refine awp_ret ?_
        first | exact x1 (hr := (rB_ )) | exact x1 (hr := (rB_ (by simp [htb])))
    · skip
      refine qv m_mv ?_
      refine qv m_neq ?_
      refine qv m_pk ?_
      show AWp cx _ _ _
      refine cd (fun hc3 => ?_) (fun hc3 => ?_)
      · skip
        refine awp_seq ?_
        refine rg ?_
        refine qv (m_ldpa sz25 ag25) ?_
        refine qqF (f24 h) ?_
        refine qv m_neq ?_
        refine qx m_mv (fun hg90 => ?_) (fun hg90 => ?_)
        · try simp at hg90
          refine qv m_mv ?_
          refine qv (m_ldpa sz25 ag25) ?_
          refine qqF (f24 h) ?_
          refine qv m_eql ?_
          refine qv m_pk ?_
          refine qx m_mv (fun hg96 => ?_) (fun hg96 => ?_)
          rotate_left
          · exact absurd hg96 (by simp [top_val (h := h) (a := x.a) (b := x.b) (by simpa using hg90)])
          refine qk ?_
          refine qk ?_
          refine qv m_pk ?_
          refine qv m_as ?_
          show AWp cx _ _ _
          refine awp_ret ?_
          first | exact x1 (hr := (rB_ )) | exact x1 (hr := (rB_ (by simp [htb])))
        · try simp at hg90
          refine qk ?_
          refine qk ?_
          refine qk ?_
          refine qk ?_
          refine qv m_pk ?_
          refine qv m_mv ?_
          have htb := top_bad (h := h) (a := x.a) (b := x.b) (by first | exact .inl (by simpa using hg83) | exact .inr (by simpa using hc3)) (by simpa using hg90)
          refine qv m_mv ?_
          refine qv m_eql ?_
          refine qv m_pk ?_
          refine qv m_as ?_
          show AWp cx _ _ _
          refine awp_ret ?_
          first | exact x1 (hr := (rB_ )) | exact x1 (hr := (rB_ (by simp [htb])))
      · skip
        obtain ⟨u1, u2, u3, u4, u5⟩ := top_ok (h := h) (a := x.a) (b := x.b) (by simpa using hg83) (by simpa using hc3)
        obtain ⟨k1, k2, ⟨k3, k4⟩, k5, k6, k7, k8, k9, k10⟩ := settle_script (h := h) (a := x.a) u2
        refine awp_skip ?_
        show AWp cx _ _ _
        refine awp_seq ?_
        refine rg ?_
        refine qv (m_ldpa sz25 ag25) ?_
        refine qv (m_fdp fd27_0) ?_
        refine qv (m_ldp sz23 ag23) ?_
        refine qqF (f25 h x.a) ?_ (hS := (res_rrdd (d2 := 1104) rfl (by (simp only [mkM, reduceIte, Nat.reduceEqDiff] <;> rfl)) (by (simp only [mkM, reduceIte, Nat.reduceEqDiff] <;> rfl))))
        refine qv m_mv ?_
        refine qv m_ext ?_
        refine qv m_ext ?_
        refine qv m_ext ?_
        refine qv m_ext ?_
        refine qv m_as ?_
        refine qv m_as ?_
        refine qv m_as ?_
        refine qv m_as ?_
        show AWp cx _ _ _
        refine awp_seq ?_
        refine rg ?_
        refine qv (m_ldpa sz25 ag25) ?_
        refine qv m_mv ?_
        refine qqF (f22 h (settleR h x.a).1) ?_ (ha := (args_cons data_dv (args_cons (data_ints (L := (settleR h x.a).1) (by simp only [mkM, reduceIte, Nat.reduceEqDiff] <;> rfl) trivial (by first | rfl | omega | (simp; done) | (simp; omega)) rfl rfl (fun _ => trivial)) args_nil)))
        refine qv m_mv ?_
        refine qv m_ext ?_
        refine qv m_ext ?_
        refine qv m_as ?_
        refine qv m_as ?_
        show AWp cx _ _ _
        refine awp_seq ?_
        refine rg ?_
        refine qv (m_ldpa sz25 ag25) ?_
        refine qv m_mv ?_
        refine qqF (f26 h (lastR h x.a).1) ?_ (ha := (args_cons data_dv (args_cons (data_ints (L := (lastR h x.a).1) (by simp only [mkM, reduceIte, Nat.reduceEqDiff] <;> rfl) trivial (by first | rfl | omega | (simp; done) | (simp; omega)) rfl rfl (fun _ => trivial)) args_nil)))
        refine qv m_mv ?_
        refine qv m_ext ?_
        refine qv m_ext ?_
        refine qv m_as ?_
        refine qv m_as ?_
        show AWp cx _ _ _
        refine awp_seq ?_
        refine rg ?_
        refine qv m_mv ?_
        refine qv m_eql ?_
        refine qx m_mv (fun hg123 => ?_) (fun hg123 => ?_)
        rotate_left
        · exact absurd hg123 (by simp [u1])
        refine qv m_mv ?_
        refine qv m_mv ?_
        refine qv m_mv ?_
        refine qqF (f27 (lastR h x.a).1 (lastR h x.b).1 lastR_len) ?_ (ha := (args_cons (data_ints (L := (lastR h x.a).1) (by simp only [mkM, reduceIte, Nat.reduceEqDiff] <;> rfl) trivial (by first | rfl | omega | (simp; done) | (simp; omega)) rfl rfl (fun _ => trivial)) (args_cons (data_ints (L := (lastR h x.b).1) (by simp only [mkM, reduceIte, Nat.reduceEqDiff] <;> rfl) trivial (by first | rfl | omega | (simp; done) | (simp; omega)) rfl rfl (fun _ => trivial)) args_nil)))
        refine qv (m_beq ib4) ?_
        refine qv m_pk ?_
        refine qx m_mv (fun hg130 => ?_) (fun hg130 => ?_)
        rotate_left
        · exact absurd hg130 (by simp [u1])
        refine qv m_mv ?_
        refine qv m_eql ?_
        refine qv m_pk ?_
        refine qx m_mv (fun hg134 => ?_) (fun hg134 => ?_)
        rotate_left
        · exact absurd hg134 (by simp [u2])
        refine qv (m_fdp fd27_0) ?_
        refine qv (m_ldp sz23 ag23) ?_
        refine qqF (f28 x.a k3 k4) ?_
        refine qv m_mv ?_
        refine qqF (f28 (settleR h x.a).1 k5 k6) ?_ (ha := (args_cons (data_ints (L := (settleR h x.a).1) (by simp only [mkM, reduceIte, Nat.reduceEqDiff] <;> rfl) trivial (by first | rfl | omega | (simp; done) | (simp; omega)) rfl rfl (fun _ => trivial)) args_nil))
        refine qv m_mv ?_
        refine qv m_add ?_
        refine qv m_eql ?_
        refine qv m_pk ?_
        refine qx m_mv (fun hg144 => ?_) (fun hg144 => ?_)
        rotate_left
        · exact absurd hg144 (by simp [k2])
        refine qv m_mv ?_
        refine qv m_eql ?_
        refine qv m_pk ?_
        refine qx m_mv (fun hg148 => ?_) (fun hg148 => ?_)
        rotate_left
        · exact absurd hg148 (by simp [u3])
        refine qv m_mv ?_
        refine qv m_mv ?_
        refine qqF (f27 (lastR h (settleR h x.a).1).1 (lastR h x.a).1 lastR_len) ?_ (ha := (args_cons (data_ints (L := (lastR h (settleR h x.a).1).1) (by simp only [mkM, reduceIte, Nat.reduceEqDiff] <;> rfl) trivial (by first | rfl | omega | (simp; done) | (simp; omega)) rfl rfl (fun _ => trivial)) (args_cons (data_ints (L := (lastR h x.a).1) (by simp only [mkM, reduceIte, Nat.reduceEqDiff] <;> rfl) trivial (by first | rfl | omega | (simp; done) | (simp; omega)) rfl rfl (fun _ => trivial)) args_nil)))
        refine qv m_pk ?_
        refine qx m_mv (fun hg153 => ?_) (fun hg153 => ?_)
        rotate_left
        · exact absurd hg153 (by simp [u3])
        refine qv m_mv ?_
        refine qv m_eql ?_
        refine qv m_pk ?_
        refine qx m_mv (fun hg157 => ?_) (fun hg157 => ?_)
        rotate_left
        · exact absurd hg157 (by simp [u4])
        refine qv m_mv ?_
        refine qv (m_lenR il23) ?_
        refine qv m_mv ?_
        refine qv (m_lenR il23) ?_
        refine qv m_eql ?_
        refine qv m_pk ?_
        refine qv m_as ?_
        show AWp cx _ _ _
        refine awp_ret ?_
        exact x1 (hr := (rB_ (by simp [u5])))

end Go.Ab.Try
