/- The functions of the moss laws, part 15. The walks are written by wip/gen/gw.py. -/
import Derived.Test.YtjipgkhfbfpacaaDoorMoss14
import Derived.Test.YtjipgkhfbfpacaaDoorMossFacts
import Derived.Test.YtjipgkhfbfpacaaDoorMossD
set_option linter.all false
namespace Go.Ab.Tryd
open Go Go.Ab Go.Proofs Go.Ab.Moss

theorem rd_in_spr {n : Mn} (ok : n.Ok) {w k : Nat} (hk : k < n.r * n.c) (h : rdB n w k = true) : Sub (2 ^ k) (spr n w).1 := by
  have h1 := rd_in ok (spr_sub (n := n) w) (spr_closed w)
  intro i hi
  rw [Nat.testBit_two_pow, decide_eq_true_eq] at hi
  subst hi
  exact h1 _ (by rw [rdN_bit]; simp [hk, h])
theorem spr_bit {n : Mn} (ok : n.Ok) {w k : Nat} (hk : k < n.r * n.c) (h : rdB n w k = true) : (spr n (w ||| 2 ^ k)).1 = (spr n w).1 :=
  Sub.antisymm (spr_least ok (spr_closed w) _ (or_sub (spr_sub w) (rd_in_spr ok hk h))) (spr_mono ok sub_or)
theorem bit_full {n : Mn} {k : Nat} (hk : k < n.r * n.c) : 2 ^ k ≤ full n := le_full_iff.2 fun i hi => by
  rw [Nat.testBit_two_pow, decide_eq_true_eq] at hi
  omega
theorem ckO_ok {n : Mn} (ok : n.Ok) : ∀ (l : List Nat) (i w : Nat), (∀ k ∈ l, k < n.r * n.c) → w ≤ full n → (ckO n i w l).2.2 = 0 → ∃ u : Nat, ckO n i w l = ((u : Int), ((i + l.length : Nat) : Int), 0) ∧ u ≤ full n ∧ (spr n u).1 = (spr n w).1
  | [], i, w, _, hw, _ => ⟨w, rfl, hw, rfl⟩
  | k :: l, i, w, hl, hw, h => by
    simp only [ckO] at h ⊢
    by_cases hr : rdB n w k = true
    · rw [if_pos hr] at h ⊢
      have hk := hl k (by simp)
      obtain ⟨u, h1, h2, h3⟩ := ckO_ok ok l (i + 1) (w ||| 2 ^ k) (fun j hj => hl j (by simp [hj])) (or_full hw (bit_full hk)) h
      refine ⟨u, ?_, h2, h3.trans (spr_bit ok hk hr)⟩
      rw [h1]
      simp only [List.length_cons]
      congr 2
      omega
    · rw [if_neg hr] at h
      simp at h
theorem tz_rdB {n : Mn} (ok : n.Ok) {w : Nat} (h : rdN n w ≠ 0) : rdB n w (tz (rdN n w)) = true := by
  obtain ⟨_, h2, _⟩ := tz_spec h (rd_lt64 ok)
  rw [rdN_bit, Bool.and_eq_true] at h2
  exact h2.2
theorem ckO_ord {n : Mn} (ok : n.Ok) : ∀ (f w i : Nat), dryC n w ≤ f → ckO n i w (ordL n w) = (((spr n w).1 : Int), ((i + (ordL n w).length : Nat) : Int), 0) := by
  intro f
  induction f with
  | zero =>
    intro w i hw
    have h0 : rdN n w = 0 := by
      rcases Nat.eq_zero_or_pos (rdN n w) with h | h
      · exact h
      · have := dryC_lt (n := n) (w := w) (by omega); omega
    rw [ordL_zero h0, spr_zero h0]; rfl
  | succ f ih =>
    intro w i hw
    by_cases h0 : rdN n w = 0
    · rw [ordL_zero h0, spr_zero h0]; rfl
    · have h1 := tz_rdB ok h0
      obtain ⟨t1, t2⟩ := tz_rd ok h0
      have h2 := dryC_lt' (x := 2 ^ tz (rdN n w)) t1 t2 (bit_two _)
      rw [ordL_step ok h0]
      simp only [ckO, h1, if_true]
      rw [ih _ _ (by omega), spr_bit ok t1 h1]
      simp only [List.length_cons]
      congr 2
      omega
theorem ordL_in {n : Mn} (ok : n.Ok) : ∀ (f w : Nat), dryC n w ≤ f → ∀ k ∈ ordL n w, k < n.r * n.c := by
  intro f
  induction f with
  | zero =>
    intro w hw
    have h0 : rdN n w = 0 := by
      rcases Nat.eq_zero_or_pos (rdN n w) with h | h
      · exact h
      · have := dryC_lt (n := n) (w := w) (by omega); omega
    rw [ordL_zero h0]; simp
  | succ f ih =>
    intro w hw k hk
    by_cases h0 : rdN n w = 0
    · rw [ordL_zero h0] at hk; cases hk
    · obtain ⟨t1, t2⟩ := tz_rd ok h0
      have h2 := dryC_lt' (x := 2 ^ tz (rdN n w)) t1 t2 (bit_two _)
      rw [ordL_step ok h0, List.mem_cons] at hk
      rcases hk with rfl | hk
      · exact t1
      · exact ih _ (by omega) k hk
theorem f33o {n : Mn} (ok : n.Ok) {v : Nat} (hv : v ≤ full n) : ACallsF Tryd.prog 33 [dMn n, i64 (v : Int), ints (ns (ordL n v))] (.many [.dv (i64 ((spr n v).1 : Int)), .dv (i64 ((ordL n v).length : Int)), .dv (i64 0)]) := by
  have hl := ordL_len (n := n) (w := v)
  have hN := ok.N2
  have h := f33 n.w v (ns (ordL n v)) (by rw [ns_len]; omega)
  rw [ckR_ok ok hv rfl (ordL_in ok _ v (Nat.le_refl _)), ckO_ord ok _ v 0 (Nat.le_refl _), Nat.zero_add] at h
  exact h
theorem ckR_fit {m : Mw} {w : Int} {o : List Int} (h : (ckR m w o).2.2 = 0) : ∃ (n : Mn) (v u : Nat), n.Ok ∧ m = n.w ∧ w = (v : Int) ∧ v ≤ full n ∧ ckR m w o = ((u : Int), (o.length : Int), 0) ∧ u ≤ full n ∧ (spr n u).1 = (spr n v).1 := by
  by_cases he : wetE m w = 0
  · obtain ⟨n, v, ok, rfl, rfl, hv⟩ := wetE_ok he
    by_cases hb : o.any (fun x => !fromB x 0 ((n.r * n.c : Nat) - 1)) = true
    · rw [ckR_bad ok hv hb] at h; cases h
    · obtain ⟨l, hol, hl⟩ := ns_of hb
      rw [ckR_ok ok hv hol hl] at h
      obtain ⟨u, h1, h2, h3⟩ := ckO_ok ok l 0 v hl hv h
      refine ⟨n, v, u, ok, rfl, rfl, hv, ?_, h2, h3⟩
      rw [ckR_ok ok hv hol hl, h1, hol, ns_len, Nat.zero_add]
  · rw [ckR_no he] at h; exact absurd h he
theorem onOrd_len {m : Mw} {w : Int} : (onWet m w [] fun n v => ns (ordL n v)).length < 1000000 := by
  by_cases he : wetE m w = 0
  · obtain ⟨n, v, ok, rfl, rfl, hv⟩ := wetE_ok he
    have hl := ordL_len (n := n) (w := v)
    have hN := ok.N2
    rw [onWet_ok ok hv, ns_len]; omega
  · rw [onWet_no he]; simp


set_option maxHeartbeats 4000000 in
theorem f12 (m : Mw) (w : Int) : ACallsF Tryd.prog 12 [dMw m, i64 w] (.one (.dv (.bool true))) := by
  refine callsF_of Tryd.func12 rfl rfl (by rw [Tryd.ntmps12]; simp) fun cx hP hn hg => ?_
  rw [Tryd.ntmps12] at hn
  rw [startF_lk, none_mkM]
  simp only [List.nil_append, List.append_nil, List.cons_append, zipSV, Nat.reduceAdd]
  refine awp_seq ?_
  refine rg ?_
  refine qp m_box ?_
  refine qv m_as ?_
  show AWp cx _ _ _
  refine awp_seq ?_
  refine rg ?_
  refine qv (m_ldpa sz23 ag23) ?_
  refine qv m_mv ?_
  refine qqF (f32 m w) ?_
  refine qv m_mv ?_
  refine qv m_ext ?_
  refine qv m_ext ?_
  refine qv m_as ?_
  refine qv m_as ?_
  show AWp cx _ _ _
  refine awp_seq ?_
  refine rg ?_
  refine qv (m_ldpa sz23 ag23) ?_
  refine qv m_mv ?_
  refine qqF (f43 m w) ?_
  refine qv m_mv ?_
  refine qv m_ext ?_
  refine qv m_ext ?_
  refine qv m_as ?_
  refine qv m_as ?_
  show AWp cx _ _ _
  refine awp_seq ?_
  refine awp_seq ?_
  refine rg ?_
  refine qv m_mv ?_
  refine qv m_mv ?_
  refine qqF (f26k _ onOrd_len) ?_
  refine qv m_not ?_
  refine qx m_mv (fun hg31 => ?_) (fun hg31 => ?_)
  · exact absurd hg31 (by simp)
  refine qv m_mv ?_
  refine qv m_mv ?_
  refine qv m_neq ?_
  refine qv m_pk ?_
  show AWp cx _ _ _
  refine cdF (hb := by simp) (ht := ?_)
  refine awp_skip ?_
  show AWp cx _ _ _
  refine awp_seq ?_
  refine awp_seq ?_
  refine rg ?_
  refine qv m_mv ?_
  refine qv m_neq ?_
  show AWp cx _ _ _
  refine cd (fun hc1 => ?_) (fun hc1 => ?_)
  · skip
    refine awp_seq ?_
    refine rg ?_
    refine qqF (f18) ?_
    refine qv m_as ?_
    show AWp cx _ _ _
    refine awp_ret ?_
    exact x1 (hr := (rB_))
  · skip
    have he : wetE m w = 0 := by simpa using hc1
    obtain ⟨n, v, ok, rfl, rfl, hv⟩ := wetE_ok he
    have hv36 := le36 ok hv
    have hwe := wetE_v ok hv
    rw [onWet_ok ok hv]
    have hol := ordL_len (n := n) (w := v)
    have hN := ok.N2
    have hnl := ns_len (ordL n v)
    refine awp_skip ?_
    show AWp cx _ _ _
    refine awp_seq ?_
    refine rg ?_
    refine qv (m_ldpa sz23 ag23) ?_
    refine qv m_mv ?_
    refine qqF (f17k ok hv) ?_
    refine qv m_mv ?_
    refine qv m_ext ?_
    refine qv m_ext ?_
    refine qv m_ext ?_
    refine qv m_as ?_
    refine qv m_as ?_
    refine qv m_as ?_
    show AWp cx _ _ _
    refine awp_seq ?_
    refine rg ?_
    refine qv (m_ldpa sz23 ag23) ?_
    refine qv m_mv ?_
    refine qv m_mv ?_
    refine qqF (f33o ok hv) ?_
    refine qv m_mv ?_
    refine qv m_ext ?_
    refine qv m_ext ?_
    refine qv m_ext ?_
    refine qv m_as ?_
    refine qv m_as ?_
    refine qv m_as ?_
    show AWp cx _ _ _
    refine awp_seq ?_
    refine rg ?_
    refine qv m_mv ?_
    refine qv m_eql ?_
    refine qx m_mv (fun hg56 => ?_) (fun hg56 => ?_)
    rotate_left
    · exact absurd hg56 (by simp [hwe])
    refine qv m_mv ?_
    refine qv m_eql ?_
    refine qv m_pk ?_
    refine qx m_mv (fun hg60 => ?_) (fun hg60 => ?_)
    rotate_left
    · exact absurd hg60 (by simp)
    refine qv m_mv ?_
    refine qv m_mv ?_
    refine qv (m_lenR il32) ?_
    refine qv m_eql ?_
    refine qv m_pk ?_
    refine qx m_mv (fun hg66 => ?_) (fun hg66 => ?_)
    rotate_left
    · exact absurd hg66 (by simp [ns_len])
    refine qv m_mv ?_
    refine qv m_mv ?_
    refine qv m_eql ?_
    refine qv m_pk ?_
    refine qx m_mv (fun hg71 => ?_) (fun hg71 => ?_)
    rotate_left
    · exact absurd hg71 (by simp)
    refine qqF (f18) ?_
    refine qv m_pk ?_
    refine qv m_as ?_
    show AWp cx _ _ _
    refine awp_ret ?_
    exact x1 (hr := (rB_))

set_option maxHeartbeats 4000000 in
theorem f11 (m : Mw) (w : Int) (o : List Int) : ACallsF Tryd.prog 11 [dMw m, i64 w, ints o] (.one (.dv (.bool true))) := by
  refine callsF_of Tryd.func11 rfl rfl (by rw [Tryd.ntmps11]; simp) fun cx hP hn hg => ?_
  rw [Tryd.ntmps11] at hn
  rw [startF_lk, none_mkM]
  simp only [List.nil_append, List.append_nil, List.cons_append, zipSV, Nat.reduceAdd]
  refine awp_seq ?_
  refine rg ?_
  refine qp m_box ?_
  refine qv m_as ?_
  show AWp cx _ _ _
  refine awp_seq ?_
  refine awp_seq ?_
  refine rg ?_
  refine qv m_mv ?_
  refine qv (m_len il32) ?_
  refine qv m_gtr ?_
  show AWp cx _ _ _
  refine cd (fun hc0 => ?_) (fun hc0 => ?_)
  · try simp at hc0
    refine awp_seq ?_
    refine rg ?_
    refine qqF (f18) ?_
    refine qv m_as ?_
    show AWp cx _ _ _
    refine awp_ret ?_
    exact x1 (hr := (rB_))
  · try simp at hc0
    have ho : o.length < 1000000 := by omega
    refine awp_skip ?_
    show AWp cx _ _ _
    refine awp_seq ?_
    refine rg ?_
    refine qv (m_ldpa sz23 ag23) ?_
    refine qv m_mv ?_
    refine qv m_mv ?_
    refine qqF (f33 m w o ho) ?_
    refine qv m_mv ?_
    refine qv m_ext ?_
    refine qv m_ext ?_
    refine qv m_ext ?_
    refine qv m_as ?_
    refine qv m_as ?_
    refine qv m_as ?_
    show AWp cx _ _ _
    refine awp_seq ?_
    refine rg ?_
    refine qv (m_ldpa sz23 ag23) ?_
    refine qv m_mv ?_
    refine qv m_mv ?_
    refine qqF (f42 m w o ho) ?_
    refine qv m_mv ?_
    refine qv m_ext ?_
    refine qv m_ext ?_
    refine qv m_ext ?_
    refine qv m_as ?_
    refine qv m_as ?_
    refine qv m_as ?_
    show AWp cx _ _ _
    refine awp_seq ?_
    refine awp_seq ?_
    refine rg ?_
    refine qv m_mv ?_
    refine qv m_mv ?_
    refine qv m_neq ?_
    refine qx m_mv (fun hg42 => ?_) (fun hg42 => ?_)
    · exact absurd hg42 (by simp)
    refine qv m_mv ?_
    refine qv m_mv ?_
    refine qv m_neq ?_
    refine qv m_pk ?_
    refine qx m_mv (fun hg47 => ?_) (fun hg47 => ?_)
    · exact absurd hg47 (by simp)
    refine qv m_mv ?_
    refine qv m_mv ?_
    refine qv m_neq ?_
    refine qv m_pk ?_
    show AWp cx _ _ _
    refine cdF (hb := by simp) (ht := ?_)
    refine awp_skip ?_
    show AWp cx _ _ _
    refine awp_seq ?_
    refine awp_seq ?_
    refine rg ?_
    refine qv m_mv ?_
    refine qv m_neq ?_
    show AWp cx _ _ _
    refine cd (fun hc2 => ?_) (fun hc2 => ?_)
    · skip
      refine awp_seq ?_
      refine rg ?_
      refine qqF (f18) ?_
      refine qv m_as ?_
      show AWp cx _ _ _
      refine awp_ret ?_
      exact x1 (hr := (rB_))
    · skip
      have he : (ckR m w o).2.2 = 0 := by simpa using hc2
      obtain ⟨n, v, u, ok, rfl, rfl, hv, hck, hu, hsu⟩ := ckR_fit he
      have hu36 := le36 ok hu
      simp only [hck]
      have a1 : u &&& (spr n v).1 = u := sub_and'.1 (by rw [← hsu]; exact spr_sub u)
      refine awp_skip ?_
      show AWp cx _ _ _
      refine awp_seq ?_
      refine rg ?_
      refine qv (m_ldpa sz23 ag23) ?_
      refine qv m_mv ?_
      refine qqF (f17k ok hv) ?_
      refine qv m_mv ?_
      refine qv m_ext ?_
      refine qv m_ext ?_
      refine qv m_ext ?_
      refine qv m_as ?_
      refine qv m_as ?_
      refine qv m_as ?_
      show AWp cx _ _ _
      refine awp_seq ?_
      refine rg ?_
      refine qv (m_ldpa sz23 ag23) ?_
      refine qv m_mv ?_
      refine qqF (f17k ok hu) ?_
      refine qv m_mv ?_
      refine qv m_ext ?_
      refine qv m_ext ?_
      refine qv m_ext ?_
      refine qv m_as ?_
      refine qv m_as ?_
      refine qv m_as ?_
      show AWp cx _ _ _
      refine awp_seq ?_
      refine rg ?_
      refine qv m_mv ?_
      refine qv m_eql ?_
      refine qx m_mv (fun hg71 => ?_) (fun hg71 => ?_)
      rotate_left
      · exact absurd hg71 (by simp)
      refine qv m_mv ?_
      refine qv m_eql ?_
      refine qv m_pk ?_
      refine qx m_mv (fun hg75 => ?_) (fun hg75 => ?_)
      rotate_left
      · exact absurd hg75 (by simp)
      refine qv m_mv ?_
      refine qv m_mv ?_
      refine qv (m_andS (ha := hu36) (hb := le36 ok (spr_full v hv))) ?_
      refine qv m_mv ?_
      refine qv m_eql ?_
      refine qv m_pk ?_
      refine qx m_mv (fun hg82 => ?_) (fun hg82 => ?_)
      rotate_left
      · exact absurd hg82 (by simp [a1])
      refine qv m_mv ?_
      refine qv m_mv ?_
      refine qv m_eql ?_
      refine qv m_pk ?_
      refine qx m_mv (fun hg87 => ?_) (fun hg87 => ?_)
      rotate_left
      · exact absurd hg87 (by simp [hsu])
      refine qqF (f18) ?_
      refine qv m_pk ?_
      refine qv m_as ?_
      show AWp cx _ _ _
      refine awp_ret ?_
      exact x1 (hr := (rB_))

end Go.Ab.Tryd
