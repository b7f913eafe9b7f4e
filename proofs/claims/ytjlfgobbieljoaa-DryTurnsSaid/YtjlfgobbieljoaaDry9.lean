/- The functions of the dry laws, part 9. The walks are written by wip/gen/gw.py. -/
import Derived.Test.YtjlfgobbieljoaaDry8
import Derived.Test.YtjlfgobbieljoaaAb26
set_option linter.all false
namespace Go.Ab.Try
open Go Go.Ab Go.Proofs
def isStuckR (y : Yd) (m : List Int) : Bool × Int := if filledE y [m] ≠ 0 then (false, filledE y [m]) else (!(y.steps.any fun s => covers m s.take), 0)
theorem filled_take {y : Yd} {m : List Int} (h : filledE y [m] = 0) : m.length < 1000000 ∧ y.steps.length < 1000000 ∧ (m.length : Int) = y.places ∧ ∀ s ∈ y.steps, s.take.length = m.length ∧ s.give.length = m.length := by
  obtain ⟨hv, hm⟩ := filled_ok h
  obtain ⟨v1, v2, v3, v4⟩ := validate_ok hv
  have hl := allIn_len hm
  refine ⟨by omega, by omega, hl, fun s hs => ?_⟩
  have h4 := v4 s hs
  simp only [okStp, Bool.and_eq_true] at h4
  have h5 := allIn_len h4.1
  have h6 := allIn_len h4.2
  omega
theorem stuck_run {y : Yd} {m l : List Int} (h : (isStuckR y m).1 = true) (hr : (runR y m l).2.2 = 0) : l = [] := by
  unfold isStuckR at h
  split at h
  · cases h
  · rename_i h0
    have h0' : filledE y [m] = 0 := by simpa using h0
    obtain ⟨hv, hm⟩ := filled_ok h0'
    cases l with
    | nil => rfl
    | cons s l =>
      exfalso
      simp only [runR] at hr
      rw [if_neg (by simp [h0'])] at hr
      split at hr
      · rename_i h1; exact h1 hr
      · rename_i h1
        obtain ⟨_, hl⟩ := listed_ok (by simpa using h1 : listedE y (s :: l) = 0)
        obtain ⟨s0, s1⟩ := hl s (by simp)
        obtain ⟨_, he⟩ := fits_of hv hm s0 s1
        have hc : covers m (stepAt y s).take = false := by
          simp only [Bool.not_eq_true', List.any_eq_false] at h
          simpa using h (stepAt y s) (List.mem_of_getElem? he)
        have ha : afterR (stepAt y s) m = ([], 6) := by simp [afterR, hc]
        simp only [runFrom, ha] at hr
        simp at hr
theorem f64 (s : Stp) (m : List Int) (ht : s.take.length ≤ m.length) (hm : m.length < 1000000) : ACallsF Try.prog 64 [dStp s, .cptr [ints m]] (.one (.dv (.bool (covers m s.take)))) := by
  refine callsF_of Try.func64 rfl rfl (by rw [Try.ntmps64]; simp) fun cx hP hn hg => ?_
  rw [Try.ntmps64] at hn
  rw [startF_lk, none_mkM]
  simp only [zipSV, Nat.reduceAdd]
  refine awp_seq ?_
  refine rg ?_
  refine qp m_box ?_
  refine qv m_as ?_
  show AWp cx _ _ _
  refine awp_seq ?_
  refine rg ?_
  refine qv (m_ldpa sz55 ag55) ?_
  first | refine qv (m_ld sz25 ag25) ?_ | refine qv (m_ldp sz25 ag25) ?_
  refine qqF (f65 s m ht hm) ?_
  refine qv m_as ?_
  show AWp cx _ _ _
  refine awp_ret ?_
  exact x1 (hr := (rB_))
theorem f22 (y : Yd) (m : List Int) : ACallsF Try.prog 22 [dYd y, ints m] (.many [.dv (.bool (isStuckR y m).1), .dv (i64 (isStuckR y m).2)]) := by
  refine callsF_of Try.func22 rfl rfl (by rw [Try.ntmps22]; simp) fun cx hP hn hg => ?_
  rw [Try.ntmps22] at hn
  rw [startF_lk, none_mkM]
  simp only [zipSV, Nat.reduceAdd]
  refine awp_seq ?_
  refine rg ?_
  refine qp m_box ?_
  refine qp m_box ?_
  refine qv m_as ?_
  refine qv m_as ?_
  show AWp cx _ _ _
  refine awp_seq ?_
  refine awp_seq ?_
  refine rg ?_
  refine qv (m_ldpa sz24 ag24) ?_
  refine qv (m_ldp sz25 ag25) ?_
  refine qr (m_bsl el91 ze25 sz25) ?_
  refine qqF (f57 y [m] (by simp)) ?_ (ha := (args_cons data_dv (args_cons (data_row (l := [ints m]) (by simp only [mkM, reduceIte, Nat.reduceEqDiff] <;> rfl) trivial rfl (by simp [DV.cells]) (by simp [flat, DV.cells]) (fun _ _ => trivial)) args_nil)))
  refine qv m_as ?_
  show AWp cx _ _ _
  refine awp_seq ?_
  refine rg ?_
  refine qv m_mv ?_
  refine qv m_neq ?_
  show AWp cx _ _ _
  refine cd (fun hc0 => ?_) (fun hc0 => ?_)
  · try simp at hc0
    refine awp_seq ?_
    refine rg ?_
    refine qv m_mv ?_
    refine qv m_as ?_
    refine qv m_as ?_
    show AWp cx _ _ _
    refine awp_ret ?_
    have e : isStuckR y m = (false, filledE y [m]) := by simp [isStuckR, hc0]
    rw [e]
    exact x2 (hr := (rB_)) (hr' := (rI_))
  · try simp at hc0
    refine awp_skip ?_
    show AWp cx _ _ _
    refine awp_seq ?_
    refine rg ?_
    obtain ⟨q1, q2, q3, q4⟩ := filled_take hc0
    refine qv (m_fdp fd24_1) ?_
    refine qv (m_ldp sz22 ag22) ?_
    refine qfn ?_
    refine qqF (f63 y.steps 64 [] [.cptr [ints m]] (fun s => covers m s.take) (fun s hs => f64 s m (by have := q4 s hs; omega) q1) q2) ?_
    refine qv m_not ?_
    refine qv m_as ?_
    refine qv m_as ?_
    show AWp cx _ _ _
    refine awp_ret ?_
    have e : isStuckR y m = (!(y.steps.any fun s => covers m s.take), 0) := by simp [isStuckR, hc0]
    rw [e]
    exact x2 (hr := (rB_)) (hr' := (rI_))
theorem f23 (y : Yd) (m : List Int) : ACallsF Try.prog 23 [dYd y, ints m] (.many [.dv (.bool (isStuckR y m).1), .dv (i64 (isStuckR y m).2)]) := by
  refine callsF_of Try.func23 rfl rfl (by rw [Try.ntmps23]; simp) fun cx hP hn hg => ?_
  rw [Try.ntmps23] at hn
  rw [startF_lk, none_mkM]
  simp only [zipSV, Nat.reduceAdd]
  refine awp_seq ?_
  refine rg ?_
  refine qp m_box ?_
  refine qv m_as ?_
  refine qv m_as ?_
  show AWp cx _ _ _
  refine awp_seq ?_
  refine awp_seq ?_
  refine rg ?_
  refine qv (m_ldpa sz24 ag24) ?_
  refine qv m_mv ?_
  refine qqF (f60 y m) ?_
  refine qv m_as ?_
  show AWp cx _ _ _
  refine awp_seq ?_
  refine rg ?_
  refine qv m_mv ?_
  refine qv m_neq ?_
  show AWp cx _ _ _
  refine cd (fun hc0 => ?_) (fun hc0 => ?_)
  · try simp at hc0
    refine awp_seq ?_
    refine rg ?_
    refine qv m_mv ?_
    refine qv m_as ?_
    refine qv m_as ?_
    show AWp cx _ _ _
    refine awp_ret ?_
    have e : isStuckR y m = (false, filledE y [m]) := by simp [isStuckR, hc0]
    rw [e]
    exact x2 (hr := (rB_)) (hr' := (rI_))
  · try simp at hc0
    refine awp_skip ?_
    show AWp cx _ _ _
    refine awp_seq ?_
    refine awp_seq ?_
    refine rg ?_
    refine qv m_as ?_
    show AWp cx _ _ _
    refine awp_block ?_
    refine awp_loop (ι := Nat) (fun i => ⟨lk [(1, .dv (ints (m))), (2, .pt 2 0 0), (7, .dv (i64 (i : Nat)))], mkM [(2, 0, some ⟨[.dv (i64 (y.places)), .dv (.list ((y.steps).map dStp))], 0, 24, 0, false⟩)]⟩) (fun i => i ≤ y.steps.length ∧ ∀ j (hj : j < i) (h : j < y.steps.length), covers m y.steps[j].take = false) (fun i => y.steps.length - i) 0 (by simp) (tl [(2, 2)]) ?_
    intro i hφ0
    refine awp_seq ?_
    refine awp_seq ?_
    refine rg ?_
    refine qv m_mv ?_
    refine qv (m_fdp fd24_1) ?_
    refine qv (m_ldp sz22 ag22) ?_
    refine qv (m_len il22) ?_
    refine qv m_lss ?_
    show AWp cx _ _ _
    refine cd (fun hc1 => ?_) (fun hc1 => ?_)
    · try simp at hc1
      refine awp_skip ?_
      show AWp cx _ _ _
      refine awp_seq ?_
      refine awp_block ?_
      refine awp_seq ?_
      refine rg ?_
      have hin : i < y.steps.length := by omega
      obtain ⟨q1, q2, q3, q4⟩ := filled_take hc0
      obtain ⟨v1, v2, v3, v4⟩ := validate_ok (filled_ok hc0).1
      have q5 := q4 _ (List.getElem_mem hin)
      refine qv (m_ldpa sz24 ag24) ?_
      refine qv m_mv ?_
      refine qv m_mv ?_
      refine qqF (f66 y m (i : Nat) y.steps[i] (by omega) (by simp [hin]) q3 (by omega) (by omega)) ?_
      show AWp cx _ _ _
      refine cd (fun hc2 => ?_) (fun hc2 => ?_)
      · try simp at hc2
        refine awp_seq ?_
        refine rg ?_
        refine qv m_as ?_
        refine qv m_as ?_
        show AWp cx _ _ _
        refine awp_ret ?_
        have e : isStuckR y m = (false, 0) := by
          simp only [isStuckR]
          rw [if_neg (by simp [hc0]), List.any_eq_true.2 ⟨_, List.getElem_mem hin, hc2⟩]
          rfl
        rw [e]
        exact x2 (hr := (rB_)) (hr' := (rI_))
      · try simp at hc2
        refine awp_skip ?_
        show AWp cx _ _ _
        refine rg ?_
        refine qv m_mv ?_
        refine qv m_add ?_
        refine qv m_as ?_
        refine ⟨i + 1, ?_, (by simp only; omega), (tl [(2, 2)])⟩
        refine ⟨hin, fun j hj h => ?_⟩
        rcases Nat.lt_or_ge j i with h1 | h1
        · exact hφ0.2 j h1 h
        · obtain rfl : j = i := by omega
          exact hc2
    · try simp at hc1
      refine awp_exit ?_
      show AWp cx _ _ _
      refine awp_seq ?_
      refine rg ?_
      refine qv m_as ?_
      refine qv m_as ?_
      show AWp cx _ _ _
      refine awp_ret ?_
      have e : isStuckR y m = (true, 0) := by
        have : (y.steps.any fun s => covers m s.take) = false := by
          rw [List.any_eq_false]
          intro s hs
          obtain ⟨j, hj, rfl⟩ := List.getElem_of_mem hs
          simpa using hφ0.2 j (by omega) hj
        simp only [isStuckR]
        rw [if_neg (by simp [hc0]), this]
        rfl
      rw [e]
      exact x2 (hr := (rB_)) (hr' := (rI_))
theorem f4 (y : Yd) (m l : List Int) : ACallsF Try.prog 4 [dYd y, ints m, ints l] (.one (.dv (.bool true))) := by
  refine callsF_of Try.func4 rfl rfl (by rw [Try.ntmps4]; simp) fun cx hP hn hg => ?_
  rw [Try.ntmps4] at hn
  rw [startF_lk, none_mkM]
  simp only [zipSV, Nat.reduceAdd]
  refine awp_seq ?_
  refine rg ?_
  refine qp m_box ?_
  refine qv m_as ?_
  show AWp cx _ _ _
  refine awp_seq ?_
  refine awp_seq ?_
  refine rg ?_
  refine qv (m_ldpa sz24 ag24) ?_
  refine qqF (f16 y) ?_
  refine qx m_mv (fun hg16 => ?_) (fun hg16 => ?_)
  · try simp at hg16
    refine qk ?_
    refine qk ?_
    refine qv m_pk ?_
    refine qv m_mv ?_
    refine qk ?_
    refine qk ?_
    refine qv m_pk ?_
    show AWp cx _ _ _
    refine cdT (hb := by first | rfl | simp | simp_all) (ht := ?_)
    refine awp_seq ?_
    refine rg ?_
    refine qqF (f18) ?_
    refine qv m_as ?_
    show AWp cx _ _ _
    refine awp_ret ?_
    exact x1 (hr := (rB_))
  · try simp at hg16
    refine qv m_mv ?_
    refine qqF (f17 m) ?_
    refine qv m_pk ?_
    refine qx m_mv (fun hg20 => ?_) (fun hg20 => ?_)
    · try simp at hg20
      refine qk ?_
      refine qk ?_
      refine qv m_pk ?_
      show AWp cx _ _ _
      refine cdT (hb := by first | rfl | simp | simp_all) (ht := ?_)
      refine awp_seq ?_
      refine rg ?_
      refine qqF (f18) ?_
      refine qv m_as ?_
      show AWp cx _ _ _
      refine awp_ret ?_
      exact x1 (hr := (rB_))
    · try simp at hg20
      refine qv m_mv ?_
      refine qqF (f17 l) ?_
      refine qv m_pk ?_
      show AWp cx _ _ _
      refine cd (fun hc0 => ?_) (fun hc0 => ?_)
      · try simp at hc0
        refine awp_seq ?_
        refine rg ?_
        refine qqF (f18) ?_
        refine qv m_as ?_
        show AWp cx _ _ _
        refine awp_ret ?_
        exact x1 (hr := (rB_))
      · try simp at hc0
        refine awp_skip ?_
        show AWp cx _ _ _
        refine awp_seq ?_
        refine rg ?_
        refine qv (m_ldpa sz24 ag24) ?_
        refine qv m_mv ?_
        refine qqF (f22 y m) ?_
        refine qv m_mv ?_
        refine qv m_ext ?_
        refine qv m_ext ?_
        refine qv m_as ?_
        refine qv m_as ?_
        show AWp cx _ _ _
        refine awp_seq ?_
        refine rg ?_
        refine qv (m_ldpa sz24 ag24) ?_
        refine qv m_mv ?_
        refine qqF (f23 y m) ?_
        refine qv m_mv ?_
        refine qv m_ext ?_
        refine qv m_ext ?_
        refine qv m_as ?_
        refine qv m_as ?_
        show AWp cx _ _ _
        refine awp_seq ?_
        refine awp_seq ?_
        refine rg ?_
        refine qv m_mv ?_
        refine qv m_mv ?_
        refine qv (m_bne ib4) ?_
        refine qx m_mv (fun hg40 => ?_) (fun hg40 => ?_)
        · exact absurd hg40 (by simp)
        refine qv m_mv ?_
        refine qv m_mv ?_
        refine qv m_neq ?_
        refine qv m_pk ?_
        show AWp cx _ _ _
        refine cdF (hb := by simp) (ht := ?_)
        refine awp_skip ?_
        show AWp cx _ _ _
        refine awp_seq ?_
        refine rg ?_
        refine qv (m_ldpa sz24 ag24) ?_
        refine qv m_mv ?_
        refine qv m_mv ?_
        refine qqF (f19 y m l) ?_
        refine qv m_mv ?_
        refine qv m_ext ?_
        refine qv m_ext ?_
        refine qv m_ext ?_
        refine qv m_as ?_
        refine qv m_as ?_
        refine qv m_as ?_
        show AWp cx _ _ _
        refine awp_seq ?_
        refine rg ?_
        refine qv m_mv ?_
        refine qv m_not ?_
        refine qx m_mv (fun hg55 => ?_) (fun hg55 => ?_)
        · try simp at hg55
          refine qk ?_
          refine qk ?_
          refine qv m_pk ?_
          refine qv m_mv ?_
          refine qk ?_
          refine qk ?_
          refine qk ?_
          refine qv m_pk ?_
          refine qv m_mv ?_
          refine qqF (f18) ?_
          refine qv m_pk ?_
          refine qv m_as ?_
          show AWp cx _ _ _
          refine awp_ret ?_
          exact x1 (hr := (rB_))
        · try simp at hg55
          refine qv m_mv ?_
          refine qv m_neq ?_
          refine qv m_pk ?_
          refine qx m_mv (fun hg59 => ?_) (fun hg59 => ?_)
          · try simp at hg59
            refine qk ?_
            refine qk ?_
            refine qk ?_
            refine qv m_pk ?_
            refine qv m_mv ?_
            refine qqF (f18) ?_
            refine qv m_pk ?_
            refine qv m_as ?_
            show AWp cx _ _ _
            refine awp_ret ?_
            exact x1 (hr := (rB_))
          · try simp at hg59
            refine qv m_mv ?_
            refine qv (m_len il25) ?_
            refine qv m_eql ?_
            refine qv m_pk ?_
            refine qx m_mv (fun hg64 => ?_) (fun hg64 => ?_)
            rotate_left
            · exact absurd hg64 (by rw [stuck_run hg55 hg59]; decide)
            refine qqF (f18) ?_
            refine qv m_pk ?_
            refine qv m_as ?_
            show AWp cx _ _ _
            refine awp_ret ?_
            exact x1 (hr := (rB_))
end Go.Ab.Try
