/- The functions of the dry laws, part 10. The walks are written by wip/gen/gw.py. -/
import Derived.Test.YtjlfgobbieljoaaDry9
import Derived.Test.YtjlfgobbieljoaaAb26
set_option linter.all false
namespace Go.Ab.Try
open Go Go.Ab Go.Proofs
def canDoR (y : Yd) (m : List Int) (s : Int) : Bool × Int := if steppedE y m s ≠ 0 then (false, steppedE y m s) else (covers m (stepAt y s).take, 0)
def doRR (y : Yd) (m : List Int) (s : Int) : List Int × Int := if steppedE y m s ≠ 0 then ([], steppedE y m s) else afterR (stepAt y s) m
theorem stepped_ok {y : Yd} {m : List Int} {s : Int} (h : steppedE y m s = 0) : VYd y ∧ VM y m ∧ 0 ≤ s ∧ s < y.steps.length := by
  unfold steppedE at h
  split at h
  · rename_i h1; exact absurd h h1
  · rename_i h1
    obtain ⟨hv, hm⟩ := filled_ok (by simpa using h1)
    obtain ⟨_, hl⟩ := listed_ok h
    exact ⟨hv, hm, hl s (by simp)⟩
theorem after_len {s : Stp} {m : List Int} : (afterR s m).1.length ≤ m.length := by
  unfold afterR
  split
  · simp
  · split
    · simp
    · simp
theorem doRR_len {y : Yd} {m : List Int} {s : Int} : (doRR y m s).1.length ≤ m.length := by
  unfold doRR
  split
  · simp
  · exact after_len
theorem f24 (y : Yd) (m : List Int) (s : Int) (hy : y.steps.length < 1000000) : ACallsF Try.prog 24 [dYd y, ints m, i64 s] (.many [.dv (.bool (canDoR y m s).1), .dv (i64 (canDoR y m s).2)]) := by
  refine callsF_of Try.func24 rfl rfl (by rw [Try.ntmps24]; simp) fun cx hP hn hg => ?_
  rw [Try.ntmps24] at hn
  rw [startF_lk, none_mkM]
  simp only [zipSV, Nat.reduceAdd]
  refine awp_seq ?_
  refine rg ?_
  refine qp m_box ?_
  refine qv m_as ?_
  refine qv m_as ?_
  show AWp cx _ _ _
  refine awp_seq ?_
  refine awp_seq ?_
  refine rg ?_
  refine qv (m_ldpa sz24 ag24) ?_
  refine qv m_mv ?_
  refine qv m_mv ?_
  refine qqF (f67 y m s hy) ?_
  refine qv m_as ?_
  show AWp cx _ _ _
  refine awp_seq ?_
  refine rg ?_
  refine qv m_mv ?_
  refine qv m_neq ?_
  show AWp cx _ _ _
  refine cd (fun hc0 => ?_) (fun hc0 => ?_)
  · try simp at hc0
    refine awp_seq ?_
    refine rg ?_
    refine qv m_mv ?_
    refine qv m_as ?_
    refine qv m_as ?_
    show AWp cx _ _ _
    refine awp_ret ?_
    rw [show canDoR y m s = (false, steppedE y m s) by simp [canDoR, hc0]]
    exact x2 (hr := (rB_)) (hr' := (rI_))
  · try simp at hc0
    refine awp_skip ?_
    show AWp cx _ _ _
    refine awp_seq ?_
    refine rg ?_
    obtain ⟨hv, hm, h0, h1⟩ := stepped_ok hc0
    obtain ⟨hf, he⟩ := fits_of hv hm h0 h1
    obtain ⟨v1, v2, v3, v4⟩ := validate_ok hv
    have hml := allIn_len hm
    have hlt := hf.take
    have hlg := hf.give
    refine qv (m_fdp fd24_1) ?_
    refine qv (m_ldp sz22 ag22) ?_
    refine qv m_mv ?_
    first | refine qv (m_ixN el22 sz55) ?_ | refine qv (m_ix el22 sz55) ?_
    refine qv (m_lda sz55 ag55) ?_
    refine qv m_mv ?_
    refine qqF (f65 (stepAt y s) m (by omega) (by omega)) ?_
    refine qv m_as ?_
    refine qv m_as ?_
    show AWp cx _ _ _
    refine awp_ret ?_
    rw [show canDoR y m s = (covers m (stepAt y s).take, 0) by simp [canDoR, hc0]]
    exact x2 (hr := (rB_)) (hr' := (rI_))
theorem f25 (y : Yd) (m : List Int) (s : Int) (hy : y.steps.length < 1000000) : ACallsF Try.prog 25 [dYd y, ints m, i64 s] (.many [.dv (.bool (canDoR y m s).1), .dv (i64 (canDoR y m s).2)]) := by
  refine callsF_of Try.func25 rfl rfl (by rw [Try.ntmps25]; simp) fun cx hP hn hg => ?_
  rw [Try.ntmps25] at hn
  rw [startF_lk, none_mkM]
  simp only [zipSV, Nat.reduceAdd]
  refine awp_seq ?_
  refine rg ?_
  refine qp m_box ?_
  refine qv m_as ?_
  refine qv m_as ?_
  show AWp cx _ _ _
  refine awp_seq ?_
  refine awp_seq ?_
  refine rg ?_
  refine qv (m_ldpa sz24 ag24) ?_
  refine qv m_mv ?_
  refine qv m_mv ?_
  refine qqF (f68 y m s hy) ?_
  refine qv m_as ?_
  show AWp cx _ _ _
  refine awp_seq ?_
  refine rg ?_
  refine qv m_mv ?_
  refine qv m_neq ?_
  show AWp cx _ _ _
  refine cd (fun hc0 => ?_) (fun hc0 => ?_)
  · try simp at hc0
    refine awp_seq ?_
    refine rg ?_
    refine qv m_mv ?_
    refine qv m_as ?_
    refine qv m_as ?_
    show AWp cx _ _ _
    refine awp_ret ?_
    rw [show canDoR y m s = (false, steppedE y m s) by simp [canDoR, hc0]]
    exact x2 (hr := (rB_)) (hr' := (rI_))
  · try simp at hc0
    refine awp_skip ?_
    show AWp cx _ _ _
    refine awp_seq ?_
    refine rg ?_
    obtain ⟨hv, hm, h0, h1⟩ := stepped_ok hc0
    obtain ⟨hf, he⟩ := fits_of hv hm h0 h1
    obtain ⟨v1, v2, v3, v4⟩ := validate_ok hv
    have hml := allIn_len hm
    have hlt := hf.take
    have hlg := hf.give
    refine qv (m_ldpa sz24 ag24) ?_
    refine qv m_mv ?_
    refine qv m_mv ?_
    refine qqF (f66 y m s (stepAt y s) h0 he hml (by omega) (by omega)) ?_
    refine qv m_as ?_
    refine qv m_as ?_
    show AWp cx _ _ _
    refine awp_ret ?_
    rw [show canDoR y m s = (covers m (stepAt y s).take, 0) by simp [canDoR, hc0]]
    exact x2 (hr := (rB_)) (hr' := (rI_))
theorem f26 (y : Yd) (m : List Int) (s : Int) (hy : y.steps.length < 1000000) : ACallsF Try.prog 26 [dYd y, ints m, i64 s] (.many [rI (doRR y m s).1, .dv (i64 (doRR y m s).2)]) := by
  refine callsF_of Try.func26 rfl rfl (by rw [Try.ntmps26]; simp) fun cx hP hn hg => ?_
  rw [Try.ntmps26] at hn
  rw [startF_lk, none_mkM]
  simp only [zipSV, Nat.reduceAdd]
  refine awp_seq ?_
  refine rg ?_
  refine qp m_box ?_
  refine qv m_as ?_
  refine qv m_as ?_
  show AWp cx _ _ _
  refine awp_seq ?_
  refine awp_seq ?_
  refine rg ?_
  refine qv (m_ldpa sz24 ag24) ?_
  refine qv m_mv ?_
  refine qv m_mv ?_
  refine qqF (f67 y m s hy) ?_
  refine qv m_as ?_
  show AWp cx _ _ _
  refine awp_seq ?_
  refine rg ?_
  refine qv m_mv ?_
  refine qv m_neq ?_
  show AWp cx _ _ _
  refine cd (fun hc0 => ?_) (fun hc0 => ?_)
  · try simp at hc0
    refine awp_seq ?_
    refine rg ?_
    refine qv m_mv ?_
    refine qv m_as ?_
    refine qv m_as ?_
    show AWp cx _ _ _
    refine awp_ret ?_
    rw [show doRR y m s = ([], steppedE y m s) by simp [doRR, hc0]]
    exact x2 (hr := (rN_)) (hr' := (rI_))
  · try simp at hc0
    refine awp_skip ?_
    show AWp cx _ _ _
    refine awp_seq ?_
    refine rg ?_
    obtain ⟨hv, hm, h0, h1⟩ := stepped_ok hc0
    obtain ⟨hf, he⟩ := fits_of hv hm h0 h1
    obtain ⟨v1, v2, v3, v4⟩ := validate_ok hv
    have hml := allIn_len hm
    have hlt := hf.take
    have hlg := hf.give
    refine qv (m_fdp fd24_1) ?_
    refine qv (m_ldp sz22 ag22) ?_
    refine qv m_mv ?_
    first | refine qv (m_ixN el22 sz55) ?_ | refine qv (m_ix el22 sz55) ?_
    refine qv (m_lda sz55 ag55) ?_
    refine qv m_mv ?_
    refine qqF (f69 (stepAt y s) m hf) ?_
    refine qv m_ext ?_
    refine qv m_ext ?_
    refine qv m_as ?_
    refine qv m_as ?_
    show AWp cx _ _ _
    refine awp_ret ?_
    rw [show doRR y m s = afterR (stepAt y s) m by simp [doRR, hc0]]
    exact x2 (hr := (rR_)) (hr' := (rI_))
theorem f27 (y : Yd) (m : List Int) (s : Int) (hy : y.steps.length < 1000000) : ACallsF Try.prog 27 [dYd y, ints m, i64 s] (.many [rI (doRR y m s).1, .dv (i64 (doRR y m s).2)]) := by
  refine callsF_of Try.func27 rfl rfl (by rw [Try.ntmps27]; simp) fun cx hP hn hg => ?_
  rw [Try.ntmps27] at hn
  rw [startF_lk, none_mkM]
  simp only [zipSV, Nat.reduceAdd]
  refine awp_seq ?_
  refine rg ?_
  refine qp m_box ?_
  refine qv m_as ?_
  refine qv m_as ?_
  show AWp cx _ _ _
  refine awp_seq ?_
  refine awp_seq ?_
  refine rg ?_
  refine qv (m_ldpa sz24 ag24) ?_
  refine qv m_mv ?_
  refine qv m_mv ?_
  refine qqF (f68 y m s hy) ?_
  refine qv m_as ?_
  show AWp cx _ _ _
  refine awp_seq ?_
  refine rg ?_
  refine qv m_mv ?_
  refine qv m_neq ?_
  show AWp cx _ _ _
  refine cd (fun hc0 => ?_) (fun hc0 => ?_)
  · try simp at hc0
    refine awp_seq ?_
    refine rg ?_
    refine qv m_mv ?_
    refine qv m_as ?_
    refine qv m_as ?_
    show AWp cx _ _ _
    refine awp_ret ?_
    rw [show doRR y m s = ([], steppedE y m s) by simp [doRR, hc0]]
    exact x2 (hr := (rN_)) (hr' := (rI_))
  · try simp at hc0
    refine awp_skip ?_
    show AWp cx _ _ _
    refine awp_seq ?_
    refine rg ?_
    obtain ⟨hv, hm, h0, h1⟩ := stepped_ok hc0
    obtain ⟨hf, he⟩ := fits_of hv hm h0 h1
    obtain ⟨v1, v2, v3, v4⟩ := validate_ok hv
    have hml := allIn_len hm
    have hlt := hf.take
    have hlg := hf.give
    refine qv (m_ldpa sz24 ag24) ?_
    refine qv m_mv ?_
    refine qv m_mv ?_
    refine qqF (f62 y m s hv hm h0 h1) ?_
    refine qv m_ext ?_
    refine qv m_ext ?_
    refine qv m_as ?_
    refine qv m_as ?_
    show AWp cx _ _ _
    refine awp_ret ?_
    rw [show doRR y m s = doR y m s by simp [doRR, doR, hc0]]
    exact x2 (hr := (rR_)) (hr' := (rI_))
theorem Long_no {y : Yd} (h : Long y = false) : y.steps.length ≤ 100 := by
  simp only [Long, Bool.or_eq_false_iff, decide_eq_false_iff_not] at h
  omega
theorem f5 (y : Yd) (m : List Int) (s : Int) : ACallsF Try.prog 5 [dYd y, ints m, i64 s] (.one (.dv (.bool true))) := by
  refine callsF_of Try.func5 rfl rfl (by rw [Try.ntmps5]; simp) fun cx hP hn hg => ?_
  rw [Try.ntmps5] at hn
  rw [startF_lk, none_mkM]
  simp only [zipSV, Nat.reduceAdd]
  refine awp_seq ?_
  refine rg ?_
  refine qp m_box ?_
  refine qv m_as ?_
  show AWp cx _ _ _
  refine awp_seq ?_
  refine awp_seq ?_
  refine rg ?_
  refine qv (m_ldpa sz24 ag24) ?_
  refine qqF (f16 y) ?_
  refine qx m_mv (fun hg18 => ?_) (fun hg18 => ?_)
  · try simp at hg18
    refine qk ?_
    refine qk ?_
    refine qv m_pk ?_
    show AWp cx _ _ _
    refine cdT (hb := by first | rfl | simp | simp_all) (ht := ?_)
    refine awp_seq ?_
    refine rg ?_
    refine qqF (f18) ?_
    refine qv m_as ?_
    show AWp cx _ _ _
    refine awp_ret ?_
    exact x1 (hr := (rB_))
  · try simp at hg18
    refine qv m_mv ?_
    refine qqF (f17 m) ?_
    refine qv m_pk ?_
    show AWp cx _ _ _
    refine cd (fun hc0 => ?_) (fun hc0 => ?_)
    · try simp at hc0
      refine awp_seq ?_
      refine rg ?_
      refine qqF (f18) ?_
      refine qv m_as ?_
      show AWp cx _ _ _
      refine awp_ret ?_
      exact x1 (hr := (rB_))
    · try simp at hc0
      refine awp_skip ?_
      show AWp cx _ _ _
      refine awp_seq ?_
      refine rg ?_
      have hy : y.steps.length < 1000000 := by have := Long_no hg18; omega
      have hm1 : m.length < 1000000 := by omega
      have hd1 : (doRR y m s).1.length < 1000000 := by have := doRR_len (y := y) (m := m) (s := s); omega
      refine qr (m_bsl el25 ze3 sz3) ?_
      refine qv m_mv ?_
      refine qa1 (m_app1 el25 el25 ze3 sz3 by3) ?_
      refine qv m_as ?_
      show AWp cx _ _ _
      refine awp_seq ?_
      refine rg ?_
      refine qv (m_ldpa sz24 ag24) ?_
      refine qv m_mv ?_
      refine qv m_mv ?_
      refine qqF (f24 y m s hy) ?_
      refine qv m_mv ?_
      refine qv m_ext ?_
      refine qv m_ext ?_
      refine qv m_as ?_
      refine qv m_as ?_
      show AWp cx _ _ _
      refine awp_seq ?_
      refine rg ?_
      refine qv (m_ldpa sz24 ag24) ?_
      refine qv m_mv ?_
      refine qv m_mv ?_
      refine qqF (f25 y m s hy) ?_
      refine qv m_mv ?_
      refine qv m_ext ?_
      refine qv m_ext ?_
      refine qv m_as ?_
      refine qv m_as ?_
      show AWp cx _ _ _
      refine awp_seq ?_
      refine rg ?_
      refine qv (m_ldpa sz24 ag24) ?_
      refine qv m_mv ?_
      refine qv m_mv ?_
      refine qqF (f26 y m s hy) ?_
      refine qv m_mv ?_
      refine qv m_ext ?_
      refine qv m_ext ?_
      refine qv m_as ?_
      refine qv m_as ?_
      show AWp cx _ _ _
      refine awp_seq ?_
      refine rg ?_
      refine qv (m_ldpa sz24 ag24) ?_
      refine qv m_mv ?_
      refine qv m_mv ?_
      refine qqF (f27 y m s hy) ?_
      refine qv m_mv ?_
      refine qv m_ext ?_
      refine qv m_ext ?_
      refine qv m_as ?_
      refine qv m_as ?_
      show AWp cx _ _ _
      refine awp_seq ?_
      refine rd mixed ?_
      refine zv (m_ldpa sz24 ag24) ?_
      refine zqF (R := []) (f28 y) ?_
      refine zv (m_ldpa sz24 ag24) ?_
      refine zqF (R := []) (f29 y) ?_
      refine zv m_eql ?_
      refine zx m_mv (fun hg59 => ?_) (fun hg59 => ?_)
      rotate_left
      · exact absurd hg59 (by simp)
      refine zv m_mv ?_
      refine zv m_mv ?_
      refine zv (m_beq ib4) ?_
      refine zv m_pk ?_
      refine zx m_mv (fun hg64 => ?_) (fun hg64 => ?_)
      rotate_left
      · exact absurd hg64 (by simp)
      refine zv m_mv ?_
      refine zv m_mv ?_
      refine zv m_eql ?_
      refine zv m_pk ?_
      refine zx m_mv (fun hg69 => ?_) (fun hg69 => ?_)
      rotate_left
      · exact absurd hg69 (by simp)
      refine zv m_mv ?_
      refine zv m_mv ?_
      refine zqF (R := [44, 51]) (f21 (doRR y m s).1 (doRR y m s).1 hd1) ?_
      refine zv m_pk ?_
      refine zx m_mv (fun hg74 => ?_) (fun hg74 => ?_)
      rotate_left
      · exact absurd hg74 (by simp)
      refine zv m_mv ?_
      refine zv m_mv ?_
      refine zv m_eql ?_
      refine zv m_pk ?_
      refine zx m_mv (fun hg79 => ?_) (fun hg79 => ?_)
      rotate_left
      · exact absurd hg79 (by simp)
      refine zv m_mv ?_
      refine zv m_mv ?_
      refine zqF (R := [25]) (f21 m m hm1) ?_
      refine zv m_pk ?_
      refine zx m_mv (fun hg84 => ?_) (fun hg84 => ?_)
      rotate_left
      · exact absurd hg84 (by simp)
      refine zqF (R := []) (f18) ?_
      refine zv m_pk ?_
      refine zv m_as ?_
      refine ⟨by rfl, ?_⟩
      show AWp cx _ _ _
      refine awp_ret ?_
      exact x1 (hr := (rB_))
end Go.Ab.Try
