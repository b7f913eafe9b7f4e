/- The functions of the moss laws, part 19. The walks are written by wip/gen/gw.py. -/
import Derived.Test.YtjipgkhfbfpacaaDoorMoss18
import Derived.Test.YtjipgkhfbfpacaaDoorMossFacts
import Derived.Test.YtjipgkhfbfpacaaDoorMossD
set_option linter.all false
namespace Go.Ab.Tryd
open Go Go.Ab Go.Proofs Go.Ab.Moss

theorem chk_fit {m : Mw} {w : Int} (h : (if wetE m w = 0 then (if onWet m w false coreB = true then 0 else 7) else wetE m w : Int) = 0) : ∃ (n : Mn) (v : Nat), n.Ok ∧ m = n.w ∧ w = (v : Int) ∧ v ≤ full n ∧ rdN n (andn (full n) v) = 0 := by
  by_cases he : wetE m w = 0
  · rw [if_pos he] at h
    obtain ⟨n, v, ok, rfl, rfl, hv⟩ := wetE_ok he
    rw [onWet_ok ok hv] at h
    by_cases hc : coreB n v = true
    · refine ⟨n, v, ok, rfl, rfl, hv, ?_⟩
      have e := core_eq ok (andn_le (n := n) (d := v))
      rw [andn_back hv, hc] at e
      simpa using e.symm
    · rw [if_neg hc] at h; cases h
  · rw [if_neg he] at h; exact absurd h he
/-- A core that is dry stays dry. -/
theorem core_dry {n : Mn} (ok : n.Ok) {v u : Nat} (hu : u ≤ full n) (h0 : rdN n (andn (full n) v) = 0) (h : v &&& u = 0) : v &&& (spr n u).1 = 0 := by
  have hs : Sub u (andn (full n) v) := fun i hi => by
    rw [andn_bit, full_bit]
    have h1 := bit_lt hu hi
    have h2 : (v &&& u).testBit i = false := by rw [h, Nat.zero_testBit]
    rw [Nat.testBit_and, hi, Bool.and_true] at h2
    simp [h1, h2]
  have h3 := spr_least ok h0 u hs
  apply Nat.eq_of_testBit_eq
  intro i
  rw [Nat.testBit_and, Nat.zero_testBit]
  cases hi : (spr n u).1.testBit i with
  | false => simp
  | true =>
    have := h3 i hi
    rw [andn_bit, Bool.and_eq_true] at this
    simpa using this.2


set_option maxHeartbeats 4000000 in
theorem f9 (m : Mw) (c w : Int) : ACallsF Tryd.prog 9 [dMw m, i64 c, i64 w] (.one (.dv (.bool true))) := by
  refine callsF_of Tryd.func9 rfl rfl (by rw [Tryd.ntmps9]; simp) fun cx hP hn hg => ?_
  rw [Tryd.ntmps9] at hn
  rw [startF_lk, none_mkM]
  simp only [List.nil_append, List.append_nil, List.cons_append, zipSV, Nat.reduceAdd]
  refine awp_seq ?_
  refine rg ?_
  refine qp m_box ?_
  refine qv m_as ?_
  show AWp cx _ _ _
  refine awp_seq ?_
  refine rg ?_
  refine qv (m_ldpa sz23 ag23) ?_
  refine qv m_mv ?_
  refine qqF (f35 m c) ?_
  refine qv m_as ?_
  show AWp cx _ _ _
  refine awp_seq ?_
  refine awp_seq ?_
  refine rg ?_
  refine qv m_mv ?_
  refine qv (m_ldpa sz23 ag23) ?_
  refine qv m_mv ?_
  refine qqF (f39 m c) ?_
  refine qv m_neq ?_
  show AWp cx _ _ _
  refine cdF (hb := by simp) (ht := ?_)
  refine awp_skip ?_
  show AWp cx _ _ _
  refine awp_seq ?_
  refine rg ?_
  refine qv (m_ldpa sz23 ag23) ?_
  refine qv m_mv ?_
  refine qqF (f17 m w) ?_
  refine qv m_mv ?_
  refine qv m_ext ?_
  refine qv m_ext ?_
  refine qv m_ext ?_
  refine qv m_as ?_
  refine qv m_as ?_
  refine qv m_as ?_
  show AWp cx _ _ _
  refine awp_seq ?_
  refine rg ?_
  refine qv m_mv ?_
  refine qv m_neq ?_
  refine qx m_mv (fun hg28 => ?_) (fun hg28 => ?_)
  · skip
    refine qk ?_
    refine qk ?_
    refine qv m_pk ?_
    refine qv m_mv ?_
    refine qk ?_
    refine qk ?_
    refine qk ?_
    refine qk ?_
    refine qv m_pk ?_
    refine qv m_mv ?_
    refine qk ?_
    refine qk ?_
    refine qk ?_
    refine qk ?_
    refine qv m_pk ?_
    refine qv m_mv ?_
    refine qqF (f18) ?_
    refine qv m_pk ?_
    refine qv m_as ?_
    show AWp cx _ _ _
    refine awp_ret ?_
    exact x1 (hr := (rB_))
  · skip
    refine qv m_mv ?_
    refine qv m_neq ?_
    refine qv m_pk ?_
    refine qx m_mv (fun hg32 => ?_) (fun hg32 => ?_)
    · skip
      refine qk ?_
      refine qk ?_
      refine qk ?_
      refine qk ?_
      refine qv m_pk ?_
      refine qv m_mv ?_
      refine qk ?_
      refine qk ?_
      refine qk ?_
      refine qk ?_
      refine qv m_pk ?_
      refine qv m_mv ?_
      refine qqF (f18) ?_
      refine qv m_pk ?_
      refine qv m_as ?_
      show AWp cx _ _ _
      refine awp_ret ?_
      exact x1 (hr := (rB_))
    · skip
      obtain ⟨n, v, ok, rfl, rfl, hv, h0⟩ := chk_fit (show _ = (0 : Int) by first | exact hg28 | simpa using hg28)
      obtain ⟨u, rfl, hu⟩ := wetE_ok2 ok (show wetE n.w w = 0 by first | exact hg32 | simpa using hg32)
      rw [onWet_ok ok hu, onWet_ok ok hu]
      have hv36 := le36 ok hv
      have hu36 := le36 ok hu
      have hs36 := le36 ok (spr_full (n := n) u hu)
      refine qv m_mv ?_
      refine qv m_mv ?_
      refine qv (m_andS (ha := hv36) (hb := hu36)) ?_
      refine qv m_neq ?_
      refine qv m_pk ?_
      refine qx m_mv (fun hg38 => ?_) (fun hg38 => ?_)
      · skip
        refine qk ?_
        refine qk ?_
        refine qk ?_
        refine qk ?_
        refine qv m_pk ?_
        refine qv m_mv ?_
        refine qqF (f18) ?_
        refine qv m_pk ?_
        refine qv m_as ?_
        show AWp cx _ _ _
        refine awp_ret ?_
        exact x1 (hr := (rB_))
      · skip
        refine qv m_mv ?_
        refine qv m_mv ?_
        refine qv (m_andS (ha := hv36) (hb := hs36)) ?_
        refine qv m_eql ?_
        refine qv m_pk ?_
        refine qx m_mv (fun hg44 => ?_) (fun hg44 => ?_)
        rotate_left
        · exact absurd hg44 (by first | (simp; done) | (have hz : v &&& u = 0 := (by simpa using hg38); have := core_dry ok hu h0 hz; simp [this]))
        refine qqF (f18) ?_
        refine qv m_pk ?_
        refine qv m_as ?_
        show AWp cx _ _ _
        refine awp_ret ?_
        exact x1 (hr := (rB_))

end Go.Ab.Tryd
