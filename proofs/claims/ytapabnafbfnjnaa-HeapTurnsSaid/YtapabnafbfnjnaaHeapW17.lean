/- The functions of the heap laws, part W17. The walks are written by wip/gen/gw.py. -/
import Derived.Test.YtapabnafbfnjnaaHeap21
import Derived.Test.YtapabnafbfnjnaaHeap18
import Derived.Test.YtapabnafbfnjnaaHeapLA
import Derived.Test.YtapabnafbfnjnaaHeapPT
import Derived.Test.YtapabnafbfnjnaaHeapFacts
import Derived.Test.YtapabnafbfnjnaaHeapPT
set_option linter.all false
namespace Go.Ab.Try
open Go Go.Ab Go.Proofs Go.Ab.Heap

theorem turns_pos {h : Hp} {a : List Int} (e : (turnsR h a).2 = 0) : 0 < (turnsR h a).1 ∧ (countR h).1.tmod (turnsR h a).1 = 0 := by
  unfold turnsR at e ⊢
  split at e
  · rename_i hc; exact absurd e hc
  · rename_i hc
    have hc' : checkE h [a] = 0 := Classical.not_not.1 hc
    rw [if_neg hc]
    split at e
    · rename_i hl
      rw [if_pos hl, count_ok (val_of_check hc')]
      have v := (check1 hc').1
      have := (turn_spec v a).1
      exact ⟨by dsimp only; omega, turn_tmod v a⟩
    · cases e


theorem f17 (h : Hp) (hk : h.links.length ≤ 9223372036854775807) (a : List Int) : ACallsF Try.prog 17 [dHp h, ints a] (.one (.dv (.bool true))) := by
  refine callsF_of Try.func17 rfl rfl (by rw [Try.ntmps17]; simp) fun cx hP hn hg => ?_
  rw [Try.ntmps17] at hn
  rw [startF_lk, none_mkM]
  simp only [List.nil_append, List.append_nil, List.cons_append, zipSV, Nat.reduceAdd]
  refine awp_seq ?_
  refine rg ?_
  refine qp m_box ?_
  refine qv m_as ?_
  show AWp cx _ _ _
  refine awp_seq ?_
  refine awp_seq ?_
  refine rg ?_
  refine qv (m_ldpa sz25 ag25) ?_
  refine qv m_mv ?_
  refine qr (m_bsl el22 ze23 sz23) ?_
  refine qqF (f21 h [a] (by simp) hk) ?_ (ha := (args_cons data_dv (args_cons (data_rows (L := [a]) (by simp only [mkM, reduceIte, Nat.reduceEqDiff] <;> rfl) trivial rfl (fun _ => trivial)) args_nil)))
  show AWp cx _ _ _
  refine cd (fun hc0 => ?_) (fun hc0 => ?_)
  · skip
    refine awp_seq ?_
    refine rg ?_
    refine qqF (f29) ?_
    refine qv m_as ?_
    show AWp cx _ _ _
    refine awp_ret ?_
    exact x1 (hr := (rB_))
  · skip
    have hlg : longB h [a] = false := by simpa using hc0
    have hla := long_args hlg
    
    refine awp_skip ?_
    show AWp cx _ _ _
    refine awp_seq ?_
    refine rg ?_
    refine qv (m_ldpa sz25 ag25) ?_
    refine qqF (f31 h) ?_
    refine qv m_mv ?_
    refine qv m_ext ?_
    refine qv m_ext ?_
    refine qv m_as ?_
    refine qv m_as ?_
    show AWp cx _ _ _
    refine awp_seq ?_
    refine awp_seq ?_
    refine rg ?_
    refine qv m_mv ?_
    refine qv m_eql ?_
    refine qx m_mv (fun hg23 => ?_) (fun hg23 => ?_)
    · try simp at hg23
      refine qv m_mv ?_
      refine qv m_gtr ?_
      refine qv m_pk ?_
      show AWp cx _ _ _
      refine cd (fun hc1 => ?_) (fun hc1 => ?_)
      · try simp at hc1
        refine awp_seq ?_
        refine rg ?_
        refine qqF (f29) ?_
        refine qv m_as ?_
        show AWp cx _ _ _
        refine awp_ret ?_
        exact x1 (hr := (rB_))
      · try simp at hc1
        refine awp_skip ?_
        show AWp cx _ _ _
        refine awp_seq ?_
        refine rg ?_
        refine qv (m_ldpa sz25 ag25) ?_
        refine qv m_mv ?_
        refine qqF (f56 h a) ?_
        refine qv m_mv ?_
        refine qv m_ext ?_
        refine qv m_ext ?_
        refine qv m_as ?_
        refine qv m_as ?_
        show AWp cx _ _ _
        refine awp_seq ?_
        refine rg ?_
        refine qv (m_ldpa sz25 ag25) ?_
        refine qv m_mv ?_
        refine qqF (f57 h a) ?_
        refine qv m_mv ?_
        refine qv m_ext ?_
        refine qv m_ext ?_
        refine qv m_as ?_
        refine qv m_as ?_
        show AWp cx _ _ _
        refine awp_seq ?_
        refine rg ?_
        refine qv m_mv ?_
        refine qv m_mv ?_
        refine qv m_eql ?_
        refine qx m_mv (fun hg43 => ?_) (fun hg43 => ?_)
        rotate_left
        · exact absurd hg43 (by simp)
        refine qv m_mv ?_
        refine qv m_mv ?_
        refine qv m_eql ?_
        refine qv m_pk ?_
        refine qx m_mv (fun hg48 => ?_) (fun hg48 => ?_)
        rotate_left
        · exact absurd hg48 (by simp)
        refine qv m_mv ?_
        refine qv m_neq ?_
        refine qx m_mv (fun hg51 => ?_) (fun hg51 => ?_)
        · skip
          refine qk ?_
          refine qk ?_
          refine qk ?_
          refine qk ?_
          refine qk ?_
          refine qk ?_
          refine qk ?_
          refine qk ?_
          refine qv m_pk ?_
          refine qv m_pk ?_
          refine qv m_mv ?_
          refine qqF (f29) ?_
          refine qv m_pk ?_
          refine qv m_as ?_
          show AWp cx _ _ _
          refine awp_ret ?_
          exact x1 (hr := (rB_))
        · skip
          refine qv m_mv ?_
          refine qv m_gtr ?_
          refine qx m_mv (fun hg54 => ?_) (fun hg54 => ?_)
          rotate_left
          · exact absurd hg54 (by have := (turns_pos (h := h) (a := a) (by simpa using hg51)).1; simp; omega)
          have hnz : (turnsR h a).1 ≠ 0 := by have := (turns_pos (h := h) (a := a) (by simpa using hg51)).1; omega
          refine qv m_mv ?_
          refine qv m_mv ?_
          refine qv m_rem ?_
          refine qv m_eql ?_
          refine qv m_pk ?_
          refine qv m_pk ?_
          refine qv m_pk ?_
          refine qx m_mv (fun hg62 => ?_) (fun hg62 => ?_)
          rotate_left
          · exact absurd hg62 (by have := (turns_pos (h := h) (a := a) (by simpa using hg51)).2; simp [this])
          refine qqF (f29) ?_
          refine qv m_pk ?_
          refine qv m_as ?_
          show AWp cx _ _ _
          refine awp_ret ?_
          exact x1 (hr := (rB_))
    · try simp at hg23
      refine qk ?_
      refine qk ?_
      refine qv m_pk ?_
      show AWp cx _ _ _
      refine cdF (hb := by first | rfl | simp | simp_all) (ht := ?_)
      refine awp_skip ?_
      show AWp cx _ _ _
      refine awp_seq ?_
      refine rg ?_
      refine qv (m_ldpa sz25 ag25) ?_
      refine qv m_mv ?_
      refine qqF (f56 h a) ?_
      refine qv m_mv ?_
      refine qv m_ext ?_
      refine qv m_ext ?_
      refine qv m_as ?_
      refine qv m_as ?_
      show AWp cx _ _ _
      refine awp_seq ?_
      refine rg ?_
      refine qv (m_ldpa sz25 ag25) ?_
      refine qv m_mv ?_
      refine qqF (f57 h a) ?_
      refine qv m_mv ?_
      refine qv m_ext ?_
      refine qv m_ext ?_
      refine qv m_as ?_
      refine qv m_as ?_
      show AWp cx _ _ _
      refine awp_seq ?_
      refine rg ?_
      refine qv m_mv ?_
      refine qv m_mv ?_
      refine qv m_eql ?_
      refine qx m_mv (fun hg43 => ?_) (fun hg43 => ?_)
      rotate_left
      · exact absurd hg43 (by simp)
      refine qv m_mv ?_
      refine qv m_mv ?_
      refine qv m_eql ?_
      refine qv m_pk ?_
      refine qx m_mv (fun hg48 => ?_) (fun hg48 => ?_)
      rotate_left
      · exact absurd hg48 (by simp)
      refine qv m_mv ?_
      refine qv m_neq ?_
      refine qx m_mv (fun hg51 => ?_) (fun hg51 => ?_)
      · skip
        refine qk ?_
        refine qk ?_
        refine qk ?_
        refine qk ?_
        refine qk ?_
        refine qk ?_
        refine qk ?_
        refine qk ?_
        refine qv m_pk ?_
        refine qv m_pk ?_
        refine qv m_mv ?_
        refine qqF (f29) ?_
        refine qv m_pk ?_
        refine qv m_as ?_
        show AWp cx _ _ _
        refine awp_ret ?_
        exact x1 (hr := (rB_))
      · skip
        refine qv m_mv ?_
        refine qv m_gtr ?_
        refine qx m_mv (fun hg54 => ?_) (fun hg54 => ?_)
        rotate_left
        · exact absurd hg54 (by have := (turns_pos (h := h) (a := a) (by simpa using hg51)).1; simp; omega)
        have hnz : (turnsR h a).1 ≠ 0 := by have := (turns_pos (h := h) (a := a) (by simpa using hg51)).1; omega
        refine qv m_mv ?_
        refine qv m_mv ?_
        refine qv m_rem ?_
        refine qv m_eql ?_
        refine qv m_pk ?_
        refine qv m_pk ?_
        refine qv m_pk ?_
        refine qx m_mv (fun hg62 => ?_) (fun hg62 => ?_)
        rotate_left
        · exact absurd hg62 (by have := (turns_pos (h := h) (a := a) (by simpa using hg51)).2; simp [this])
        refine qqF (f29) ?_
        refine qv m_pk ?_
        refine qv m_as ?_
        show AWp cx _ _ _
        refine awp_ret ?_
        exact x1 (hr := (rB_))

end Go.Ab.Try
