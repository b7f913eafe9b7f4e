/- The functions of the heap laws, part W8. The walks are written by wip/gen/gw.py. -/
import Derived.Test.YtapabnafbfnjnaaHeap21
import Derived.Test.YtapabnafbfnjnaaHeap19
import Derived.Test.YtapabnafbfnjnaaHeapLA
import Derived.Test.YtapabnafbfnjnaaHeapPT
import Derived.Test.YtapabnafbfnjnaaHeapFacts
import Derived.Test.YtapabnafbfnjnaaHeapPT
set_option linter.all false
namespace Go.Ab.Try
open Go Go.Ab Go.Proofs Go.Ab.Heap



set_option maxHeartbeats 4000000 in
theorem f8 (h : Hp) (hk : h.links.length ≤ 9223372036854775807) (a : List Int) (x : Duo) : ACallsF Try.prog 8 [dHp h, ints a, dDuo x] (.one (.dv (.bool true))) := by
  refine callsF_of Try.func8 rfl rfl (by rw [Try.ntmps8]; simp) fun cx hP hn hg => ?_
  rw [Try.ntmps8] at hn
  rw [startF_lk, none_mkM]
  simp only [List.nil_append, List.append_nil, List.cons_append, zipSV, Nat.reduceAdd]
  refine awp_seq ?_
  refine rg ?_
  refine qp m_box ?_
  refine qp m_box ?_
  refine qv m_as ?_
  show AWp cx _ _ _
  refine awp_seq ?_
  refine awp_seq ?_
  refine rg ?_
  refine qv (m_ldpa sz25 ag25) ?_
  refine qv m_mv ?_
  refine qr (m_bsl el22 ze23 sz23) ?_
  refine qqF (f21 h [a] (by simp) hk) ?_ (ha := (args_cons data_dv (args_cons (data_rows (L := [a]) (by simp only [mkM, reduceIte, Nat.reduceEqDiff] <;> rfl) trivial rfl (fun _ => trivial)) args_nil)))
  show AWp cx _ _ _
  refine cd (fun hc0 => ?_) (fun hc0 => ?_)
  · skip
    refine awp_seq ?_
    refine rg ?_
    refine qqF (f29) ?_
    refine qv m_as ?_
    show AWp cx _ _ _
    refine awp_ret ?_
    exact x1 (hr := (rB_))
  · skip
    have hlg : longB h [a] = false := by simpa using hc0
    have hla := long_args hlg
    
    refine awp_skip ?_
    show AWp cx _ _ _
    refine awp_seq ?_
    refine rg ?_
    refine qv (m_ldpa sz25 ag25) ?_
    refine qv m_mv ?_
    refine qv (m_fdp fd51_0) ?_
    refine qv (m_ldp sz3 ag3) ?_
    refine qqF (f38 h a x.i) ?_
    refine qv m_mv ?_
    refine qv m_ext ?_
    refine qv m_ext ?_
    refine qv m_ext ?_
    refine qv m_as ?_
    refine qv m_as ?_
    refine qv m_as ?_
    show AWp cx _ _ _
    refine awp_seq ?_
    refine rg ?_
    refine qv (m_ldpa sz25 ag25) ?_
    refine qv m_mv ?_
    refine qv (m_fdp fd51_0) ?_
    refine qv (m_ldp sz3 ag3) ?_
    refine qqF (f39 h a x.i) ?_
    refine qv m_mv ?_
    refine qv m_ext ?_
    refine qv m_ext ?_
    refine qv m_ext ?_
    refine qv m_as ?_
    refine qv m_as ?_
    refine qv m_as ?_
    show AWp cx _ _ _
    refine awp_seq ?_
    refine awp_seq ?_
    refine rg ?_
    refine qv m_mv ?_
    refine qv m_mv ?_
    refine qqF (f27 (dropR h a x.i).1 (dropR h a x.i).1 dropR_len) ?_ (ha := (args_cons (data_ints (L := (dropR h a x.i).1) (by simp only [mkM, reduceIte, Nat.reduceEqDiff] <;> rfl) trivial (by first | rfl | omega | (simp; done) | (simp; omega)) rfl rfl (fun _ => trivial)) (args_cons (data_ints (L := (dropR h a x.i).1) (by simp only [mkM, reduceIte, Nat.reduceEqDiff] <;> rfl) trivial (by first | rfl | omega | (simp; done) | (simp; omega)) rfl rfl (fun _ => trivial)) args_nil)))
    refine qv m_not ?_
    refine qx m_mv (fun hg49 => ?_) (fun hg49 => ?_)
    · exact absurd hg49 (by simp)
    refine qv m_mv ?_
    refine qv m_mv ?_
    refine qv m_neq ?_
    refine qv m_pk ?_
    refine qx m_mv (fun hg54 => ?_) (fun hg54 => ?_)
    · exact absurd hg54 (by simp)
    refine qv m_mv ?_
    refine qv m_mv ?_
    refine qv m_neq ?_
    refine qv m_pk ?_
    show AWp cx _ _ _
    refine cdF (hb := by simp) (ht := ?_)
    refine awp_skip ?_
    show AWp cx _ _ _
    refine awp_seq ?_
    refine rg ?_
    refine qv (m_ldpa sz25 ag25) ?_
    refine qv m_mv ?_
    refine qv (m_fdp fd51_1) ?_
    refine qv (m_ldp sz3 ag3) ?_
    refine qqF (f38 h a x.k) ?_
    refine qv m_mv ?_
    refine qv m_ext ?_
    refine qv m_ext ?_
    refine qv m_ext ?_
    refine qv m_as ?_
    refine qv m_as ?_
    refine qv m_as ?_
    show AWp cx _ _ _
    refine awp_seq ?_
    refine awp_seq ?_
    refine rg ?_
    refine qv m_mv ?_
    refine qv m_neq ?_
    refine qx m_mv (fun hg70 => ?_) (fun hg70 => ?_)
    · skip
      refine qk ?_
      refine qk ?_
      refine qv m_pk ?_
      show AWp cx _ _ _
      refine cdT (hb := by first | rfl | simp | simp_all) (ht := ?_)
      refine awp_seq ?_
      refine rg ?_
      refine qqF (f29) ?_
      refine qv m_as ?_
      show AWp cx _ _ _
      refine awp_ret ?_
      exact x1 (hr := (rB_))
    · skip
      refine qv m_mv ?_
      refine qv m_neq ?_
      refine qv m_pk ?_
      show AWp cx _ _ _
      refine cd (fun hc2 => ?_) (fun hc2 => ?_)
      · skip
        refine awp_seq ?_
        refine rg ?_
        refine qqF (f29) ?_
        refine qv m_as ?_
        show AWp cx _ _ _
        refine awp_ret ?_
        exact x1 (hr := (rB_))
      · skip
        obtain ⟨d1, d2, d3⟩ := drops_two (h := h) (a := a) (i := x.i) (k := x.k) (by simpa using hg70) (by simpa using hc2)
        refine awp_skip ?_
        show AWp cx _ _ _
        refine awp_seq ?_
        refine rg ?_
        refine qv (m_ldpa sz25 ag25) ?_
        refine qv m_mv ?_
        refine qv (m_fdp fd51_1) ?_
        refine qv (m_ldp sz3 ag3) ?_
        refine qqF (f38 h (dropR h a x.i).1 x.k) ?_ (ha := (args_cons data_dv (args_cons (data_ints (L := (dropR h a x.i).1) (by simp only [mkM, reduceIte, Nat.reduceEqDiff] <;> rfl) trivial (by first | rfl | omega | (simp; done) | (simp; omega)) rfl rfl (fun _ => trivial)) (args_cons data_dv args_nil))))
        refine qv m_mv ?_
        refine qv m_ext ?_
        refine qv m_ext ?_
        refine qv m_ext ?_
        refine qv m_as ?_
        refine qv m_as ?_
        refine qv m_as ?_
        show AWp cx _ _ _
        refine awp_seq ?_
        refine rg ?_
        refine qv (m_ldpa sz25 ag25) ?_
        refine qv m_mv ?_
        refine qv (m_fdp fd51_0) ?_
        refine qv (m_ldp sz3 ag3) ?_
        refine qqF (f38 h (dropR h a x.k).1 x.i) ?_ (ha := (args_cons data_dv (args_cons (data_ints (L := (dropR h a x.k).1) (by simp only [mkM, reduceIte, Nat.reduceEqDiff] <;> rfl) trivial (by first | rfl | omega | (simp; done) | (simp; omega)) rfl rfl (fun _ => trivial)) (args_cons data_dv args_nil))))
        refine qv m_mv ?_
        refine qv m_ext ?_
        refine qv m_ext ?_
        refine qv m_ext ?_
        refine qv m_as ?_
        refine qv m_as ?_
        refine qv m_as ?_
        show AWp cx _ _ _
        refine awp_seq ?_
        refine rg ?_
        refine qv m_mv ?_
        refine qv m_eql ?_
        refine qx m_mv (fun hg95 => ?_) (fun hg95 => ?_)
        rotate_left
        · exact absurd hg95 (by simp [d1])
        refine qv m_mv ?_
        refine qv m_eql ?_
        refine qv m_pk ?_
        refine qx m_mv (fun hg99 => ?_) (fun hg99 => ?_)
        rotate_left
        · exact absurd hg99 (by simp [d2])
        refine qv m_mv ?_
        refine qv m_mv ?_
        refine qqF (f27 (dropR h (dropR h a x.i).1 x.k).1 (dropR h (dropR h a x.k).1 x.i).1 dropR_len) ?_ (ha := (args_cons (data_ints (L := (dropR h (dropR h a x.i).1 x.k).1) (by simp only [mkM, reduceIte, Nat.reduceEqDiff] <;> rfl) trivial (by first | rfl | omega | (simp; done) | (simp; omega)) rfl rfl (fun _ => trivial)) (args_cons (data_ints (L := (dropR h (dropR h a x.k).1 x.i).1) (by simp only [mkM, reduceIte, Nat.reduceEqDiff] <;> rfl) trivial (by first | rfl | omega | (simp; done) | (simp; omega)) rfl rfl (fun _ => trivial)) args_nil)))
        refine qv m_pk ?_
        refine qx m_mv (fun hg104 => ?_) (fun hg104 => ?_)
        rotate_left
        · exact absurd hg104 (by simp [d3])
        refine qqF (f29) ?_
        refine qv m_pk ?_
        refine qv m_as ?_
        show AWp cx _ _ _
        refine awp_ret ?_
        exact x1 (hr := (rB_))

end Go.Ab.Try
