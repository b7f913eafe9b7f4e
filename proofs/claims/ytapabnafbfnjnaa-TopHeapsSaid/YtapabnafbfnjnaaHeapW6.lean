/- The functions of the heap laws, part W6. The walks are written by wip/gen/gw.py. -/
import Derived.Test.YtapabnafbfnjnaaHeap21
import Derived.Test.YtapabnafbfnjnaaHeapLA
import Derived.Test.YtapabnafbfnjnaaHeapPT
import Derived.Test.YtapabnafbfnjnaaHeapFacts
import Derived.Test.YtapabnafbfnjnaaHeapPT
set_option linter.all false
namespace Go.Ab.Try
open Go Go.Ab Go.Proofs Go.Ab.Heap



set_option maxHeartbeats 4000000 in
theorem f6 (h : Hp) (hk : h.links.length ≤ 9223372036854775807) (x : Tri) : ACallsF Try.prog 6 [dHp h, dTri x] (.one (.dv (.bool true))) := by
  refine callsF_of Try.func6 rfl rfl (by rw [Try.ntmps6]; simp) fun cx hP hn hg => ?_
  rw [Try.ntmps6] at hn
  rw [startF_lk, none_mkM]
  simp only [List.nil_append, List.append_nil, List.cons_append, zipSV, Nat.reduceAdd]
  refine awp_seq ?_
  refine rg ?_
  refine qp m_box ?_
  refine qp m_box ?_
  refine qv m_as ?_
  show AWp cx _ _ _
  refine awp_seq ?_
  refine awp_seq ?_
  refine rg ?_
  refine qv (m_ldpa sz25 ag25) ?_
  refine qv (m_fdp fd27_0) ?_
  refine qv (m_ldp sz23 ag23) ?_
  refine qv (m_fdp fd27_1) ?_
  refine qv (m_ldp sz23 ag23) ?_
  refine qv (m_fdp fd27_2) ?_
  refine qv (m_ldp sz23 ag23) ?_
  refine qr (m_bsl el22 ze23 sz23) ?_
  refine qqF (f21 h [x.a, x.b, x.c] (by simp) hk) ?_ (ha := (args_cons data_dv (args_cons (data_rows (L := [x.a, x.b, x.c]) (by simp only [mkM, reduceIte, Nat.reduceEqDiff] <;> rfl) trivial rfl (fun _ => trivial)) args_nil)))
  show AWp cx _ _ _
  refine cd (fun hc0 => ?_) (fun hc0 => ?_)
  · skip
    refine awp_seq ?_
    refine rg ?_
    refine qqF (f29) ?_
    refine qv m_as ?_
    show AWp cx _ _ _
    refine awp_ret ?_
    exact x1 (hr := (rB_))
  · skip
    have hlg : longB h [x.a, x.b, x.c] = false := by simpa using hc0
    have hla := long_args hlg
    
    refine awp_skip ?_
    show AWp cx _ _ _
    refine awp_seq ?_
    refine rg ?_
    refine qv (m_ldpa sz25 ag25) ?_
    refine qv (m_fdp fd27_0) ?_
    refine qv (m_ldp sz23 ag23) ?_
    refine qv (m_fdp fd27_1) ?_
    refine qv (m_ldp sz23 ag23) ?_
    refine qqF (f34 h x.a x.b) ?_
    refine qv m_mv ?_
    refine qv m_ext ?_
    refine qv m_ext ?_
    refine qv m_as ?_
    refine qv m_as ?_
    show AWp cx _ _ _
    refine awp_seq ?_
    refine rg ?_
    refine qv (m_ldpa sz25 ag25) ?_
    refine qv (m_fdp fd27_1) ?_
    refine qv (m_ldp sz23 ag23) ?_
    refine qv (m_fdp fd27_2) ?_
    refine qv (m_ldp sz23 ag23) ?_
    refine qqF (f34 h x.b x.c) ?_
    refine qv m_mv ?_
    refine qv m_ext ?_
    refine qv m_ext ?_
    refine qv m_as ?_
    refine qv m_as ?_
    show AWp cx _ _ _
    refine awp_seq ?_
    refine awp_seq ?_
    refine rg ?_
    refine qv m_mv ?_
    refine qv m_neq ?_
    refine qx m_mv (fun hg49 => ?_) (fun hg49 => ?_)
    · skip
      refine qk ?_
      refine qk ?_
      refine qv m_pk ?_
      show AWp cx _ _ _
      refine cdT (hb := by first | rfl | simp | simp_all) (ht := ?_)
      refine awp_seq ?_
      refine rg ?_
      refine qqF (f29) ?_
      refine qv m_as ?_
      show AWp cx _ _ _
      refine awp_ret ?_
      exact x1 (hr := (rB_))
    · skip
      refine qv m_mv ?_
      refine qv m_neq ?_
      refine qv m_pk ?_
      show AWp cx _ _ _
      refine cd (fun hc1 => ?_) (fun hc1 => ?_)
      · skip
        refine awp_seq ?_
        refine rg ?_
        refine qqF (f29) ?_
        refine qv m_as ?_
        show AWp cx _ _ _
        refine awp_ret ?_
        exact x1 (hr := (rB_))
      · skip
        obtain ⟨t1, t2, t3, t4, t5, t6⟩ := sums_three (h := h) (a := x.a) (b := x.b) (c := x.c) (by simpa using hg49) (by simpa using hc1)
        refine awp_skip ?_
        show AWp cx _ _ _
        refine awp_seq ?_
        refine rg ?_
        refine qv (m_ldpa sz25 ag25) ?_
        refine qv m_mv ?_
        refine qv (m_fdp fd27_2) ?_
        refine qv (m_ldp sz23 ag23) ?_
        refine qqF (f34 h (addR h x.a x.b).1 x.c) ?_ (ha := (args_cons data_dv (args_cons (data_ints (L := (addR h x.a x.b).1) (by simp only [mkM, reduceIte, Nat.reduceEqDiff] <;> rfl) trivial (by first | rfl | omega | (simp; done) | (simp; omega)) rfl rfl (fun _ => trivial)) (args_cons data_dv args_nil))))
        refine qv m_mv ?_
        refine qv m_ext ?_
        refine qv m_ext ?_
        refine qv m_as ?_
        refine qv m_as ?_
        show AWp cx _ _ _
        refine awp_seq ?_
        refine rg ?_
        refine qv (m_ldpa sz25 ag25) ?_
        refine qv (m_fdp fd27_0) ?_
        refine qv (m_ldp sz23 ag23) ?_
        refine qv m_mv ?_
        refine qqF (f34 h x.a (addR h x.b x.c).1) ?_ (ha := (args_cons data_dv (args_cons data_dv (args_cons (data_ints (L := (addR h x.b x.c).1) (by simp only [mkM, reduceIte, Nat.reduceEqDiff] <;> rfl) trivial (by first | rfl | omega | (simp; done) | (simp; omega)) rfl rfl (fun _ => trivial)) args_nil))))
        refine qv m_mv ?_
        refine qv m_ext ?_
        refine qv m_ext ?_
        refine qv m_as ?_
        refine qv m_as ?_
        show AWp cx _ _ _
        refine awp_seq ?_
        refine rg ?_
        refine qv (m_ldpa sz25 ag25) ?_
        refine qv (m_fdp fd27_0) ?_
        refine qv (m_ldp sz23 ag23) ?_
        refine qqF (f25 h x.a) ?_ (hS := (res_rrdd (d2 := 1074) rfl (by (simp only [mkM, reduceIte, Nat.reduceEqDiff] <;> rfl)) (by (simp only [mkM, reduceIte, Nat.reduceEqDiff] <;> rfl))))
        refine qv m_mv ?_
        refine qv m_ext ?_
        refine qv m_ext ?_
        refine qv m_ext ?_
        refine qv m_ext ?_
        refine qv m_as ?_
        refine qv m_as ?_
        refine qv m_as ?_
        refine qv m_as ?_
        show AWp cx _ _ _
        refine awp_seq ?_
        refine rg ?_
        refine qv (m_ldpa sz25 ag25) ?_
        refine qv m_mv ?_
        refine qv m_mv ?_
        refine qqF (f34 h (settleR h x.a).1 (addR h x.b x.c).1) ?_ (ha := (args_cons data_dv (args_cons (data_ints (L := (settleR h x.a).1) (by simp only [mkM, reduceIte, Nat.reduceEqDiff] <;> rfl) trivial (by first | rfl | omega | (simp; done) | (simp; omega)) rfl rfl (fun _ => trivial)) (args_cons (data_ints (L := (addR h x.b x.c).1) (by simp only [mkM, reduceIte, Nat.reduceEqDiff] <;> rfl) trivial (by first | rfl | omega | (simp; done) | (simp; omega)) rfl rfl (fun _ => trivial)) args_nil))))
        refine qv m_mv ?_
        refine qv m_ext ?_
        refine qv m_ext ?_
        refine qv m_as ?_
        refine qv m_as ?_
        show AWp cx _ _ _
        refine awp_seq ?_
        refine rg ?_
        refine qv m_mv ?_
        refine qv m_eql ?_
        refine qx m_mv (fun hg88 => ?_) (fun hg88 => ?_)
        rotate_left
        · exact absurd hg88 (by simp [t1])
        refine qv m_mv ?_
        refine qv m_eql ?_
        refine qv m_pk ?_
        refine qx m_mv (fun hg92 => ?_) (fun hg92 => ?_)
        rotate_left
        · exact absurd hg92 (by simp [t2])
        refine qv m_mv ?_
        refine qv m_eql ?_
        refine qv m_pk ?_
        refine qx m_mv (fun hg96 => ?_) (fun hg96 => ?_)
        rotate_left
        · exact absurd hg96 (by simp [t3])
        refine qv m_mv ?_
        refine qv m_eql ?_
        refine qv m_pk ?_
        refine qx m_mv (fun hg100 => ?_) (fun hg100 => ?_)
        rotate_left
        · exact absurd hg100 (by simp [t4])
        refine qv m_mv ?_
        refine qv m_mv ?_
        refine qqF (f27 (addR h (addR h x.a x.b).1 x.c).1 (addR h x.a (addR h x.b x.c).1).1 addR_len) ?_ (ha := (args_cons (data_ints (L := (addR h (addR h x.a x.b).1 x.c).1) (by simp only [mkM, reduceIte, Nat.reduceEqDiff] <;> rfl) trivial (by first | rfl | omega | (simp; done) | (simp; omega)) rfl rfl (fun _ => trivial)) (args_cons (data_ints (L := (addR h x.a (addR h x.b x.c).1).1) (by simp only [mkM, reduceIte, Nat.reduceEqDiff] <;> rfl) trivial (by first | rfl | omega | (simp; done) | (simp; omega)) rfl rfl (fun _ => trivial)) args_nil)))
        refine qv m_pk ?_
        refine qx m_mv (fun hg105 => ?_) (fun hg105 => ?_)
        rotate_left
        · exact absurd hg105 (by simp [t5])
        refine qv m_mv ?_
        refine qv m_mv ?_
        refine qqF (f27 (addR h (settleR h x.a).1 (addR h x.b x.c).1).1 (addR h x.a (addR h x.b x.c).1).1 addR_len) ?_ (ha := (args_cons (data_ints (L := (addR h (settleR h x.a).1 (addR h x.b x.c).1).1) (by simp only [mkM, reduceIte, Nat.reduceEqDiff] <;> rfl) trivial (by first | rfl | omega | (simp; done) | (simp; omega)) rfl rfl (fun _ => trivial)) (args_cons (data_ints (L := (addR h x.a (addR h x.b x.c).1).1) (by simp only [mkM, reduceIte, Nat.reduceEqDiff] <;> rfl) trivial (by first | rfl | omega | (simp; done) | (simp; omega)) rfl rfl (fun _ => trivial)) args_nil)))
        refine qv m_pk ?_
        refine qx m_mv (fun hg110 => ?_) (fun hg110 => ?_)
        rotate_left
        · exact absurd hg110 (by simp [t6])
        refine qqF (f29) ?_
        refine qv m_pk ?_
        refine qv m_as ?_
        show AWp cx _ _ _
        refine awp_ret ?_
        exact x1 (hr := (rB_))

end Go.Ab.Try
