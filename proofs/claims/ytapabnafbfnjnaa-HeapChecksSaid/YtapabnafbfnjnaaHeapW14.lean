/- The functions of the heap laws, part W14. The walks are written by wip/gen/gw.py. -/
import Derived.Test.YtapabnafbfnjnaaHeap21
import Derived.Test.YtapabnafbfnjnaaHeap20
import Derived.Test.YtapabnafbfnjnaaHeapLA
import Derived.Test.YtapabnafbfnjnaaHeapPT
import Derived.Test.YtapabnafbfnjnaaHeapFacts
import Derived.Test.YtapabnafbfnjnaaHeapPT
set_option linter.all false
namespace Go.Ab.Try
open Go Go.Ab Go.Proofs Go.Ab.Heap



theorem f14 (h : Hp) (hk : h.links.length ≤ 9223372036854775807) (x : Tri) : ACallsF Try.prog 14 [dHp h, dTri x] (.one (.dv (.bool true))) := by
  refine callsF_of Try.func14 rfl rfl (by rw [Try.ntmps14]; simp) fun cx hP hn hg => ?_
  rw [Try.ntmps14] at hn
  rw [startF_lk, none_mkM]
  simp only [List.nil_append, List.append_nil, List.cons_append, zipSV, Nat.reduceAdd]
  refine awp_seq ?_
  refine rg ?_
  refine qp m_box ?_
  refine qp m_box ?_
  refine qv m_as ?_
  show AWp cx _ _ _
  refine awp_seq ?_
  refine awp_seq ?_
  refine rg ?_
  refine qv (m_ldpa sz25 ag25) ?_
  refine qv (m_fdp fd64_0) ?_
  refine qv (m_ldp sz23 ag23) ?_
  refine qv (m_fdp fd64_1) ?_
  refine qv (m_ldp sz23 ag23) ?_
  refine qv (m_fdp fd64_2) ?_
  refine qv (m_ldp sz23 ag23) ?_
  refine qr (m_bsl el22 ze23 sz23) ?_
  refine qqF (f21 h [x.a, x.b, x.c] (by simp) hk) ?_ (ha := (args_cons data_dv (args_cons (data_rows (L := [x.a, x.b, x.c]) (by simp only [mkM, reduceIte, Nat.reduceEqDiff] <;> rfl) trivial rfl (fun _ => trivial)) args_nil)))
  show AWp cx _ _ _
  refine cd (fun hc0 => ?_) (fun hc0 => ?_)
  · skip
    refine awp_seq ?_
    refine rg ?_
    refine qqF (f29) ?_
    refine qv m_as ?_
    show AWp cx _ _ _
    refine awp_ret ?_
    exact x1 (hr := (rB_))
  · skip
    have hlg : longB h [x.a, x.b, x.c] = false := by simpa using hc0
    have hla := long_args hlg
    
    refine awp_skip ?_
    show AWp cx _ _ _
    refine awp_seq ?_
    refine rd mixed ?_
    refine zv (m_ldpa sz25 ag25) ?_
    refine zv (m_fdp fd64_0) ?_
    refine zv (m_ldp sz23 ag23) ?_
    refine zv (m_fdp fd64_1) ?_
    refine zv (m_ldp sz23 ag23) ?_
    refine zv (m_fdp fd64_2) ?_
    refine zv (m_ldp sz23 ag23) ?_
    refine zqF (R := []) (f49 h x.a x.b x.c (by have := hla.1 x.c (by simp); omega)) ?_
    refine zv (m_ldpa sz25 ag25) ?_
    refine zv (m_fdp fd64_0) ?_
    refine zv (m_ldp sz23 ag23) ?_
    refine zv (m_fdp fd64_1) ?_
    refine zv (m_ldp sz23 ag23) ?_
    refine zv (m_fdp fd64_2) ?_
    refine zv (m_ldp sz23 ag23) ?_
    refine zqF (R := []) (f50 h x.a x.b x.c (by have := hla.1 x.c (by simp); omega)) ?_
    refine zv m_eql ?_
    refine zx m_mv (fun hg32 => ?_) (fun hg32 => ?_)
    rotate_left
    · exact absurd hg32 (by simp)
    refine zqF (R := []) (f29) ?_
    refine zv m_pk ?_
    refine zv m_as ?_
    refine ⟨by rfl, ?_⟩
    show AWp cx _ _ _
    refine awp_ret ?_
    exact x1 (hr := (rB_))

end Go.Ab.Try
