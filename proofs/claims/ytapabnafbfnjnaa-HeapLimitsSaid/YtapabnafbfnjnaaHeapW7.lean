/- The functions of the heap laws, part W7. The walks are written by wip/gen/gw.py. -/
import Derived.Test.YtapabnafbfnjnaaHeap21
import Derived.Test.YtapabnafbfnjnaaHeap19
import Derived.Test.YtapabnafbfnjnaaHeapPT
import Derived.Test.YtapabnafbfnjnaaHeapFacts
import Derived.Test.YtapabnafbfnjnaaHeapPT
set_option linter.all false
namespace Go.Ab.Try
open Go Go.Ab Go.Proofs Go.Ab.Heap

theorem long_args {h : Hp} {l : List (List Int)} (e : longB h l = false) : (∀ r ∈ l, r.length ≤ 400) ∧ h.ground.length ≤ 50 := by
  unfold longB at e
  simp only [Bool.or_eq_false_iff, decide_eq_false_iff_not] at e
  refine ⟨fun r hr => ?_, by omega⟩
  have := List.any_eq_false.1 e.1.1.1 r hr
  simpa using this


theorem f7 (h : Hp) (hk : h.links.length ≤ 9223372036854775807) (i : Int) : ACallsF Try.prog 7 [dHp h, i64 i] (.one (.dv (.bool true))) := by
  refine callsF_of Try.func7 rfl rfl (by rw [Try.ntmps7]; simp) fun cx hP hn hg => ?_
  rw [Try.ntmps7] at hn
  rw [startF_lk, none_mkM]
  simp only [List.nil_append, List.append_nil, List.cons_append, zipSV, Nat.reduceAdd]
  refine awp_seq ?_
  refine rg ?_
  refine qp m_box ?_
  refine qv m_as ?_
  show AWp cx _ _ _
  refine awp_seq ?_
  refine awp_seq ?_
  refine rg ?_
  refine qv (m_ldpa sz25 ag25) ?_
  refine qqF (f21 h [] (by simp) hk) ?_ (ha := (args_cons data_dv (args_cons .nils args_nil)))
  show AWp cx _ _ _
  refine cd (fun hc0 => ?_) (fun hc0 => ?_)
  · skip
    refine awp_seq ?_
    refine rg ?_
    refine qqF (f29) ?_
    refine qv m_as ?_
    show AWp cx _ _ _
    refine awp_ret ?_
    exact x1 (hr := (rB_))
  · skip
    have hlg : longB h [] = false := by simpa using hc0
    have hla := long_args hlg
    
    refine awp_skip ?_
    show AWp cx _ _ _
    refine awp_seq ?_
    refine rg ?_
    refine qv (m_ldpa sz25 ag25) ?_
    refine qv m_mv ?_
    refine qqF (f20 h i) ?_
    refine qv m_mv ?_
    refine qv m_ext ?_
    refine qv m_ext ?_
    refine qv m_as ?_
    refine qv m_as ?_
    show AWp cx _ _ _
    refine awp_seq ?_
    refine rg ?_
    refine qv (m_ldpa sz25 ag25) ?_
    refine qv m_mv ?_
    refine qqF (f36 h i) ?_
    refine qv m_mv ?_
    refine qv m_ext ?_
    refine qv m_ext ?_
    refine qv m_as ?_
    refine qv m_as ?_
    show AWp cx _ _ _
    refine awp_seq ?_
    refine rd mixed ?_
    refine zv (m_ldpa sz25 ag25) ?_
    refine zqF (R := []) (f24 h) ?_
    refine zv (m_ldpa sz25 ag25) ?_
    refine zqF (R := []) (f37 h) ?_
    refine zv m_eql ?_
    refine zx m_mv (fun hg29 => ?_) (fun hg29 => ?_)
    rotate_left
    · exact absurd hg29 (by simp)
    refine zv m_mv ?_
    refine zv m_mv ?_
    refine zv m_eql ?_
    refine zv m_pk ?_
    refine zx m_mv (fun hg34 => ?_) (fun hg34 => ?_)
    rotate_left
    · exact absurd hg34 (by simp)
    refine zv m_mv ?_
    refine zv m_mv ?_
    refine zv m_eql ?_
    refine zv m_pk ?_
    refine zx m_mv (fun hg39 => ?_) (fun hg39 => ?_)
    rotate_left
    · exact absurd hg39 (by simp)
    refine zqF (R := []) (f29) ?_
    refine zv m_pk ?_
    refine zv m_as ?_
    refine ⟨by rfl, ?_⟩
    show AWp cx _ _ _
    refine awp_ret ?_
    exact x1 (hr := (rB_))

end Go.Ab.Try
