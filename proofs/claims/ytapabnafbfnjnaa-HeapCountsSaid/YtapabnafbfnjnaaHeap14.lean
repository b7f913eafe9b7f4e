/- The functions of the heap laws, part 14. The walks are written by wip/gen/gw.py. -/
import Derived.Test.YtapabnafbfnjnaaHeap15
import Derived.Test.YtapabnafbfnjnaaHeapM1
import Derived.Test.YtapabnafbfnjnaaHeapM2
import Derived.Test.YtapabnafbfnjnaaHeapM3
import Derived.Test.YtapabnafbfnjnaaHeapM4
import Derived.Test.YtapabnafbfnjnaaHeapM5
import Derived.Test.YtapabnafbfnjnaaHeapFacts
import Derived.Test.YtapabnafbfnjnaaHeapPT
set_option linter.all false
namespace Go.Ab.Try
open Go Go.Ab Go.Proofs Go.Ab.Heap
theorem f84 (h : Hp) (v : VH h) (a b : List Int) (ha : a.length = h.ground.length) (hb : b.length = h.ground.length) (hab : ∀ i, i < h.ground.length → (0 ≤ ata a i ∧ ata a i ≤ 30) ∧ 0 ≤ ata b i ∧ ata b i ≤ 30) : ACallsF Try.prog 84 [dHp h, ints a, ints b] (.many [rI (scrR h a b).1, .dv (.bool (scrR h a b).2)]) := by
  have h1 := v.n1
  have h5 := v.n5
  have hc : h.ground.length = 1 ∨ h.ground.length = 2 ∨ h.ground.length = 3 ∨ h.ground.length = 4 ∨ h.ground.length = 5 := by omega
  rcases hc with hN | hN | hN | hN | hN
  · exact f84_1 h v hN a b ha hb hab
  · exact f84_2 h v hN a b ha hb hab
  · exact f84_3 h v hN a b ha hb hab
  · exact f84_4 h v hN a b ha hb hab
  · exact f84_5 h v hN a b ha hb hab
theorem f42 (h : Hp) (a b : List Int) : ACallsF Try.prog 42 [dHp h, ints a, ints b] (.many [rI (scriptR h a b).1, .dv (.bool (scriptR h a b).2.1), .dv (i64 (scriptR h a b).2.2)]) := f42x h a b fun v ha hb hab => f84 h v a b ha hb hab
theorem f30b (h : Hp) (he0 : validate h ≠ 0) : ACallsF Try.prog 30 [dHp h] (.many [.dv (i64 (countR h).1), .dv (i64 (countR h).2)]) := by
  refine callsF_of Try.func30 rfl rfl (by rw [Try.ntmps30]; simp) fun cx hP hn hg => ?_
  rw [Try.ntmps30] at hn
  rw [startF_lk, none_mkM]
  simp only [List.nil_append, List.append_nil, List.cons_append, zipSV, Nat.reduceAdd]
  refine awp_seq ?_
  refine rg ?_
  refine qp m_box ?_
  refine qv m_as ?_
  refine qv m_as ?_
  show AWp cx _ _ _
  refine awp_seq ?_
  refine awp_seq ?_
  refine rg ?_
  refine qv (m_ldpa sz25 ag25) ?_
  refine qqF (f24 h) ?_
  refine qv m_as ?_
  show AWp cx _ _ _
  refine awp_seq ?_
  refine rg ?_
  refine qv m_mv ?_
  refine qv m_neq ?_
  show AWp cx _ _ _
  refine cdT (hb := (by simpa using he0)) (ht := ?_)
  refine awp_seq ?_
  refine rg ?_
  refine qv m_mv ?_
  refine qv m_as ?_
  refine qv m_as ?_
  show AWp cx _ _ _
  refine awp_ret ?_
  exact x2 (hr := (rI_ (by rw [count_bad he0]))) (hr' := (rI_ (by rw [count_bad he0])))
theorem f30 (h : Hp) : ACallsF Try.prog 30 [dHp h] (.many [.dv (i64 (countR h).1), .dv (i64 (countR h).2)]) := by
  by_cases he : validate h = 0
  · have v := vh_of he
    have h1 := v.n1
    have h5 := v.n5
    have hc : h.ground.length = 1 ∨ h.ground.length = 2 ∨ h.ground.length = 3 ∨ h.ground.length = 4 ∨ h.ground.length = 5 := by omega
    rcases hc with hN | hN | hN | hN | hN
    · exact f30_1 h v he hN
    · exact f30_2 h v he hN
    · exact f30_3 h v he hN
    · exact f30_4 h v he hN
    · exact f30_5 h v he hN
  · exact f30b h he
end Go.Ab.Try
