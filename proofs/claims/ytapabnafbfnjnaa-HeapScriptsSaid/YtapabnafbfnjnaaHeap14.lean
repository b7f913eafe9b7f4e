/- The functions of the heap laws, part 14. The walks are written by wip/gen/gw.py. -/
import Derived.Test.YtapabnafbfnjnaaHeap15
import Derived.Test.YtapabnafbfnjnaaHeapM1
import Derived.Test.YtapabnafbfnjnaaHeapM2
import Derived.Test.YtapabnafbfnjnaaHeapM3
import Derived.Test.YtapabnafbfnjnaaHeapM4
import Derived.Test.YtapabnafbfnjnaaHeapM5
import Derived.Test.YtapabnafbfnjnaaHeapFacts
import Derived.Test.YtapabnafbfnjnaaHeapPT
set_option linter.all false
namespace Go.Ab.Try
open Go Go.Ab Go.Proofs Go.Ab.Heap
theorem f84 (h : Hp) (v : VH h) (a b : List Int) (ha : a.length = h.ground.length) (hb : b.length = h.ground.length) (hab : ∀ i, i < h.ground.length → (0 ≤ ata a i ∧ ata a i ≤ 30) ∧ 0 ≤ ata b i ∧ ata b i ≤ 30) : ACallsF Try.prog 84 [dHp h, ints a, ints b] (.many [rI (scrR h a b).1, .dv (.bool (scrR h a b).2)]) := by
  have h1 := v.n1
  have h5 := v.n5
  have hc : h.ground.length = 1 ∨ h.ground.length = 2 ∨ h.ground.length = 3 ∨ h.ground.length = 4 ∨ h.ground.length = 5 := by omega
  rcases hc with hN | hN | hN | hN | hN
  · exact f84_1 h v hN a b ha hb hab
  · exact f84_2 h v hN a b ha hb hab
  · exact f84_3 h v hN a b ha hb hab
  · exact f84_4 h v hN a b ha hb hab
  · exact f84_5 h v hN a b ha hb hab
theorem f42 (h : Hp) (a b : List Int) : ACallsF Try.prog 42 [dHp h, ints a, ints b] (.many [rI (scriptR h a b).1, .dv (.bool (scriptR h a b).2.1), .dv (i64 (scriptR h a b).2.2)]) := f42x h a b fun v ha hb hab => f84 h v a b ha hb hab
end Go.Ab.Try
