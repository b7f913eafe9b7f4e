/- The functions of the bog laws: cuttings, part 15. The walks are written by wip/gen/gw.py. -/
import Derived.Test.YtjcecljhjailiaaGreatDoorBogB4
import Derived.Test.YtjcecljhjailiaaGreatDoorBogG07
set_option linter.all false
namespace Go.Ab.Tryz
open Go Go.Ab Go.Proofs Go.Ab.Ci Go.Ab.Gx
open Go.Ab.Heap (Az Ah BZ)
section
variable {P:Program} {S:St} {x:Operand} {t:TypeId} {tg g o sz:Nat}
theorem fM {L:List Tx} {T:Tx} {i:Nat} {st:Nat} (hs:FC P t=some 1) (ha:Fy P t=some false) (hq:L[i]?=some T) (hx:S.look x=(.pt tg g o,some ⟨L.map fun T=>.dv (CY T),1,9,st,true⟩):=by (simp only [St.look,St.ev,lk,AA,AV,Au,Ar,reduceIte,Nat.reduceAdd,Nat.reduceEqDiff,Nat.reduceMul]<;>rfl)) (ho:o=i:=by first | rfl | (simp;done) | omega | (simp;omega)) :
  AZ P S (.load t x)=some (.val (.dv (CY T))):=by
 refine AL hs ha (hx:=hx) (hc:=?_)
 subst ho
 show (L.map fun T=>SV.dv (CY T))[o]?=_
 rw [List.getElem?_map,hq];rfl
end
end Go.Ab.Tryz
