/- BogR1. -/
import Derived.Test.YtjcecljhjailiaaGreatDoorBogG26
import Derived.Test.YtjcecljhjailiaaGreatDoorBogG07
set_option linter.all false
namespace Go.Ab.Tryz
open Go Go.Ab Go.Proofs Go.Ab.Ck Go.Ab.Gi
open Go.Ab.Heap (Az Ap BX)
open Go.Ab.Heap (Hp GX validate sm)
abbrev rfC (b:Bg) (h:Hp) (n:Int) (c:Cs):List SV:=[.dv (.list (b.worth.map ints)),.dv (.list (h.links.map ints)),.dv (ints h.ground),.dv (i64 (b.dep:Int)),.dv (i64 (b.worth.length:Int)),.dv (i64 n),
 .dv (i64 c.day),.dv (i64 (c.Gj:Int)),.dv (i64 c.EL),.dv (i64 c.cut),.dv (i64 c.loaded),.dv (i64 (nI c)),.sl 100001 0 0 c.AU.length,.sl 100002 0 0 c.Ad.length,.dv (.bool c.shut),.sl 100003 0 0 c.orders.length]
abbrev rfB (b:Bg) (h:Hp) (n:Int) (c:Cs) (st:Nat):Au:=⟨rfC b h n c,0,67,st,false⟩
abbrev rowIs (L:List Int) (st:Nat):Au:=⟨L.map fun q=>.dv (.int .i64 q),1,3,st,true⟩
end Go.Ab.Tryz
