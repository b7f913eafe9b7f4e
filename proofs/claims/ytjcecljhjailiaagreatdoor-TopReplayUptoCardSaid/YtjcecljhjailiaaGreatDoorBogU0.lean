/- The functions of the bog laws: a company made again from its book. -/
import Derived.Test.YtjcecljhjailiaaGreatDoorBogT1
import Derived.Test.YtjcecljhjailiaaGreatDoorBogG22
import Derived.Test.YtjcecljhjailiaaGreatDoorBogG07
set_option linter.all false
namespace Go.Ab.Tryz
open Go Go.Ab Go.Proofs Go.Ab.Ck Go.Ab.Gi
open Go.Ab.Heap (Az Ap BX)
open Go.Ab.Heap (Hp GX validate sm)
theorem xY {l:List Tx}:∀ {s:Nat},s < 1000003 -> (∀ T ∈ l,Es T=true) -> (Am s l).length <= l.length * 49:=by
 induction l with
 | nil=>intro s _ _;simp [Am]
 | cons T l ih =>
  intro s hs hl
  have h3:=Qw (s:=s) (T:=T) hs
  have h4:=ih (s:=Cn s T) (Gl hs _) fun X hX=>hl X (List.mem_cons_of_mem _ hX)
  have h5:=hl T List.mem_cons_self
  unfold Es at h5
  simp only [Bool.and_eq_true,decide_eq_true_eq] at h5
  simp only [Am,List.length_append,List.length_cons]
  omega
theorem IE {b:Bg} {h:Hp} {n:Int} {c:Cs} (ok:C9 b h n c):(Am 0 c.orders).length <= 4900:=by
 have h1:=xY (l:=c.orders) (s:=0) (by decide) ok.GL
 have h2:=ok.ord
 omega
theorem bY {b:Bg} {h:Hp} {n:Int} {c:Cs} (ok:C9 b h n c):Ak 100 0 (Am 0 c.orders)=(c.orders,[]):=Hu 0 ok.GL ok.ord
theorem VF {b:Bg} {h:Hp} {n:Int} {c:Cs} (ok:C9 b h n c):AR Tryz.prog 36 [Cg (Am 0 c.orders)] (.many [rX c.orders,.dv (Cg [])]):=by
 have h1:=f36 (Am 0 c.orders) (by have:=IE ok;omega)
 rwa [bY ok] at h1
theorem OV {b:Bg} {h:Hp} {n:Int} {c:Cs} (F:Fn b h n) (ok:C9 b h n c) (r:UJ b h n c):BA Tryz.prog 46 [.dv (RX b),.dv (GX h),.dv (i64 n),.dv (Cg (Am 0 c.orders))] (Bj []) ⟨[.pt 100000 0 0,.dv (i64 (c.orders.length:Int)),.dv (i64 0)],Bj [(100000,Il b h n c),(100001,Di c.orders 0)]⟩:=by
 have hr:=bY ok
 have h1:=wX b h n (Am 0 c.orders) (by have:=IE ok;omega) F.e (by rw [hr]) (by rw [hr];exact r.ok)
 rw [hr] at h1
 dsimp only at h1
 rw [show cR b h n c.orders c.orders.length=c by unfold cR;rw [List.take_length];exact r.eq] at h1
 exact h1
end Go.Ab.Tryz
