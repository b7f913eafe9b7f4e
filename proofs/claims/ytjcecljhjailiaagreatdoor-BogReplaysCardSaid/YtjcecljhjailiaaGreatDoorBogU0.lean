/- The functions of the bog laws: a company made again from its book. -/
import Derived.Test.YtjcecljhjailiaaGreatDoorBogT1
import Derived.Test.YtjcecljhjailiaaGreatDoorBogG22
import Derived.Test.YtjcecljhjailiaaGreatDoorBogG07
set_option linter.all false
namespace Go.Ab.Tryz
open Go Go.Ab Go.Proofs Go.Ab.Ci Go.Ab.Gx
open Go.Ab.Heap (Az Ah BZ)
open Go.Ab.Heap (Hp Et validate sm)
theorem lM {t g st:Nat} {L:List Tx}:Ev 1 (.sl t g 0 L.length,some (Cy L st))=some (L.length,L.map fun T=>.dv (CY T)):=by
 have h1:(((Cy L st).cells.drop (0 * 1)).take (L.length * 1))=L.map fun T=>SV.dv (CY T):=by
  show ((L.map fun T=>SV.dv (CY T)).drop (0 * 1)).take (L.length * 1)=_
  rw [Nat.zero_mul,List.drop_zero,Nat.mul_one,List.take_of_length_le (by simp)]
 simp only [Ev]
 rw [if_pos ⟨trivial,by simp,by rw [h1,List.all_eq_true];intro x hx;obtain ⟨T,_,rfl⟩:=List.mem_map.1 hx;rfl⟩,h1]
theorem A0N {l:List Tx}:∀ {s:Nat},s < 1000003 -> (∀ T ∈ l,FH T=true) -> (Co s l).length <= l.length * 49:=by
 induction l with
 | nil=>intro s _ _;simp [Co]
 | cons T l ih =>
  intro s hs hl
  have h3:=TK (s:=s) (T:=T) hs
  have h4:=ih (s:=Cj s T) (Fa hs _) fun X hX=>hl X (List.mem_cons_of_mem _ hX)
  have h5:=hl T List.mem_cons_self
  unfold FH at h5
  simp only [Bool.and_eq_true,decide_eq_true_eq] at h5
  simp only [Co,List.length_append,List.length_cons]
  omega
theorem UY {b:Bg} {h:Hp} {n:Int} {c:Cs} (ok:C8 b h n c):(Co 0 c.orders).length <= 4900:=by
 have h1:=A0N (l:=c.orders) (s:=0) (by decide) ok.Gi
 have h2:=ok.ord
 omega
theorem Y2 {b:Bg} {h:Hp} {n:Int} {c:Cs} (ok:C8 b h n c):Aq 100 0 (Co 0 c.orders)=(c.orders,[]):=bA 0 ok.Gi ok.ord
theorem zm {b:Bg} {h:Hp} {n:Int} {c:Cs} (ok:C8 b h n c):AR Tryz.prog 36 [CY (Co 0 c.orders)] (.many [rX c.orders,.dv (CY [])]):=by
 have h1:=f36 (Co 0 c.orders) (by have:=UY ok;omega)
 rwa [Y2 ok] at h1
theorem dB {b:Bg} {h:Hp} {n:Int} {c:Cs} (F:Fn b h n) (ok:C8 b h n c) (r:aD b h n c):Aw Tryz.prog 46 [.dv (KJ b),.dv (Et h),.dv (i64 n),.dv (CY (Co 0 c.orders))] (Ba []) ⟨[.pt 100000 0 0,.dv (i64 (c.orders.length:Int)),.dv (i64 0)],Ba [(100000,Jg b h n c),(100001,Cy c.orders 0)]⟩:=by
 have hr:=Y2 ok
 have h1:=pI b h n (Co 0 c.orders) (by have:=UY ok;omega) F.e (by rw [hr]) (by rw [hr];exact r.ok)
 rw [hr] at h1
 dsimp only at h1
 rw [show cR b h n c.orders c.orders.length=c by unfold cR;rw [List.take_length];exact r.eq] at h1
 exact h1
end Go.Ab.Tryz
