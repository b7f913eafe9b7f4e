/- The functions of the bog laws: cuttings, part 75. The walks are written by wip/gen/gw.py. -/
import Derived.Test.YtjcecljhjailiaaGreatDoorBogS8
import Derived.Test.YtjcecljhjailiaaGreatDoorBogR8
import Derived.Test.YtjcecljhjailiaaGreatDoorBogG28
import Derived.Test.YtjcecljhjailiaaGreatDoorBogG07
set_option linter.all false
namespace Go.Ab.Tryz
open Go Go.Ab Go.Proofs Go.Ab.Ci Go.Ab.Gx
open Go.Ab.Heap (Az Ah BZ)
open Go.Ab.Heap (Hp Et validate sm)
abbrev A1S (b:Bg) (h:Hp) (n:Int) (c:Cs):List (Nat × BG):=[(100000,ZY b h n c 0 100001 100003),(100001,Cy c.orders 0),(100002,⟨rfQ b h n c,0,67,100005,false⟩),(100003,rowIs c.AU 0),(100004,rowIs c.AX 0),(100005,Cy c.orders 0)]
theorem wQ {b:Bg} {h:Hp} {n:Int} {c:Cs}:Fb b h n c []=c:=rfl
set_option maxHeartbeats 4000000 in
set_option maxRecDepth 100000 in
theorem f43x (b:Bg) (h:Hp) (n:Int) (c:Cs) (F:Fn b h n) (ok:C8 b h n c) (L:List Tx) (hL:L.length <= 1000) (htx:∀ i (hi:i < L.length),L[i].length < 2000000):Aw Tryz.prog 43 [.pt 100000 0 0,.pt 100002 0 0,.dv (Gi L)] (Ba (sD b h n c)) ⟨[.dv (.bool true)],Ba (A1S b h n (Fb b h n c (L.take L.length)))⟩:=by
 refine DC Tryz.func43 rfl rfl (by rw [Tryz.ntmps43];simp) fun cx hP hn hg=>?_
 rw [Tryz.ntmps43] at hn
 refine Bj ?_
 refine sg ?_
 refine qv A9 ?_
 refine AJ ?_
 refine sg ?_
 refine qv A9 ?_
 refine BD ?_
 refine Eu.le (yZ [(100000,0,some (ZY b h n c 0 100001 100003)),(100001,0,some (Cy c.orders 0)),(100002,0,some ⟨rfQ b h n c,0,67,100005,false⟩),(100003,0,some (rowIs c.AU 0)),(100004,0,some (rowIs c.AX 0)),(100005,0,some (Cy c.orders 0))] ⟨rfl,rfl,.inl rfl,rfl,rfl,.inr ⟨Nat.le_of_ble_eq_true rfl,rfl⟩,rfl,rfl,.inl rfl,rfl,rfl,.inr ⟨Nat.le_of_ble_eq_true rfl,rfl⟩,rfl,rfl,.inr ⟨Nat.le_of_ble_eq_true rfl,rfl⟩,rfl,rfl,.inr ⟨Nat.le_of_ble_eq_true rfl,rfl⟩,trivial⟩) ?_
 refine Ag (ι:=Nat) (fun i=>⟨lk [(0,.pt 100000 0 0),(1,.pt 100002 0 0),(2,.dv (.list ((L).map CY))),(7,.dv (i64 (i:Nat)))],AA [(100000,0,some (ZY b h n (Fb b h n c (L.take i)) 0 100001 100003)),(100002,0,some ⟨rfQ b h n (Fb b h n c (L.take i)),0,67,100005,false⟩),(100001,0,some (Cy ((Fb b h n c (L.take i))).orders 0)),(100003,0,some (rowIs ((Fb b h n c (L.take i))).AU 0)),(100004,0,some (rowIs ((Fb b h n c (L.take i))).AX 0)),(100005,0,some (Cy ((Fb b h n c (L.take i))).orders 0))]⟩) (fun i=>i <= L.length) (fun i=>L.length - i) 0 (by simp) (tl [(100000,100000),(100002,100002),(100001,100001),(100003,100003),(100004,100004),(100005,100005)] (hF:=by simp [Ck,Aa,lk,AA,isLive,Ac,wQ]) (hM:=by simp [CV,Al,Aa,Ae,lk,AA,isLive,Ac,BK,BJ,Af,BI,BL,BO,BM,BN,wQ])) ?_
 intro i Aj
 refine AJ ?_
 refine sg ?_
 iterate 2 refine qv A8 ?_
 refine qv (BH Dg) ?_
 refine qv BQ ?_
 refine cd (fun hc0=>?_) (fun hc0=>?_)
 ·try simp at hc0
  refine AY ?_
  refine AJ ?_
  refine BD ?_
  refine AJ ?_
  refine rd mixed ?_
  have hi:i < L.length:=by omega
  have hx:L[i]?=some L[i]:=List.getElem?_eq_getElem hi
  have Sr:=Pn F (L.take i) ok
  have hst:=Gm (b:=b) (h:=h) (n:=n) (c:=c) hi
  have hdo:=f24 b h n (Fb b h n c (L.take i)) F Sr L[i] (htx i hi)
  have hre:=f30 b h n (Fb b h n c (L.take i)) F Sr L[i] (htx i hi)
  rw [<- hst] at hdo hre
  iterate 3 refine zv A8 ?_
  first | refine zv (BA CF DZ) ?_ | refine zv (Bd CF DZ) ?_
  refine zv (Bb DZ Mk) ?_
  refine PX (hdo) [] [(100000,100000),(100001,100001)] [100000,100001] ?_
  iterate 3 refine zv A8 ?_
  first | refine zv (BA CF DZ) ?_ | refine zv (Bd CF DZ) ?_
  refine zv (Bb DZ Mk) ?_
  refine PX (hre) [] [(100000,100002),(100001,100003),(100002,100004),(100003,100005)] [100002,100003,100004,100005] ?_
  refine zv BP ?_
  refine ⟨by rfl,?_⟩
  refine Cv (hb:=(by simp)) (ht:=?_)
  refine AY ?_
  refine rg ?_
  refine qv A8 ?_
  refine qv Am ?_
  refine qv A9 ?_
  exact ⟨i+1,hi,(by simp only;omega),(tl [(100000,100000),(100002,100002),(100001,100001),(100003,100003),(100004,100004),(100005,100005)])⟩
 ·try simp at hc0
  obtain rfl:i=L.length:=by omega
  refine Ad ?_
  refine sg ?_
  refine qv A9 ?_
  refine AP ?_
  exact xg [(100000,100000),(100001,100001),(100002,100002),(100003,100003),(100004,100004),(100005,100005)] (h1:=by simp [CV,Al,Ae,Aa,isLive,Ac,Ba,AA,Ch,BK,BJ,CR,Af,BI,BL,BO,BM,BN,Dv])
theorem f43 (b:Bg) (h:Hp) (n:Int) (c:Cs) (F:Fn b h n) (ok:C8 b h n c) (L:List Tx) (hL:L.length <= 1000) (htx:∀ i (hi:i < L.length),L[i].length < 2000000):Aw Tryz.prog 43 [.pt 100000 0 0,.pt 100002 0 0,.dv (Gi L)] (Ba (sD b h n c)) ⟨[.dv (.bool true)],Ba (A1S b h n (Fb b h n c L))⟩:=by
 have h1:=f43x b h n c F ok L hL htx
 rwa [List.take_length] at h1
end Go.Ab.Tryz
