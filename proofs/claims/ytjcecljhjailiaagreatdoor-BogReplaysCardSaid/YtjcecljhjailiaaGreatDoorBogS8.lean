/- The functions of the bog laws: cuttings, part 71. The walks are written by wip/gen/gw.py. -/
import Derived.Test.YtjcecljhjailiaaGreatDoorBogS4
import Derived.Test.YtjcecljhjailiaaGreatDoorBogG21
import Derived.Test.YtjcecljhjailiaaGreatDoorBogG07
set_option linter.all false
namespace Go.Ab.Tryz
open Go Go.Ab Go.Proofs Go.Ab.Ci Go.Ab.Gx
open Go.Ab.Heap (Az Ah BZ)
open Go.Ab.Heap (Hp Et validate sm)
abbrev sD (b:Bg) (h:Hp) (n:Int) (c:Cs):List (Nat × BG):=[(100000,ZY b h n c 0 100001 100003),(100001,Cy c.orders 100004),(100002,⟨rfQ b h n c,0,67,100005,false⟩),(100003,rowIs c.AU 100006),(100004,rowIs c.AX 100007),(100005,Cy c.orders 100008)]
set_option maxHeartbeats 8000000 in
set_option maxRecDepth 100000 in
theorem f31 (b:Bg) (h:Hp) (n:Int) (c:Cs) (F:Fn b h n) (ok:C8 b h n c):Aw Tryz.prog 31 [.pt 100000 0 0,.pt 100002 0 0] (Ba (sD b h n c)) ⟨[.dv (.bool true)],Ba (sD b h n c)⟩:=by
 have h5:=F.vh.n5
 have Uz:=F.bg.n6
 have uM:=ok.hol.len
 have htl:=ok.Mj
 refine DC Tryz.func31 rfl rfl (by rw [Tryz.ntmps31];simp) fun cx hP hn hg=>?_
 rw [Tryz.ntmps31] at hn
 refine Bj ?_
 refine sg ?_
 refine qv A9 ?_
 refine AJ ?_
 refine rd mixed ?_
 refine zv A8 ?_
 refine PX (f50 b h n c F ok) [] [(100000,100000),(100001,100001)] [100000,100001] ?_
 refine zv A8 ?_
 refine zv BR ?_
 refine zv (AB d9) ?_
 refine zv (AL Ak Br) ?_
 refine zv Bv ?_
 refine zx A8 (fun A3C=>?_) (fun A3C=>?_)
 rotate_left
 ·exact absurd A3C ((by simp))
 refine zv A8 ?_
 refine PX (f28 b h n c F ok) [] [(100000,100000),(100001,100001)] [100000,100001] ?_
 refine zv A8 ?_
 refine zv BR ?_
 refine zv (AB Kj) ?_
 refine zv (AL Av Bl) ?_
 refine GA (R:=[100003]) (H.f60 c.AU c.AU (by omega)) ?_ (ha:=(CG Bh (CG (BS (L:=c.AU) (by (first | (simp only [AA,reduceIte,Nat.reduceEqDiff]<;>rfl) | (simp [L8,AA]<;>rfl))) trivial (by first | rfl | (simp;done)) rfl rfl (fun _=>trivial)) EH)))
 refine zv Ai ?_
 refine zx A8 (fun jV=>?_) (fun jV=>?_)
 rotate_left
 ·exact absurd jV ((by simp))
 refine zv A8 ?_
 refine PX (f26 b h n c F ok) [] [(100000,100000),(100001,100001)] [100000,100001] ?_
 refine zv A8 ?_
 refine zv BR ?_
 refine zv (AB Hr) ?_
 refine zv (AL Av Bl) ?_
 refine GA (R:=[100004]) (H.f60 c.AX c.AX (by omega)) ?_ (ha:=(CG Bh (CG (BS (L:=c.AX) (by (first | (simp only [AA,reduceIte,Nat.reduceEqDiff]<;>rfl) | (simp [L8,AA]<;>rfl))) trivial (by first | rfl | (simp;done)) rfl rfl (fun _=>trivial)) EH)))
 refine zv Ai ?_
 refine zx A8 (fun Jm=>?_) (fun Jm=>?_)
 rotate_left
 ·exact absurd Jm ((by simp))
 refine zv A8 ?_
 refine PX (f51 b h n c F ok) [] [(100000,100000),(100001,100001)] [100000,100001] ?_
 refine zv A8 ?_
 refine zv BR ?_
 refine zv (AB Lv) ?_
 refine zv (AL Ak Br) ?_
 refine zv Bv ?_
 refine zv Ai ?_
 refine zx A8 (fun LG=>?_) (fun LG=>?_)
 rotate_left
 ·exact absurd LG ((by simp))
 refine zv A8 ?_
 refine PX (f52 b h n c F ok) [] [(100000,100000),(100001,100001)] [100000,100001] ?_
 refine zv A8 ?_
 refine zv BR ?_
 refine zv (AB Nf) ?_
 refine zv (AL Ak Br) ?_
 refine zv Bv ?_
 refine zv Ai ?_
 refine zx A8 (fun A35=>?_) (fun A35=>?_)
 rotate_left
 ·exact absurd A35 ((by simp))
 refine zv A8 ?_
 refine PX (f53 b h n c F ok) [] [(100000,100000),(100001,100001)] [100000,100001] ?_
 refine zv A8 ?_
 refine zv BR ?_
 refine zv (AB Td) ?_
 refine zv (AL Ak Br) ?_
 refine zv Bv ?_
 refine zv Ai ?_
 refine zx A8 (fun A33=>?_) (fun A33=>?_)
 rotate_left
 ·exact absurd A33 ((by simp))
 refine zv A8 ?_
 refine PX (f54 b h n c F ok) [] [(100000,100000),(100001,100001)] [100000,100001] ?_
 refine zv A8 ?_
 refine zv BR ?_
 refine zv (AB cu) ?_
 refine zv (AL Ak Br) ?_
 refine zv Bv ?_
 refine zv Ai ?_
 refine zx A8 (fun A2Y=>?_) (fun A2Y=>?_)
 rotate_left
 ·exact absurd A2Y ((by simp))
 refine zv A8 ?_
 refine PX (f55 b h n c F ok) [] [(100000,100000),(100001,100001)] [100000,100001] ?_
 refine zv A8 ?_
 refine zv BR ?_
 refine zv (AB Tc) ?_
 refine zv (AL Ak Br) ?_
 refine zv Bv ?_
 refine zv Ai ?_
 refine zx A8 (fun A2X=>?_) (fun A2X=>?_)
 rotate_left
 ·exact absurd A2X ((by simp))
 refine zv A8 ?_
 refine PX (f56 b h n c F ok) [] [(100000,100000),(100001,100001)] [100000,100001] ?_
 refine zv A8 ?_
 refine zv BR ?_
 refine zv (AB Om) ?_
 refine zv (AL H8 YG) ?_
 refine zv (nQ ib4) ?_
 refine zv Ai ?_
 refine zx A8 (fun o9=>?_) (fun o9=>?_)
 rotate_left
 ·exact absurd o9 ((by simp))
 refine zv A8 ?_
 refine PX (f34 b h n c F ok) [] [(100000,100000),(100001,100001)] [100000,100001] ?_
 refine zv A8 ?_
 refine zv BR ?_
 refine zv (AB Cw) ?_
 refine zv (AL Fv Hl) ?_
 refine GA (R:=[100005]) (f47 c.orders (Xb ok)) ?_ (ha:=(CG (Hf (L:=c.orders) (by (first | (simp only [AA,reduceIte,Nat.reduceEqDiff]<;>rfl) | (simp [L8,AA]<;>rfl))) trivial rfl (fun _=>trivial)) EH))
 refine zv D5 ?_
 refine zv Ai ?_
 refine zv A9 ?_
 refine ⟨by rfl,?_⟩
 refine AP ?_
 exact xg [(100000,100000),(100001,100001),(100002,100002),(100003,100003),(100004,100004),(100005,100005)] (h1:=by simp [CV,Al,Ae,Aa,isLive,Ac,Ba,AA,Ch,BK,BJ,CR,Af,BI,BL,BO,BM,BN,Dv])
end Go.Ab.Tryz
