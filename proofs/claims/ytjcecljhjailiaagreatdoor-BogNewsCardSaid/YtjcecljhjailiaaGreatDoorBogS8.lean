/- The functions of the bog laws: cuttings, part 71. The walks are written by wip/gen/gw.py. -/
import Derived.Test.YtjcecljhjailiaaGreatDoorBogS4
import Derived.Test.YtjcecljhjailiaaGreatDoorBogG21
import Derived.Test.YtjcecljhjailiaaGreatDoorBogG07
set_option linter.all false
namespace Go.Ab.Tryz
open Go Go.Ab Go.Proofs Go.Ab.Ck Go.Ab.Gi
open Go.Ab.Heap (Az Ap BX)
open Go.Ab.Heap (Hp GX validate sm)
abbrev yj (b:Bg) (h:Hp) (n:Int) (c:Cs):List (Nat × Au):=[(100000,VQ b h n c 0 100001 100003),(100001,Di c.orders 100004),(100002,⟨rfQ b h n c,0,67,100005,false⟩),(100003,rowIs c.AU 100006),(100004,rowIs c.Ad 100007),(100005,Di c.orders 100008)]
set_option maxHeartbeats 8000000 in
set_option maxRecDepth 100000 in
theorem f31 (b:Bg) (h:Hp) (n:Int) (c:Cs) (F:Fn b h n) (ok:C9 b h n c):BA Tryz.prog 31 [.pt 100000 0 0,.pt 100002 0 0] (Bj (yj b h n c)) ⟨[.dv (.bool true)],Bj (yj b h n c)⟩:=by
 have h5:=F.vh.n5
 have X8:=F.bg.n6
 have tY:=ok.hol.len
 have htl:=ok.MV
 refine EI Tryz.func31 rfl rfl (by rw [Tryz.ntmps31];simp) fun cx hP hn hg=>?_
 rw [Tryz.ntmps31] at hn
 refine CB ?_
 refine sg ?_
 refine qv A9 ?_
 refine AL ?_
 refine rd mixed ?_
 refine zv A8 ?_
 refine UL (f50 b h n c F ok) [] [(100000,100000),(100001,100001)] [100000,100001] ?_
 refine zv A8 ?_
 refine zv CK ?_
 refine zv (AB wU) ?_
 refine zv (AQ Aw Bw) ?_
 refine zv Bl ?_
 refine zx A8 (fun A0C=>?_) (fun A0C=>?_)
 rotate_left
 ·exact absurd A0C ((by simp))
 refine zv A8 ?_
 refine UL (f28 b h n c F ok) [] [(100000,100000),(100001,100001)] [100000,100001] ?_
 refine zv A8 ?_
 refine zv CK ?_
 refine zv (AB wO) ?_
 refine zv (AQ Av Bz) ?_
 refine Kz (R:=[100003]) (H.f60 c.AU c.AU (by omega)) ?_ (ha:=(CV Bo (CV (Bc (L:=c.AU) (by (first | (simp only [AA,reduceIte,Nat.reduceEqDiff]<;>rfl) | (simp [Oe,AA]<;>rfl))) trivial (by first | rfl | (simp;done)) rfl rfl (fun _=>trivial)) FI)))
 refine zv Ae ?_
 refine zx A8 (fun A0A=>?_) (fun A0A=>?_)
 rotate_left
 ·exact absurd A0A ((by simp))
 refine zv A8 ?_
 refine UL (f26 b h n c F ok) [] [(100000,100000),(100001,100001)] [100000,100001] ?_
 refine zv A8 ?_
 refine zv CK ?_
 refine zv (AB qR) ?_
 refine zv (AQ Av Bz) ?_
 refine Kz (R:=[100004]) (H.f60 c.Ad c.Ad (by omega)) ?_ (ha:=(CV Bo (CV (Bc (L:=c.Ad) (by (first | (simp only [AA,reduceIte,Nat.reduceEqDiff]<;>rfl) | (simp [Oe,AA]<;>rfl))) trivial (by first | rfl | (simp;done)) rfl rfl (fun _=>trivial)) FI)))
 refine zv Ae ?_
 refine zx A8 (fun JH=>?_) (fun JH=>?_)
 rotate_left
 ·exact absurd JH ((by simp))
 refine zv A8 ?_
 refine UL (f51 b h n c F ok) [] [(100000,100000),(100001,100001)] [100000,100001] ?_
 refine zv A8 ?_
 refine zv CK ?_
 refine zv (AB wT) ?_
 refine zv (AQ Aw Bw) ?_
 refine zv Bl ?_
 refine zv Ae ?_
 refine zx A8 (fun XC=>?_) (fun XC=>?_)
 rotate_left
 ·exact absurd XC ((by simp))
 refine zv A8 ?_
 refine UL (f52 b h n c F ok) [] [(100000,100000),(100001,100001)] [100000,100001] ?_
 refine zv A8 ?_
 refine zv CK ?_
 refine zv (AB wS) ?_
 refine zv (AQ Aw Bw) ?_
 refine zv Bl ?_
 refine zv Ae ?_
 refine zx A8 (fun A05=>?_) (fun A05=>?_)
 rotate_left
 ·exact absurd A05 ((by simp))
 refine zv A8 ?_
 refine UL (f53 b h n c F ok) [] [(100000,100000),(100001,100001)] [100000,100001] ?_
 refine zv A8 ?_
 refine zv CK ?_
 refine zv (AB wR) ?_
 refine zv (AQ Aw Bw) ?_
 refine zv Bl ?_
 refine zv Ae ?_
 refine zx A8 (fun A02=>?_) (fun A02=>?_)
 rotate_left
 ·exact absurd A02 ((by simp))
 refine zv A8 ?_
 refine UL (f54 b h n c F ok) [] [(100000,100000),(100001,100001)] [100000,100001] ?_
 refine zv A8 ?_
 refine zv CK ?_
 refine zv (AB wQ) ?_
 refine zv (AQ Aw Bw) ?_
 refine zv Bl ?_
 refine zv Ae ?_
 refine zx A8 (fun jw=>?_) (fun jw=>?_)
 rotate_left
 ·exact absurd jw ((by simp))
 refine zv A8 ?_
 refine UL (f55 b h n c F ok) [] [(100000,100000),(100001,100001)] [100000,100001] ?_
 refine zv A8 ?_
 refine zv CK ?_
 refine zv (AB wP) ?_
 refine zv (AQ Aw Bw) ?_
 refine zv Bl ?_
 refine zv Ae ?_
 refine zx A8 (fun zw=>?_) (fun zw=>?_)
 rotate_left
 ·exact absurd zw ((by simp))
 refine zv A8 ?_
 refine UL (f56 b h n c F ok) [] [(100000,100000),(100001,100001)] [100000,100001] ?_
 refine zv A8 ?_
 refine zv CK ?_
 refine zv (AB qQ) ?_
 refine zv (AQ Ga YO) ?_
 refine zv (aN ib4) ?_
 refine zv Ae ?_
 refine zx A8 (fun zq=>?_) (fun zq=>?_)
 rotate_left
 ·exact absurd zq ((by simp))
 refine zv A8 ?_
 refine UL (f34 b h n c F ok) [] [(100000,100000),(100001,100001)] [100000,100001] ?_
 refine zv A8 ?_
 refine zv CK ?_
 refine zv (AB qP) ?_
 refine zv (AQ P9 PS) ?_
 refine Kz (R:=[100005]) (f47 c.orders (VB ok)) ?_ (ha:=(CV (EW (L:=c.orders) (by (first | (simp only [AA,reduceIte,Nat.reduceEqDiff]<;>rfl) | (simp [Oe,AA]<;>rfl))) trivial rfl (fun _=>trivial)) FI))
 refine zv Qq ?_
 refine zv Ae ?_
 refine zv A9 ?_
 refine ⟨by rfl,?_⟩
 refine AV ?_
 exact xg [(100000,100000),(100001,100001),(100002,100002),(100003,100003),(100004,100004),(100005,100005)] (h1:=by simp [Cm,Ar,Aa,AX,isLive,AZ,Bj,AA,DZ,BO,BN,CW,Al,BL,BP,BS,BQ,BR,ED])
end Go.Ab.Tryz
