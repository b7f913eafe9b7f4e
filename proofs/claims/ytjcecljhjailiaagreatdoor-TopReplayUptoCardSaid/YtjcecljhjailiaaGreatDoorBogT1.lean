/- The functions of the bog laws: cuttings, part 73. The walks are written by wip/gen/gw.py. -/
import Derived.Test.YtjcecljhjailiaaGreatDoorBogG26
import Derived.Test.YtjcecljhjailiaaGreatDoorBogB5
import Derived.Test.YtjcecljhjailiaaGreatDoorBogG22
import Derived.Test.YtjcecljhjailiaaGreatDoorBogG07
set_option linter.all false
namespace Go.Ab.Tryz
open Go Go.Ab Go.Proofs Go.Ab.Ck Go.Ab.Gi
open Go.Ab.Heap (Az Ap BX)
open Go.Ab.Heap (Hp GX validate sm)
noncomputable abbrev cR (b:Bg) (h:Hp) (n:Int) (l:List Tx) (i:Nat):Cs:=JC b h n (cs0 b.worth.length) (l.take i)
theorem rY {b:Bg} {h:Hp} {n:Int} {l:List Tx}:cR b h n l 0=cs0 b.worth.length:=rfl
theorem Xy {b:Bg} {h:Hp} {n:Int} (F:Fn b h n) (l:List Tx) (i:Nat):C9 b h n (cR b h n l i):=JW F _ (J5 F)
theorem vF {B:Tx}:∀ T ∈ (Ak 100 0 B).1,T.length <= 40:=fun T hT=>by
 have h:=(Gz 100 0 B).2.1 T hT
 unfold Es at h
 simp only [Bool.and_eq_true,decide_eq_true_eq] at h
 omega
set_option maxHeartbeats 4000000 in
set_option maxRecDepth 100000 in
theorem qY (b:Bg) (h:Hp) (n:Int) (B:Tx) (hB:B.length < 2000000) (hE:newE b h n ≠ 0):BA Tryz.prog 46 [.dv (RX b),.dv (GX h),.dv (i64 n),.dv (Cg B)] (Bj []) ⟨[.dv .CU,.dv (i64 0),.dv (i64 (newE b h n))],Bj []⟩:=by
 refine EI Tryz.func46 rfl rfl (by rw [Tryz.ntmps46];simp) fun cx hP hn hg=>?_
 rw [Tryz.ntmps46] at hn
 refine CB ?_
 refine sg ?_
 iterate 2 refine qp Bu ?_
 iterate 3 refine qv A9 ?_
 refine sg ?_
 refine qv (AY Dw EC) ?_
 refine qv (AY Dp Dt) ?_
 refine qv A8 ?_
 refine CY (NU b h n hE) [] [] [] ?_
 refine qv A8 ?_
 iterate 2 refine qv BZ ?_
 iterate 2 refine qv A9 ?_
 refine AL ?_
 refine sg ?_
 refine qv A8 ?_
 refine qv Ay ?_
 refine G5 (hb:=(by simp [hE])) (ht:=?_)
 refine sg ?_
 refine qv A8 ?_
 iterate 3 refine qv A9 ?_
 refine AV ?_
 exact xg []
set_option maxHeartbeats 4000000 in
set_option maxRecDepth 100000 in
theorem kr (b:Bg) (h:Hp) (n:Int) (B:Tx) (hB:B.length < 2000000) (hE:newE b h n=0) (hr:(Ak 100 0 B).2 ≠ []):BA Tryz.prog 46 [.dv (RX b),.dv (GX h),.dv (i64 n),.dv (Cg B)] (Bj []) ⟨[.dv .CU,.dv (i64 0),.dv (i64 12)],Bj []⟩:=by
 refine EI Tryz.func46 rfl rfl (by rw [Tryz.ntmps46];simp) fun cx hP hn hg=>?_
 rw [Tryz.ntmps46] at hn
 refine CB ?_
 refine sg ?_
 iterate 2 refine qp Bu ?_
 iterate 3 refine qv A9 ?_
 refine sg ?_
 refine qv (AY Dw EC) ?_
 refine qv (AY Dp Dt) ?_
 refine qv A8 ?_
 refine CY (M9 b h n hE) [] [] [100000,100001] ?_
 refine qv A8 ?_
 iterate 2 refine qv BZ ?_
 iterate 2 refine qv A9 ?_
 refine AL ?_
 refine sg ?_
 refine qv A8 ?_
 refine qv Ay ?_
 refine Dy (hb:=(by rfl)) (ht:=?_)
 refine Af ?_
 refine sg ?_
 refine qv A8 ?_
 refine CF (f36 B hB) ?_ (hS:=(EN (by (simp only [AA,reduceIte,Nat.reduceEqDiff]<;>rfl))))
 refine qv A8 ?_
 iterate 2 refine qv BZ ?_
 iterate 2 refine qv A9 ?_
 refine AL ?_
 refine sg ?_
 refine qv A8 ?_
 refine qv DY ?_
 refine G5 (hb:=(by simp [hr])) (ht:=?_)
 refine sg ?_
 iterate 3 refine qv A9 ?_
 refine AV ?_
 exact xg []
set_option maxHeartbeats 4000000 in
set_option maxRecDepth 100000 in
theorem wX (b:Bg) (h:Hp) (n:Int) (B:Tx) (hB:B.length < 2000000) (hE:newE b h n=0) (hr:(Ak 100 0 B).2=[]) (ho:∀ j (hj:j < (Ak 100 0 B).1.length),Oz b (cR b h n (Ak 100 0 B).1 j) (Ak 100 0 B).1[j]=0):BA Tryz.prog 46 [.dv (RX b),.dv (GX h),.dv (i64 n),.dv (Cg B)] (Bj []) ⟨[.pt 100000 0 0,.dv (i64 ((Ak 100 0 B).1.length:Int)),.dv (i64 0)],Bj [(100000,Il b h n (cR b h n (Ak 100 0 B).1 (Ak 100 0 B).1.length)),(100001,Di (cR b h n (Ak 100 0 B).1 (Ak 100 0 B).1.length).orders 0)]⟩:=by
 have F:=JJ hE
 have hlen:=(Gz 100 0 B).2.2
 have htx:=vF (B:=B)
 refine EI Tryz.func46 rfl rfl (by rw [Tryz.ntmps46];simp) fun cx hP hn hg=>?_
 rw [Tryz.ntmps46] at hn
 refine CB ?_
 refine sg ?_
 iterate 2 refine qp Bu ?_
 iterate 3 refine qv A9 ?_
 refine sg ?_
 refine qv (AY Dw EC) ?_
 refine qv (AY Dp Dt) ?_
 refine qv A8 ?_
 refine CY (M9 b h n hE) [] [] [100000,100001] ?_
 refine qv A8 ?_
 iterate 2 refine qv BZ ?_
 iterate 2 refine qv A9 ?_
 refine AL ?_
 refine sg ?_
 refine qv A8 ?_
 refine qv Ay ?_
 refine Dy (hb:=(by rfl)) (ht:=?_)
 refine Af ?_
 refine sg ?_
 refine qv A8 ?_
 refine CF (f36 B hB) ?_ (hS:=(EN (by (simp only [AA,reduceIte,Nat.reduceEqDiff]<;>rfl))))
 refine qv A8 ?_
 iterate 2 refine qv BZ ?_
 iterate 2 refine qv A9 ?_
 refine AL ?_
 refine sg ?_
 refine qv A8 ?_
 refine qv DY ?_
 refine Dy (hb:=(by simp [hr])) (ht:=?_)
 refine Af ?_
 refine AL ?_
 refine sg ?_
 refine qv A8 ?_
 refine qv (CZ Ce) ?_
 refine qv A8 ?_
 refine BI ?_
 refine Ao (ι:=Nat) (fun i=>⟨lk [(11,.pt 100000 0 0),(13,.sl 30 0 0 ((Ak 100 0 B).1).length),(35,.sl 30 0 0 ((Ak 100 0 B).1).length),(36,.dv (i64 ((((Ak 100 0 B).1).length:Nat)))),(37,.dv (i64 (i:Nat)))],AA [(100000,0,some (Il b h n (cR b h n (Ak 100 0 B).1 i))),(30,0,some (Jz ((Ak 100 0 B).1))),(100001,0,some (Di ((cR b h n (Ak 100 0 B).1 i)).orders 0))]⟩) (fun i=>i <= (Ak 100 0 B).1.length) (fun i=>(Ak 100 0 B).1.length - i) 0 (by simp) (tl [(100000,100000),(30,30),(100001,100001)] (hF:=by simp [DK,AX,lk,AA,isLive,AZ,rY,cs0,CW]) (hM:=by simp [Cm,Ar,AX,Aa,lk,AA,isLive,AZ,BO,BN,Al,BL,BP,BS,BQ,BR,rY,cs0,CW])) ?_
 intro i BM
 refine sg ?_
 refine qv BK ?_
 refine AL ?_
 refine cd (fun hc2=>?_) (fun hc2=>?_)
 ·try simp at hc2
  refine Af ?_
  refine AL ?_
  refine BI ?_
  refine sg ?_
  have hi:i < (Ak 100 0 B).1.length:=by omega
  have hga:(Ak 100 0 B).1[i]?=some (Ak 100 0 B).1[i]:=List.getElem?_eq_getElem hi
  have Wl:=Xy F (Ak 100 0 B).1 i
  have hst:=GN (b:=b) (h:=h) (n:=n) (c:=cs0 b.worth.length) hi
  have hdo:=f24 b h n (cR b h n (Ak 100 0 B).1 i) F Wl (Ak 100 0 B).1[i] (by have:=htx _ (List.getElem_mem hi);omega)
  rw [show Ns b h n (cR b h n (Ak 100 0 B).1 i) (Ak 100 0 B).1[i]=cR b h n (Ak 100 0 B).1 (i+1) from hst.symm] at hdo
  refine qv A8 ?_
  refine qv (CR CS Dh) ?_
  refine qv (LG Dh MK hga) ?_
  iterate 2 refine qv A9 ?_
  refine sg ?_
  iterate 2 refine qv A8 ?_
  refine CY (hdo) [] [(100000,100000),(100001,100001)] [100000,100001] ?_
  refine qv A9 ?_
  refine sg ?_
  refine qv A8 ?_
  refine qv Ay ?_
  refine Dy (hb:=(by simp [ho i hi])) (ht:=?_)
  refine Af ?_
  refine rg ?_
  refine qv Aq ?_
  refine qv A8 ?_
  exact ⟨i+1,hi,(by simp only;omega),(tl [(100000,100000),(30,30),(100001,100001)] (hF:=by simp [DK,AX,lk,AA,isLive,AZ,CW]) (hM:=by simp [Cm,Ar,AX,Aa,lk,AA,isLive,AZ,BO,BN,Al,BL,BP,BS,BQ,BR,CW]))⟩
 ·try simp at hc2
  obtain rfl:i=(Ak 100 0 B).1.length:=by omega
  refine Ai ?_
  refine sg ?_
  iterate 2 refine qv A8 ?_
  refine qv (CZ Ce) ?_
  iterate 3 refine qv A9 ?_
  refine AV ?_
  exact xg [(100000,100000),(100001,100001)]
end Go.Ab.Tryz
