/- The functions of the bog laws: cuttings, part 74. The walks are written by wip/gen/gw.py. -/
import Derived.Test.YtjcecljhjailiaaGreatDoorBogT1
import Derived.Test.YtjcecljhjailiaaGreatDoorBogR8
import Derived.Test.YtjcecljhjailiaaGreatDoorBogB4
import Derived.Test.YtjcecljhjailiaaGreatDoorBogG07
set_option linter.all false
namespace Go.Ab.Tryz
open Go Go.Ab Go.Proofs Go.Ab.Ci Go.Ab.Gx
open Go.Ab.Heap (Az Ah BZ)
open Go.Ab.Heap (Hp Et validate sm)
set_option maxHeartbeats 4000000 in
set_option maxRecDepth 100000 in
theorem uh (b:Bg) (h:Hp) (n:Int) (B:Tx) (hB:B.length < 2000000) (hE:newE b h n ≠ 0):Aw Tryz.prog 48 [.dv (KJ b),.dv (Et h),.dv (i64 n),.dv (CY B)] (Ba []) ⟨[.dv .DI,.dv (i64 0),.dv (i64 (newE b h n))],Ba []⟩:=by
 refine DC Tryz.func48 rfl rfl (by rw [Tryz.ntmps48];simp) fun cx hP hn hg=>?_
 rw [Tryz.ntmps48] at hn
 refine Bj ?_
 refine sg ?_
 iterate 2 refine qp BX ?_
 iterate 3 refine qv A9 ?_
 refine sg ?_
 refine qv (AQ D9 DW) ?_
 refine qv (AQ Cq Cr) ?_
 refine qv A8 ?_
 refine Dx (Rm b h n hE) [] [] [] ?_
 refine qv A8 ?_
 iterate 2 refine qv Bf ?_
 iterate 2 refine qv A9 ?_
 refine AJ ?_
 refine sg ?_
 refine qv A8 ?_
 refine qv BP ?_
 refine Dw (hb:=(by simp [hE])) (ht:=?_)
 refine sg ?_
 refine qv A8 ?_
 iterate 3 refine qv A9 ?_
 refine AP ?_
 exact xg []
set_option maxHeartbeats 4000000 in
set_option maxRecDepth 100000 in
theorem pE (b:Bg) (h:Hp) (n:Int) (B:Tx) (hB:B.length < 2000000) (hE:newE b h n=0) (hr:(Aq 100 0 B).2 ≠ []):Aw Tryz.prog 48 [.dv (KJ b),.dv (Et h),.dv (i64 n),.dv (CY B)] (Ba []) ⟨[.dv .DI,.dv (i64 0),.dv (i64 12)],Ba []⟩:=by
 refine DC Tryz.func48 rfl rfl (by rw [Tryz.ntmps48];simp) fun cx hP hn hg=>?_
 rw [Tryz.ntmps48] at hn
 refine Bj ?_
 refine sg ?_
 iterate 2 refine qp BX ?_
 iterate 3 refine qv A9 ?_
 refine sg ?_
 refine qv (AQ D9 DW) ?_
 refine qv (AQ Cq Cr) ?_
 refine qv A8 ?_
 refine Dx (Xd b h n hE) [] [] [100000,100001,100002,100003] ?_
 refine qv A8 ?_
 iterate 2 refine qv Bf ?_
 iterate 2 refine qv A9 ?_
 refine AJ ?_
 refine sg ?_
 refine qv A8 ?_
 refine qv BP ?_
 refine Cv (hb:=(by rfl)) (ht:=?_)
 refine AY ?_
 refine sg ?_
 refine qv A8 ?_
 refine Bo (f37 B hB) ?_ (hS:=(KR (by (simp only [AA,reduceIte,Nat.reduceEqDiff]<;>rfl))))
 refine qv A8 ?_
 iterate 2 refine qv Bf ?_
 iterate 2 refine qv A9 ?_
 refine AJ ?_
 refine sg ?_
 refine qv A8 ?_
 refine qv K4 ?_
 refine Dw (hb:=(by simp [hr])) (ht:=?_)
 refine sg ?_
 iterate 3 refine qv A9 ?_
 refine AP ?_
 exact xg []
set_option maxHeartbeats 4000000 in
set_option maxRecDepth 100000 in
theorem ug (b:Bg) (h:Hp) (n:Int) (B:Tx) (hB:B.length < 2000000) (hE:newE b h n=0) (hr:(Aq 100 0 B).2=[]) (k:Nat) (hk:k < (Aq 100 0 B).1.length) (h0:∀ j (hj:j < (Aq 100 0 B).1.length),j < k -> Kq b (cR b h n (Aq 100 0 B).1 j) (Aq 100 0 B).1[j]=0) (he:Kq b (cR b h n (Aq 100 0 B).1 k) (Aq 100 0 B).1[k] ≠ 0):Aw Tryz.prog 48 [.dv (KJ b),.dv (Et h),.dv (i64 n),.dv (CY B)] (Ba []) ⟨[.dv .DI,.dv (i64 (k:Int)),.dv (i64 (Kq b (cR b h n (Aq 100 0 B).1 k) (Aq 100 0 B).1[k]))],Ba []⟩:=by
 have F:=Ga hE
 have hlen:=(Ii 100 0 B).2.2
 have htx:=X6 (B:=B)
 refine DC Tryz.func48 rfl rfl (by rw [Tryz.ntmps48];simp) fun cx hP hn hg=>?_
 rw [Tryz.ntmps48] at hn
 refine Bj ?_
 refine sg ?_
 iterate 2 refine qp BX ?_
 iterate 3 refine qv A9 ?_
 refine sg ?_
 refine qv (AQ D9 DW) ?_
 refine qv (AQ Cq Cr) ?_
 refine qv A8 ?_
 refine Dx (Xd b h n hE) [] [] [100000,100001,100002,100003] ?_
 refine qv A8 ?_
 iterate 2 refine qv Bf ?_
 iterate 2 refine qv A9 ?_
 refine AJ ?_
 refine sg ?_
 refine qv A8 ?_
 refine qv BP ?_
 refine Cv (hb:=(by rfl)) (ht:=?_)
 refine AY ?_
 refine sg ?_
 refine qv A8 ?_
 refine Bo (f37 B hB) ?_ (hS:=(KR (by (simp only [AA,reduceIte,Nat.reduceEqDiff]<;>rfl))))
 refine qv A8 ?_
 iterate 2 refine qv Bf ?_
 iterate 2 refine qv A9 ?_
 refine AJ ?_
 refine sg ?_
 refine qv A8 ?_
 refine qv K4 ?_
 refine Cv (hb:=(by simp [hr])) (ht:=?_)
 refine AY ?_
 refine AJ ?_
 refine sg ?_
 refine qv A9 ?_
 refine BD ?_
 refine Ag (ι:=Nat) (fun i=>⟨lk [(11,.pt 100000 0 0),(13,.sl 28 0 0 ((Aq 100 0 B).1).length),(15,.dv (i64 (i:Nat)))],AA [(100000,0,some (wR b h n (cR b h n (Aq 100 0 B).1 i) 0)),(28,0,some (LD ((Aq 100 0 B).1))),(100001,0,some (rowIs ((cR b h n (Aq 100 0 B).1 i)).AU 0)),(100002,0,some (rowIs ((cR b h n (Aq 100 0 B).1 i)).AX 0)),(100003,0,some (Cy ((cR b h n (Aq 100 0 B).1 i)).orders 0))]⟩) (fun i=>i <= k) (fun i=>(Aq 100 0 B).1.length - i) 0 (by simp) (tl [(100000,100000),(28,28),(100001,100001),(100002,100002),(100003,100003)] (hF:=by simp [Ck,Aa,lk,AA,isLive,Ac,R6,cs0,CR,ZM]) (hM:=by simp [CV,Al,Aa,Ae,lk,AA,isLive,Ac,BK,BJ,Af,BI,BL,BO,BM,BN,R6,cs0,CR,ZM])) ?_
 intro i Aj
 refine AJ ?_
 refine sg ?_
 iterate 2 refine qv A8 ?_
 refine qv (Cg Dg) ?_
 refine qv BQ ?_
 refine Dw (hb:=(by simp;omega)) (ht:=?_)
 refine AY ?_
 refine AJ ?_
 refine BD ?_
 refine sg ?_
 have hi:i < (Aq 100 0 B).1.length:=by omega
 have hga:(Aq 100 0 B).1[i]?=some (Aq 100 0 B).1[i]:=List.getElem?_eq_getElem hi
 have Sr:=P7 F (Aq 100 0 B).1 i
 have hst:=Gm (b:=b) (h:=h) (n:=n) (c:=cs0 b.worth.length) hi
 have hdo:=f30 b h n (cR b h n (Aq 100 0 B).1 i) F Sr (Aq 100 0 B).1[i] (by have:=htx _ (List.getElem_mem hi);omega)
 rw [show Mx b h n (cR b h n (Aq 100 0 B).1 i) (Aq 100 0 B).1[i]=cR b h n (Aq 100 0 B).1 (i+1) from hst.symm] at hdo
 iterate 3 refine qv A8 ?_
 refine qv (CB CF DZ) ?_
 refine qv (fM DZ Mk hga) ?_
 refine Dx (hdo) [] [(100000,100000),(100001,100001),(100002,100002),(100003,100003)] [100000,100001,100002,100003] ?_
 refine qv A9 ?_
 refine sg ?_
 refine qv A8 ?_
 refine qv BP ?_
 refine cd (fun hc3=>?_) (fun hc3=>?_)
 ·try simp at hc3
  obtain rfl:i=k:=by
   rcases Nat.lt_or_ge i k with h1 | h1
   ·exact absurd (h0 i hi h1) (by simpa using hc3)
   ·omega
  refine sg ?_
  iterate 2 refine qv A8 ?_
  iterate 3 refine qv A9 ?_
  refine AP ?_
  exact xg []
 ·try simp at hc3
  have hik:i ≠ k:=fun e=>by subst e;exact he (by simpa using hc3)
  refine AY ?_
  refine rg ?_
  refine qv A8 ?_
  refine qv Am ?_
  refine qv A9 ?_
  exact ⟨i+1,(by omega),(by simp only;omega),(tl [(100000,100000),(28,28),(100001,100001),(100002,100002),(100003,100003)] (hF:=by simp [Ck,Aa,lk,AA,isLive,Ac,CR]) (hM:=by simp [CV,Al,Aa,Ae,lk,AA,isLive,Ac,BK,BJ,Af,BI,BL,BO,BM,BN,CR]))⟩
set_option maxHeartbeats 4000000 in
set_option maxRecDepth 100000 in
theorem pF (b:Bg) (h:Hp) (n:Int) (B:Tx) (hB:B.length < 2000000) (hE:newE b h n=0) (hr:(Aq 100 0 B).2=[]) (ho:∀ j (hj:j < (Aq 100 0 B).1.length),Kq b (cR b h n (Aq 100 0 B).1 j) (Aq 100 0 B).1[j]=0):Aw Tryz.prog 48 [.dv (KJ b),.dv (Et h),.dv (i64 n),.dv (CY B)] (Ba []) ⟨[.pt 100000 0 0,.dv (i64 ((Aq 100 0 B).1.length:Int)),.dv (i64 0)],Ba (gU b h n (cR b h n (Aq 100 0 B).1 (Aq 100 0 B).1.length))⟩:=by
 have F:=Ga hE
 have hlen:=(Ii 100 0 B).2.2
 have htx:=X6 (B:=B)
 refine DC Tryz.func48 rfl rfl (by rw [Tryz.ntmps48];simp) fun cx hP hn hg=>?_
 rw [Tryz.ntmps48] at hn
 refine Bj ?_
 refine sg ?_
 iterate 2 refine qp BX ?_
 iterate 3 refine qv A9 ?_
 refine sg ?_
 refine qv (AQ D9 DW) ?_
 refine qv (AQ Cq Cr) ?_
 refine qv A8 ?_
 refine Dx (Xd b h n hE) [] [] [100000,100001,100002,100003] ?_
 refine qv A8 ?_
 iterate 2 refine qv Bf ?_
 iterate 2 refine qv A9 ?_
 refine AJ ?_
 refine sg ?_
 refine qv A8 ?_
 refine qv BP ?_
 refine Cv (hb:=(by rfl)) (ht:=?_)
 refine AY ?_
 refine sg ?_
 refine qv A8 ?_
 refine Bo (f37 B hB) ?_ (hS:=(KR (by (simp only [AA,reduceIte,Nat.reduceEqDiff]<;>rfl))))
 refine qv A8 ?_
 iterate 2 refine qv Bf ?_
 iterate 2 refine qv A9 ?_
 refine AJ ?_
 refine sg ?_
 refine qv A8 ?_
 refine qv K4 ?_
 refine Cv (hb:=(by simp [hr])) (ht:=?_)
 refine AY ?_
 refine AJ ?_
 refine sg ?_
 refine qv A9 ?_
 refine BD ?_
 refine Ag (ι:=Nat) (fun i=>⟨lk [(11,.pt 100000 0 0),(13,.sl 28 0 0 ((Aq 100 0 B).1).length),(15,.dv (i64 (i:Nat)))],AA [(100000,0,some (wR b h n (cR b h n (Aq 100 0 B).1 i) 0)),(28,0,some (LD ((Aq 100 0 B).1))),(100001,0,some (rowIs ((cR b h n (Aq 100 0 B).1 i)).AU 0)),(100002,0,some (rowIs ((cR b h n (Aq 100 0 B).1 i)).AX 0)),(100003,0,some (Cy ((cR b h n (Aq 100 0 B).1 i)).orders 0))]⟩) (fun i=>i <= (Aq 100 0 B).1.length) (fun i=>(Aq 100 0 B).1.length - i) 0 (by simp) (tl [(100000,100000),(28,28),(100001,100001),(100002,100002),(100003,100003)] (hF:=by simp [Ck,Aa,lk,AA,isLive,Ac,R6,cs0,CR,ZM]) (hM:=by simp [CV,Al,Aa,Ae,lk,AA,isLive,Ac,BK,BJ,Af,BI,BL,BO,BM,BN,R6,cs0,CR,ZM])) ?_
 intro i Aj
 refine AJ ?_
 refine sg ?_
 iterate 2 refine qv A8 ?_
 refine qv (Cg Dg) ?_
 refine qv BQ ?_
 refine cd (fun hc2=>?_) (fun hc2=>?_)
 ·try simp at hc2
  refine AY ?_
  refine AJ ?_
  refine BD ?_
  refine sg ?_
  have hi:i < (Aq 100 0 B).1.length:=by omega
  have hga:(Aq 100 0 B).1[i]?=some (Aq 100 0 B).1[i]:=List.getElem?_eq_getElem hi
  have Sr:=P7 F (Aq 100 0 B).1 i
  have hst:=Gm (b:=b) (h:=h) (n:=n) (c:=cs0 b.worth.length) hi
  have hdo:=f30 b h n (cR b h n (Aq 100 0 B).1 i) F Sr (Aq 100 0 B).1[i] (by have:=htx _ (List.getElem_mem hi);omega)
  rw [show Mx b h n (cR b h n (Aq 100 0 B).1 i) (Aq 100 0 B).1[i]=cR b h n (Aq 100 0 B).1 (i+1) from hst.symm] at hdo
  iterate 3 refine qv A8 ?_
  refine qv (CB CF DZ) ?_
  refine qv (fM DZ Mk hga) ?_
  refine Dx (hdo) [] [(100000,100000),(100001,100001),(100002,100002),(100003,100003)] [100000,100001,100002,100003] ?_
  refine qv A9 ?_
  refine sg ?_
  refine qv A8 ?_
  refine qv BP ?_
  refine Cv (hb:=(by simp [ho i hi])) (ht:=?_)
  refine AY ?_
  refine rg ?_
  refine qv A8 ?_
  refine qv Am ?_
  refine qv A9 ?_
  exact ⟨i+1,hi,(by simp only;omega),(tl [(100000,100000),(28,28),(100001,100001),(100002,100002),(100003,100003)] (hF:=by simp [Ck,Aa,lk,AA,isLive,Ac,CR]) (hM:=by simp [CV,Al,Aa,Ae,lk,AA,isLive,Ac,BK,BJ,Af,BI,BL,BO,BM,BN,CR]))⟩
 ·try simp at hc2
  obtain rfl:i=(Aq 100 0 B).1.length:=by omega
  refine Ad ?_
  refine sg ?_
  iterate 2 refine qv A8 ?_
  refine qv (Cg Dg) ?_
  iterate 3 refine qv A9 ?_
  refine AP ?_
  exact xg [(100000,100000),(100001,100001),(100002,100002),(100003,100003)]
end Go.Ab.Tryz
