/- The functions of the bog laws: cuttings, part 83. The walks are written by wip/gen/gw.py. -/
import Derived.Test.YtjcecljhjailiaaGreatDoorBogU8
import Derived.Test.YtjcecljhjailiaaGreatDoorBogU4
import Derived.Test.YtjcecljhjailiaaGreatDoorBogG22
import Derived.Test.YtjcecljhjailiaaGreatDoorBogG07
set_option linter.all false
namespace Go.Ab.Tryz
open Go Go.Ab Go.Proofs Go.Ab.Ck Go.Ab.Gi
open Go.Ab.Heap (Az Ap BX)
open Go.Ab.Heap (Hp GX validate sm)
theorem gu {b:Bg} {h:Hp} {n:Int} {c:Cs} (ok:C9 b h n c):AR Tryz.prog 41 [GL c.orders] (.many [.dv (Cg (Am 0 c.orders)),.dv (i64 0)]):=by
 have hw:iB c.orders=0:=iA (by have:=ok.ord;omega) fun i hi=>ok.GL _ (List.getElem_mem hi)
 have h1:=f41 c.orders (VB ok)
 rwa [Zj hw,hw] at h1
theorem Gx {s:Int} {m:Nat} (hm:m < 1000000):∃ z k:Nat,IntKind.u64.wrap s=(z:Int) /\ IntKind.u64.wrap ((m:Int)+1)=((m+1:Nat):Int) /\ k <= m /\ IntKind.i64.wrap (Int.tmod (z:Int) ((m+1:Nat):Int))=(k:Int):=by
 obtain ⟨z,hz⟩:∃ z:Nat,IntKind.u64.wrap s=(z:Int):=by
  have e:IntKind.u64.wrap s=s % 18446744073709551616:=by simp only [IntKind.wrap,IntKind.bits,IntKind.signed];rfl
  exact ⟨(s % 18446744073709551616).toNat,by rw [e];omega⟩
 have h1:=Nat.mod_lt z (show 0 < m+1 by omega)
 refine ⟨z,z % (m+1),hz,by rw [Ka (by omega) (by omega)];omega,by omega,?_⟩
 rw [Int.tmod_eq_emod_of_nonneg (by omega),<- Int.natCast_emod,wrap_i64 (by omega) (by omega)]
theorem NI {T:Tx} (h:Es T=true):T.length <= 40:=by
 unfold Es at h
 simp only [Bool.and_eq_true,decide_eq_true_eq] at h
 omega
set_option maxHeartbeats 4000000 in
theorem qb (x:Ft) (hx:Nr x) (hE:newE x.bog x.heaps x.need ≠ 0):AR Tryz.prog 16 [nJ x] (.one (.dv (.bool true))):=by
 have hs:((Cn (FE 0) [100,97,121]:Nat):Int)=696239:=by decide +kernel
 refine Bv Tryz.func16 rfl rfl (by rw [Tryz.ntmps16];simp) fun cx hP hn hg=>?_
 rw [Tryz.ntmps16] at hn
 rw [Br,Bq]
 simp only [List.nil_append,List.append_nil,List.cons_append,BH,Nat.reduceAdd]
 refine sg ?_
 refine qp Bu ?_
 refine qv A9 ?_
 refine AL ?_
 refine sg ?_
 refine CF (f39 0 [100,97,121] (by decide)) ?_
 refine qv Ay ?_
 refine Dy (hb:=(by simp [hs])) (ht:=?_)
 refine Af ?_
 refine sg ?_
 refine qv (AY iM mY) ?_
 refine CY (bB x hE) [] [] [] ?_
 refine qv A8 ?_
 iterate 3 refine qv BZ ?_
 iterate 3 refine qv A9 ?_
 refine AL ?_
 refine sg ?_
 refine qv A8 ?_
 refine qv CP ?_
 refine G5 (hb:=(by rfl)) (ht:=?_)
 refine sg ?_
 refine qv A9 ?_
 refine AV ?_
 exact x1 (hr:=(Ej))
set_option maxHeartbeats 8000000 in
set_option maxRecDepth 100000 in
theorem wh (x:Ft) (hx:Nr x) (hE:newE x.bog x.heaps x.need=0):AR Tryz.prog 16 [nJ x] (.one (.dv (.bool true))):=by
 have F:=JJ hE
 have Wm:=Xz x hE (x.orders.take 30).length
 have WS:=ZX x (x.orders.take 30).length
 have h57:=ZL x hx hE
 obtain ⟨C,hC⟩:∃ c,c=cF x (x.orders.take 30).length:=⟨_,rfl⟩
 rw [<- hC] at Wm WS h57
 have EK:=Wm
 have O7:=WS
 have hol:=EK.ord
 have hend:cR x.bog x.heaps x.need C.orders C.orders.length=C:=by unfold cR;rw [List.take_length];exact O7.eq
 have hs:((Cn (FE 0) [100,97,121]:Nat):Int)=696239:=by decide +kernel
 refine Bv Tryz.func16 rfl rfl (by rw [Tryz.ntmps16];simp) fun cx hP hn hg=>?_
 rw [Tryz.ntmps16] at hn
 rw [Br,Bq]
 simp only [List.nil_append,List.append_nil,List.cons_append,BH,Nat.reduceAdd]
 refine sg ?_
 refine qp Bu ?_
 refine qv A9 ?_
 refine AL ?_
 refine sg ?_
 refine CF (f39 0 [100,97,121] (by decide)) ?_
 refine qv Ay ?_
 refine Dy (hb:=(by simp [hs])) (ht:=?_)
 refine Af ?_
 refine sg ?_
 refine qv (AY iM mY) ?_
 refine CY (h57) [] [] [100000,100001,100002] ?_
 refine qv A8 ?_
 iterate 3 refine qv BZ ?_
 iterate 3 refine qv A9 ?_
 refine AL ?_
 refine sg ?_
 refine qv A8 ?_
 refine qv CP ?_
 refine Dy (hb:=(by rfl)) (ht:=?_)
 refine Af ?_
 refine AL ?_
 refine Dz 100002 ?_
 refine KW 4 (d:=GL C.orders) (EW (L:=C.orders) (st:=1) (by simp only [AA,reduceIte,Nat.reduceEqDiff]<;>rfl) rfl rfl (fun _=>trivial)) hg ?_
 refine rd mixed ?_
 refine zv (AB M8) ?_
 refine zv (AY Dw EC) ?_
 refine zv (AB M7) ?_
 refine zv (AY Dp Dt) ?_
 refine zv (AB M6) ?_
 refine zv (AQ Aw Bw) ?_
 refine zv A8 ?_
 refine UL (f34 x.bog x.heaps x.need C F EK) [] [(100000,100000),(100001,100001)] [100000,100001] ?_
 refine UL (OV F EK O7) [] [] [100003,100004] ?_
 refine zv A8 ?_
 iterate 3 refine zv BZ ?_
 iterate 3 refine zv A9 ?_
 refine ⟨by rfl,?_⟩
 refine AL ?_
 refine sg ?_
 refine qv A8 ?_
 refine qv Ay ?_
 refine qx A8 (fun fE=>?_) (fun fE=>?_)
 ·exact absurd fE ((by simp))
 refine qv A8 ?_
 refine KG L9 ?_
 refine qv Ae ?_
 refine qx A8 (fun A06=>?_) (fun A06=>?_)
 ·exact absurd A06 ((by simp))
 iterate 2 refine qv A8 ?_
 refine qv (BD Ce) ?_
 refine qv Ay ?_
 refine qv Ae ?_
 refine qx A8 (fun XB=>?_) (fun XB=>?_)
 ·exact absurd XB ((by simp))
 iterate 2 refine qv A8 ?_
 refine CY (f58 x.bog x.heaps x.need C F EK) [] [(100000,100003),(100001,100004),(100002,100000),(100003,100001)] [100003,100004,100000,100001] ?_
 refine qv CP ?_
 refine qv Ae ?_
 refine qx A8 (fun Ls=>?_) (fun Ls=>?_)
 ·exact absurd Ls ((by simp))
 refine qv A8 ?_
 refine CY (f49 x.bog x.heaps x.need C F EK O7) [] [(100000,100000),(100001,100001)] [100000,100001] ?_
 refine qv CP ?_
 refine qv Ae ?_
 refine Dy (hb:=(by rfl)) (ht:=?_)
 refine Af ?_
 refine AL ?_
 obtain ⟨z,k,hz,hw1,hkl,hk2⟩:=Gx (s:=x.pick) (m:=C.orders.length) (by omega)
 obtain ⟨cP,nD,WR,hP2,kI⟩:∃ c,C9 x.bog x.heaps x.need c /\ UJ x.bog x.heaps x.need c /\ c.orders=C.orders.take k /\ c=cR x.bog x.heaps x.need C.orders k:=⟨_,JW F _ (J5 F),(O7.part k).1,(O7.part k).2,rfl⟩
 have ah:cP.orders.length=k:=by rw [hP2];simp;omega
 have h41:=gu nD
 have hP3:C.orders.take k=cP.orders:=hP2.symm
 refine rg ?_
 refine qv (AB ZJ) ?_
 refine qv (AQ Aw Bw) ?_
 refine qv (FU Te Ll (hw:=by rw [hz])) ?_
 refine qv A8 ?_
 refine qv (BD Ce) ?_
 refine qv Aq ?_
 refine qv (FU Te Ll (hw:=by rw [hw1])) ?_
 refine qv KJ ?_
 refine qv (FU Ll Te (hw:=by rw [hk2])) ?_
 refine qv A9 ?_
 refine sg ?_
 iterate 2 refine qv A8 ?_
 refine qv (aM (L':=cP.orders) CS Dh (hL:=by simp [hP3])) ?_
 refine CF (h41) ?_
 refine qv A8 ?_
 iterate 2 refine qv BZ ?_
 iterate 2 refine qv A9 ?_
 refine sg ?_
 refine qv (AB M8) ?_
 refine qv (AY Dw EC) ?_
 refine qv (AB M7) ?_
 refine qv (AY Dp Dt) ?_
 refine qv (AB M6) ?_
 refine qv (AQ Aw Bw) ?_
 refine qv A8 ?_
 refine CY (OV F nD WR) [] [] [100005,100006] ?_
 refine qv A8 ?_
 iterate 3 refine qv BZ ?_
 iterate 3 refine qv A9 ?_
 refine AL ?_
 refine sg ?_
 refine qv A8 ?_
 refine qv Ay ?_
 refine qx A8 (fun zo=>?_) (fun zo=>?_)
 ·exact absurd zo ((by simp))
 refine qv A8 ?_
 refine qv Ay ?_
 refine qv Ae ?_
 refine qx A8 (fun zm=>?_) (fun zm=>?_)
 ·exact absurd zm ((by simp))
 refine qv A8 ?_
 refine KG L9 ?_
 refine qv Ae ?_
 refine qx A8 (fun u6=>?_) (fun u6=>?_)
 ·exact absurd u6 ((by simp))
 iterate 2 refine qv A8 ?_
 refine qv Ay ?_
 refine qv Ae ?_
 refine Dy (hb:=(by simp [ah])) (ht:=?_)
 refine Af ?_
 refine sg ?_
 refine qv (AB M8) ?_
 refine qv (AY Dw EC) ?_
 refine qv (AB M7) ?_
 refine qv (AY Dp Dt) ?_
 refine qv (AB M6) ?_
 refine qv (AQ Aw Bw) ?_
 refine CY (M9 x.bog x.heaps x.need hE) [] [] [100007,100008] ?_
 refine qv A8 ?_
 iterate 2 refine qv BZ ?_
 iterate 2 refine qv A9 ?_
 refine AL ?_
 refine sg ?_
 refine qv A8 ?_
 refine qv Ay ?_
 refine qx A8 (fun XZ=>?_) (fun XZ=>?_)
 ·exact absurd XZ ((by simp))
 refine qv A8 ?_
 refine KG L9 ?_
 refine qv Ae ?_
 refine Dy (hb:=(by rfl)) (ht:=?_)
 refine Af ?_
 refine AL ?_
 refine sg ?_
 refine qv A9 ?_
 refine BI ?_
 refine Ao (ι:=Nat) (fun i=>⟨lk [(3,.pt 100000 0 0),(4,.dv (.list ((C.orders).map Cg))),(9,.dv (i64 ((k:Int)))),(11,.pt 100005 0 0),(13,.pt 100007 0 0),(15,.dv (i64 (i:Nat)))],AA [(100000,0,some (Il x.bog x.heaps x.need C)),(100005,0,some (VQ x.bog x.heaps x.need cP 0 100006 0)),(100007,0,some (VQ x.bog x.heaps x.need (cR x.bog x.heaps x.need C.orders i) 0 100008 0)),(100001,0,some (Di C.orders 0)),(100006,0,some (Di cP.orders 0)),(100008,0,some (Di ((cR x.bog x.heaps x.need C.orders i)).orders 0))]⟩) (fun i=>i <= k) (fun i=>k - i) 0 (by simp) (tl [(100000,100000),(100005,100005),(100007,100007),(100001,100001),(100006,100006),(100008,100008)] (hF:=by simp [DK,AX,lk,AA,isLive,AZ,rY,cs0,CW]) (hM:=by simp [Cm,Ar,AX,Aa,lk,AA,isLive,AZ,BO,BN,Al,BL,BP,BS,BQ,BR,rY,cs0,CW])) ?_
 intro i BM
 refine AL ?_
 refine sg ?_
 iterate 2 refine qv A8 ?_
 refine qv BK ?_
 refine cd (fun YN=>?_) (fun YN=>?_)
 ·try simp at YN
  refine Af ?_
  refine AL ?_
  refine BI ?_
  refine sg ?_
  have hi:i < C.orders.length:=by omega
  have hxi:C.orders[i]?=some C.orders[i]:=List.getElem?_eq_getElem hi
  have Wl:=Xy F C.orders i
  have hoi:Oz x.bog (cR x.bog x.heaps x.need C.orders i) C.orders[i]=0:=O7.ok i hi
  have hst:=GN (b:=x.bog) (h:=x.heaps) (n:=x.need) (c:=cs0 x.bog.worth.length) hi
  have hdo:=f24 x.bog x.heaps x.need (cR x.bog x.heaps x.need C.orders i) F Wl C.orders[i] (by have:=NI (EK.GL _ (List.getElem_mem hi));omega)
  rw [show Ns x.bog x.heaps x.need (cR x.bog x.heaps x.need C.orders i) C.orders[i]=cR x.bog x.heaps x.need C.orders (i+1) from hst.symm,hoi] at hdo
  iterate 3 refine qv A8 ?_
  first | refine qv (BF CS Dh) ?_ | refine qv (Bf CS Dh) ?_
  refine qv (Bb Dh MK) ?_
  refine CY (hdo) [] [(100000,100007),(100001,100008)] [100007,100008] ?_
  refine qv Ay ?_
  refine Dy (hb:=(by rfl)) (ht:=?_)
  refine Af ?_
  refine rg ?_
  refine qv A8 ?_
  refine qv Aq ?_
  refine qv A9 ?_
  exact ⟨i+1,(by omega),(by simp only;omega),(tl [(100000,100000),(100005,100005),(100007,100007),(100001,100001),(100006,100006),(100008,100008)] (hF:=by simp [DK,AX,lk,AA,isLive,AZ,CW]) (hM:=by simp [Cm,Ar,AX,Aa,lk,AA,isLive,AZ,BO,BN,Al,BL,BP,BS,BQ,BR,CW]))⟩
 ·try simp at YN
  have hik:i=k:=by omega
  rw [hik,<- kI]
  refine Ai ?_
  refine AL ?_
  refine sg ?_
  iterate 2 refine qv A8 ?_
  refine CY (f58 x.bog x.heaps x.need cP F nD) [] [(100000,100005),(100001,100006),(100002,100007),(100003,100008)] [100005,100006,100007,100008] ?_
  refine qv CP ?_
  refine Dy (hb:=(by rfl)) (ht:=?_)
  refine Af ?_
  refine AL ?_
  refine sg ?_
  refine qv A8 ?_
  refine qv A9 ?_
  refine BI ?_
  refine Ao (ι:=Nat) (fun i=>⟨lk [(3,.pt 100000 0 0),(4,.dv (.list ((C.orders).map Cg))),(11,.pt 100005 0 0),(16,.dv (i64 (i:Nat)))],AA [(100000,0,some (Il x.bog x.heaps x.need C)),(100005,0,some (VQ x.bog x.heaps x.need (cR x.bog x.heaps x.need C.orders i) 0 100006 0)),(100001,0,some (Di C.orders 0)),(100006,0,some (Di ((cR x.bog x.heaps x.need C.orders i)).orders 0))]⟩) (fun i=>i <= C.orders.length) (fun i=>C.orders.length - i) k hkl (tl [(100000,100000),(100005,100005),(100001,100001),(100006,100006)] (hF:=by simp [DK,AX,lk,AA,isLive,AZ,kI,CW]) (hM:=by simp [Cm,Ar,AX,Aa,lk,AA,isLive,AZ,BO,BN,Al,BL,BP,BS,BQ,BR,kI,CW])) ?_
  intro i IL
  refine AL ?_
  refine sg ?_
  iterate 2 refine qv A8 ?_
  refine qv (BD Ce) ?_
  refine qv BK ?_
  refine cd (fun hc8=>?_) (fun hc8=>?_)
  ·try simp at hc8
   refine Af ?_
   refine AL ?_
   refine BI ?_
   refine sg ?_
   have hi:i < C.orders.length:=by omega
   have hxi:C.orders[i]?=some C.orders[i]:=List.getElem?_eq_getElem hi
   have Wl:=Xy F C.orders i
   have hoi:Oz x.bog (cR x.bog x.heaps x.need C.orders i) C.orders[i]=0:=O7.ok i hi
   have hst:=GN (b:=x.bog) (h:=x.heaps) (n:=x.need) (c:=cs0 x.bog.worth.length) hi
   have hdo:=f24 x.bog x.heaps x.need (cR x.bog x.heaps x.need C.orders i) F Wl C.orders[i] (by have:=NI (EK.GL _ (List.getElem_mem hi));omega)
   rw [show Ns x.bog x.heaps x.need (cR x.bog x.heaps x.need C.orders i) C.orders[i]=cR x.bog x.heaps x.need C.orders (i+1) from hst.symm,hoi] at hdo
   iterate 3 refine qv A8 ?_
   first | refine qv (BF CS Dh) ?_ | refine qv (Bf CS Dh) ?_
   refine qv (Bb Dh MK) ?_
   refine CY (hdo) [] [(100000,100005),(100001,100006)] [100005,100006] ?_
   refine qv Ay ?_
   refine Dy (hb:=(by rfl)) (ht:=?_)
   refine Af ?_
   refine rg ?_
   refine qv A8 ?_
   refine qv Aq ?_
   refine qv A9 ?_
   exact ⟨i+1,hi,(by simp only;omega),(tl [(100000,100000),(100005,100005),(100001,100001),(100006,100006)] (hF:=by simp [DK,AX,lk,AA,isLive,AZ,CW]) (hM:=by simp [Cm,Ar,AX,Aa,lk,AA,isLive,AZ,BO,BN,Al,BL,BP,BS,BQ,BR,CW]))⟩
  ·try simp at hc8
   obtain rfl:i=C.orders.length:=by omega
   rw [hend]
   refine Ai ?_
   refine sg ?_
   iterate 2 refine qv A8 ?_
   refine CY (f58 x.bog x.heaps x.need C F EK) [] [(100000,100005),(100001,100006),(100002,100000),(100003,100001)] [100005,100006,100000,100001] ?_
   refine qv A9 ?_
   refine AV ?_
   exact x1 (hr:=(Ej))
theorem f16 (x:Ft) (hx:Nr x):AR Tryz.prog 16 [nJ x] (.one (.dv (.bool true))):=by
 by_cases hE:newE x.bog x.heaps x.need=0
 ·exact wh x hx hE
 ·exact qb x hx hE
end Go.Ab.Tryz
