/- The functions of the bog laws: cuttings, part 85. The walks are written by wip/gen/gw.py. -/
import Derived.Test.YtjcecljhjailiaaGreatDoorBogV1
import Derived.Test.YtjcecljhjailiaaGreatDoorBogS5
import Derived.Test.YtjcecljhjailiaaGreatDoorBogG07
set_option linter.all false
namespace Go.Ab.Tryz
open Go Go.Ab Go.Proofs Go.Ab.Ck Go.Ab.Gi
open Go.Ab.Heap (Az Ap BX)
open Go.Ab.Heap (Hp GX validate sm)
theorem cO (f:Fm) (L:List Tx) (i:Nat):UJ f.bog f.heaps f.need (Rf f L i):=jB.run _
set_option maxHeartbeats 4000000 in
theorem qZ (f:Fm) (hf:LV f) (L:List Tx) (hk:L.length <= 9223372036854775807) (s:Int) (hE:newE f.bog f.heaps f.need ≠ 0):AR Tryz.prog 17 [Vk f,GL L,i64 s] (.one (.dv (.bool true))):=by
 have wC:((Cn (FE 0) [97]:Nat):Int)=98:=by decide +kernel
 refine Bv Tryz.func17 rfl rfl (by rw [Tryz.ntmps17];simp) fun cx hP hn hg=>?_
 rw [Tryz.ntmps17] at hn
 rw [Br,Bq]
 simp only [List.nil_append,List.append_nil,List.cons_append,BH,Nat.reduceAdd]
 refine sg ?_
 refine qp Bu ?_
 refine qv A9 ?_
 refine sg ?_
 refine CF (f39 0 [97] (by decide)) ?_
 refine qv A9 ?_
 refine AL ?_
 refine sg ?_
 refine qv A8 ?_
 refine qv Ay ?_
 refine Dy (hb:=(by simp [wC])) (ht:=?_)
 refine Af ?_
 refine AL ?_
 refine sg ?_
 refine qv (AY Jy LA) ?_
 refine CF (f18 f hf.1 hf.2) ?_
 refine qx A8 (fun JH=>?_) (fun JH=>?_)
 ·try simp at JH
  iterate 2 refine qk ?_
  refine qv Ae ?_
  refine G5 (hb:=by first | rfl | simp | simp_all) (ht:=?_)
  refine sg ?_
  refine qv A9 ?_
  refine AV ?_
  exact x1 (hr:=(Ej))
 ·try simp at JH
  refine qv A8 ?_
  refine CF (f19 L hk) ?_
  refine qv Ae ?_
  refine cd (fun hc1=>?_) (fun hc1=>?_)
  ·skip
   refine sg ?_
   refine qv A9 ?_
   refine AV ?_
   exact x1 (hr:=(Ej))
  ·skip
   obtain ⟨hF,wL,wK⟩:=N7 (by simpa using hc1)
   have htx:∀ i (hi:i < L.length),L[i].length < 2000000:=fun i hi=>hF.2 i hi
   have hlt:(L.take 30).length=min 30 L.length:=by simp
   refine Af ?_
   refine sg ?_
   refine qv (AB F8) ?_
   refine qv (AY Dw EC) ?_
   refine qv (AB F7) ?_
   refine qv (AY Dp Dt) ?_
   refine qv (AB Gc) ?_
   refine qv (AQ Aw Bw) ?_
   refine CY (NU f.bog f.heaps f.need hE) [] [] [] ?_
   refine qv A8 ?_
   iterate 2 refine qv BZ ?_
   iterate 2 refine qv A9 ?_
   refine AL ?_
   refine sg ?_
   refine qv A8 ?_
   refine qv Ay ?_
   refine G5 (hb:=(by simp [hE])) (ht:=?_)
   refine sg ?_
   refine qv (AB F8) ?_
   refine qv (AY Dw EC) ?_
   refine qv (AB F7) ?_
   refine qv (AY Dp Dt) ?_
   refine qv (AB Gc) ?_
   refine qv (AQ Aw Bw) ?_
   refine CY (qY f.bog f.heaps f.need [] (by decide) hE) [] [] [] ?_
   refine qv A8 ?_
   iterate 3 refine qv BZ ?_
   iterate 3 refine qv A9 ?_
   refine sg ?_
   iterate 2 refine qv A8 ?_
   refine qv Bl ?_
   refine qx A8 (fun A01=>?_) (fun A01=>?_)
   rotate_left
   ·exact absurd A01 ((by simp))
   refine qv A8 ?_
   refine qv Bl ?_
   refine qv Ae ?_
   refine qx A8 (fun zy=>?_) (fun zy=>?_)
   rotate_left
   ·exact absurd zy ((by simp))
   refine qv A8 ?_
   refine qv (P:=Tryz.prog) (by simp only [AP,Dj,En,DU,Ip,Option.map_some,St.look,St.ev,lk,AA,AO,Ah,Ag,reduceIte,Nat.reduceAdd,Nat.reduceEqDiff,Nat.reduceMul,L9,if_true];rfl) ?_
   refine qv Ae ?_
   refine qv A9 ?_
   refine AV ?_
   exact x1 (hr:=(Ej))
set_option maxHeartbeats 16000000 in
set_option maxRecDepth 100000 in
theorem wZ (f:Fm) (hf:LV f) (L:List Tx) (hk:L.length <= 9223372036854775807) (s:Int) (hE:newE f.bog f.heaps f.need=0):AR Tryz.prog 17 [Vk f,GL L,i64 s] (.one (.dv (.bool true))):=by
 have wC:((Cn (FE 0) [97]:Nat):Int)=98:=by decide +kernel
 have F:=JJ hE
 refine Bv Tryz.func17 rfl rfl (by rw [Tryz.ntmps17];simp) fun cx hP hn hg=>?_
 rw [Tryz.ntmps17] at hn
 rw [Br,Bq]
 simp only [List.nil_append,List.append_nil,List.cons_append,BH,Nat.reduceAdd]
 refine sg ?_
 refine qp Bu ?_
 refine qv A9 ?_
 refine sg ?_
 refine CF (f39 0 [97] (by decide)) ?_
 refine qv A9 ?_
 refine AL ?_
 refine sg ?_
 refine qv A8 ?_
 refine qv Ay ?_
 refine Dy (hb:=(by simp [wC])) (ht:=?_)
 refine Af ?_
 refine AL ?_
 refine sg ?_
 refine qv (AY Jy LA) ?_
 refine CF (f18 f hf.1 hf.2) ?_
 refine qx A8 (fun JH=>?_) (fun JH=>?_)
 ·try simp at JH
  iterate 2 refine qk ?_
  refine qv Ae ?_
  refine G5 (hb:=by first | rfl | simp | simp_all) (ht:=?_)
  refine sg ?_
  refine qv A9 ?_
  refine AV ?_
  exact x1 (hr:=(Ej))
 ·try simp at JH
  refine qv A8 ?_
  refine CF (f19 L hk) ?_
  refine qv Ae ?_
  refine cd (fun hc1=>?_) (fun hc1=>?_)
  ·skip
   refine sg ?_
   refine qv A9 ?_
   refine AV ?_
   exact x1 (hr:=(Ej))
  ·skip
   obtain ⟨hF,wL,wK⟩:=N7 (by simpa using hc1)
   have htx:∀ i (hi:i < L.length),L[i].length < 2000000:=fun i hi=>hF.2 i hi
   have hlt:(L.take 30).length=min 30 L.length:=by simp
   refine Af ?_
   refine sg ?_
   refine qv (AB F8) ?_
   refine qv (AY Dw EC) ?_
   refine qv (AB F7) ?_
   refine qv (AY Dp Dt) ?_
   refine qv (AB Gc) ?_
   refine qv (AQ Aw Bw) ?_
   refine CY (M9 f.bog f.heaps f.need hE) [] [] [100000,100001] ?_
   refine qv A8 ?_
   iterate 2 refine qv BZ ?_
   iterate 2 refine qv A9 ?_
   refine AL ?_
   refine sg ?_
   refine qv A8 ?_
   refine qv Ay ?_
   refine Dy (hb:=(by rfl)) (ht:=?_)
   refine Af ?_
   refine AL ?_
   refine sg ?_
   refine qv A8 ?_
   refine KG L9 ?_
   refine Dy (hb:=(by rfl)) (ht:=?_)
   refine Af ?_
   refine AL ?_
   refine sg ?_
   refine qv A9 ?_
   refine BI ?_
   refine Ao (ι:=Nat) (fun i=>⟨lk [(1,.dv (.list ((L).map Cg))),(2,.dv (i64 (s))),(3,.pt 3 0 0),(8,.pt 100000 0 0),(13,.dv (i64 (i:Nat)))],AA [(3,0,some ⟨[.dv (.list ((f.bog.worth).map ints)),.dv (.list ((f.heaps.links).map ints)),.dv (ints (f.heaps.ground)),.dv (i64 (f.need))],0,29,0,false⟩),(100000,0,some (Il f.bog f.heaps f.need (Rf f L i))),(100001,0,some (Di ((Rf f L i)).orders 0))]⟩) (fun i=>i <= (L.take 30).length) (fun i=>(L.take 30).length - i) 0 (by simp) (tl [(3,3),(100000,100000),(100001,100001)] (hF:=by simp [DK,AX,lk,AA,isLive,AZ,sF,cs0,CW]) (hM:=by simp [Cm,Ar,AX,Aa,lk,AA,isLive,AZ,BO,BN,Al,BL,BP,BS,BQ,BR,sF,cs0,CW])) ?_
   intro i BM
   refine AL ?_
   refine sg ?_
   iterate 2 refine qv A8 ?_
   refine qv (BD Ce) ?_
   refine qv BK ?_
   refine qx A8 (fun fB=>?_) (fun fB=>?_)
   ·try simp at fB
    refine qv A8 ?_
    refine qv BK ?_
    refine qv Ae ?_
    refine cd (fun hc4=>?_) (fun hc4=>?_)
    ·try simp at hc4
     refine Af ?_
     refine AL ?_
     refine BI ?_
     refine sg ?_
     have hi:i < L.length:=by omega
     have hi3:i < 30:=by omega
     have hi2:i < (L.take 30).length:=by omega
     have hx:L[i]?=some L[i]:=List.getElem?_eq_getElem hi
     have Wl:=U9 f hE L i
     have zM:=U9 f hE L (i+1)
     have hst:Rf f L (i+1)=Ns f.bog f.heaps f.need (Rf f L i) L[i]:=by have h:=cK (f:=f) hi2;rwa [List.getElem_take] at h
     have hdo:=f24 f.bog f.heaps f.need (Rf f L i) F Wl L[i] (htx i hi)
     rw [<- hst] at hdo
     refine qv A8 ?_
     refine CY (f34 f.bog f.heaps f.need (Rf f L i) F Wl) [] [(100000,100000),(100001,100001)] [100000,100001] ?_
     refine qv A9 ?_
     refine sg ?_
     iterate 3 refine qv A8 ?_
     first | refine qv (BF CS Dh) ?_ | refine qv (Bf CS Dh) ?_
     refine qv (Bb Dh MK) ?_
     refine CY (hdo) [] [(100000,100000),(100001,100001)] [100000,100001] ?_
     refine qv Ay ?_
     refine qx A8 (fun qD=>?_) (fun qD=>?_)
     ·try simp at qD
      have heq:Rf f L (i+1)=Rf f L i:=by rw [hst];exact VL (by simpa using qD)
      refine qv A8 ?_
      refine CY (f34 f.bog f.heaps f.need (Rf f L (i+1)) F zM) [] [(100000,100000),(100001,100001)] [100000,100001] ?_
      refine qv A8 ?_
      refine qv DY ?_
      refine qv Ae ?_
      refine qx A8 (fun zn=>?_) (fun zn=>?_)
      ·exact absurd zn ((by simp [heq]))
      refine qv A8 ?_
      refine qv (AY Jy LA) ?_
      refine CY (f35 f.bog f.heaps f.need (Rf f L (i+1)) F zM) [] [(100000,100000),(100001,100001)] [100000,100001] ?_
      refine qv CP ?_
      refine qv Ae ?_
      refine Dy (hb:=(by first | rfl | (simp;done))) (ht:=?_)
      refine Af ?_
      refine rg ?_
      refine qv A8 ?_
      refine qv Aq ?_
      refine qv A9 ?_
      exact ⟨i+1,hi2,(by simp only;omega),(tl [(3,3),(100000,100000),(100001,100001)] (hF:=by simp [DK,AX,lk,AA,isLive,AZ,CW]) (hM:=by simp [Cm,Ar,AX,Aa,lk,AA,isLive,AZ,BO,BN,Al,BL,BP,BS,BQ,BR,CW]))⟩
     ·try simp at qD
      iterate 4 refine qk ?_
      refine qv Ae ?_
      iterate 2 refine qv A8 ?_
      refine qv (AY Jy LA) ?_
      refine CY (f35 f.bog f.heaps f.need (Rf f L (i+1)) F zM) [] [(100000,100000),(100001,100001)] [100000,100001] ?_
      refine qv CP ?_
      refine qv Ae ?_
      refine Dy (hb:=(by first | rfl | (simp;done))) (ht:=?_)
      refine Af ?_
      refine rg ?_
      refine qv A8 ?_
      refine qv Aq ?_
      refine qv A9 ?_
      exact ⟨i+1,hi2,(by simp only;omega),(tl [(3,3),(100000,100000),(100001,100001)] (hF:=by simp [DK,AX,lk,AA,isLive,AZ,CW]) (hM:=by simp [Cm,Ar,AX,Aa,lk,AA,isLive,AZ,BO,BN,Al,BL,BP,BS,BQ,BR,CW]))⟩
    ·try simp at hc4
     refine Ai ?_
     refine AL ?_
     have EK:=U9 f hE L i
     have O7:=cO f L i
     generalize Rf f L i=C at EK O7 ⊢
     have hol:=EK.ord
     have hbs:=IE EK
     have h5:=F.vh.n5
     have X8:=F.bg.n6
     have tY:=EK.hol.len
     have htl:=EK.MV
     have hend:cR f.bog f.heaps f.need C.orders C.orders.length=C:=by unfold cR;rw [List.take_length];exact O7.eq
     obtain ⟨z,k,hz,hw1,hkl,hk2⟩:=Gx (s:=s) (m:=(Am 0 C.orders).length) (by omega)
     obtain ⟨j,R,hrd,hj,hRk,hcut,hR0⟩:=Ja EK hkl
     have R9:=f36 ((Am 0 C.orders).take k) (by simp;omega)
     rw [hrd] at R9
     obtain ⟨cP,nD,WR,hP2,kI⟩:∃ c,C9 f.bog f.heaps f.need c /\ UJ f.bog f.heaps f.need c /\ c.orders=C.orders.take j /\ c=cR f.bog f.heaps f.need C.orders j:=⟨_,JW F _ (J5 F),(O7.part j).1,(O7.part j).2,rfl⟩
     have ah:cP.orders.length=j:=by rw [hP2];simp;omega
     have kH:(cR f.bog f.heaps f.need C.orders j).orders.length=j:=by rw [<- kI];exact ah
     have htj:(C.orders.take j).length=j:=by simp;omega
     have hm1:=f44 ((Am 0 C.orders).take (k - R.length)) (Am 0 C.orders) (by simp;omega) (by omega)
     rw [show EO ((Am 0 C.orders).take (k - R.length)) (Am 0 C.orders)=((Am 0 C.orders),(C.orders.length:Int),0) by rw [hcut];exact Kh j EK.GL EK.ord] at hm1
     have h46:=OV F nD WR
     rw [show Am 0 cP.orders=(Am 0 C.orders).take (k - R.length) by rw [hP2];exact hcut.symm] at h46
     refine rg ?_
     refine qv A8 ?_
     refine CY (f34 f.bog f.heaps f.need C F EK) [] [(100000,100000),(100001,100001)] [100000,100001] ?_
     refine qv A9 ?_
     refine sg ?_
     refine qv A8 ?_
     refine CF (VF EK) ?_ (hS:=(EN (by (simp only [AA,reduceIte,Nat.reduceEqDiff]<;>rfl))))
     refine qv A8 ?_
     iterate 2 refine qv BZ ?_
     iterate 2 refine qv A9 ?_
     refine AL ?_
     refine Dz 105 ?_
     refine KW 16 (d:=GL C.orders) (EW (L:=C.orders) (st:=1) (by simp only [AA,reduceIte,Nat.reduceEqDiff]<;>rfl) rfl rfl (fun _=>trivial)) hg ?_
     refine rg ?_
     refine qv A8 ?_
     refine qv (FU Te Ll (hw:=by rw [hz])) ?_
     refine qv A8 ?_
     refine qv (EH K4) ?_
     refine qv Aq ?_
     refine qv (FU Te Ll (hw:=by rw [hw1])) ?_
     refine qv KJ ?_
     refine qv (FU Ll Te (hw:=by rw [hk2])) ?_
     refine qv A9 ?_
     refine sg ?_
     iterate 2 refine qv A8 ?_
     refine qv (Fz 0 k K4 (by omega) hkl) ?_
     refine CF (R9) ?_ (hS:=(EN (by (simp only [AA,reduceIte,Nat.reduceEqDiff]<;>rfl))))
     refine qv A8 ?_
     iterate 2 refine qv BZ ?_
     iterate 2 refine qv A9 ?_
     refine AL ?_
     refine sg ?_
     refine qv A8 ?_
     refine qv DY ?_
     refine qx A8 (fun NN=>?_) (fun NN=>?_)
     ·exact absurd NN ((by simp))
     refine qv A8 ?_
     refine qv (CZ Ce) ?_
     refine qv A8 ?_
     refine qv (BD Ce) ?_
     refine qv Dk ?_
     refine qv Ae ?_
     refine qx A8 (fun XY=>?_) (fun XY=>?_)
     ·exact absurd XY ((by simp;omega))
     iterate 3 refine qv A8 ?_
     refine qv (CZ Ce) ?_
     refine qv A8 ?_
     refine qv (CZ Ce) ?_
     refine qv (jX (L':=C.orders.take j) CS Dh (hL:=by rw [htj];simp)) ?_
     refine CF (f38 (C.orders.take j) (C.orders.take j) (by simp;omega)) ?_ (ha:=(CV (RV (L:=(C.orders.take j)) (by simp only [AA,reduceIte,Nat.reduceEqDiff]<;>rfl) trivial rfl (fun _=>trivial)) (CV Bo FI)))
     refine qv CP ?_
     refine qv Ae ?_
     refine Dy (hb:=(by simp)) (ht:=?_)
     refine Af ?_
     refine AL ?_
     refine rd mixed ?_
     refine zv (AB F8) ?_
     refine zv (AY Dw EC) ?_
     refine zv (AB F7) ?_
     refine zv (AY Dp Dt) ?_
     refine zv (AB Gc) ?_
     refine zv (AQ Aw Bw) ?_
     iterate 3 refine zv A8 ?_
     refine zv (EH K4) ?_
     refine zv Gf ?_
     rw [show ((k:Int) - (R.length:Int))=((k - R.length:Nat):Int) by omega]
     refine zv (Fz (a:=Am 0 C.orders) 0 (k - R.length) K4 (by omega) (by omega)) ?_
     refine UL (h46) [] [] [100002,100003] ?_
     refine zv A8 ?_
     iterate 3 refine zv BZ ?_
     iterate 3 refine zv A9 ?_
     refine ⟨by rfl,?_⟩
     refine AL ?_
     refine sg ?_
     refine qv A8 ?_
     refine qv Ay ?_
     refine qx A8 (fun XT=>?_) (fun XT=>?_)
     ·exact absurd XT ((by simp))
     refine qv A8 ?_
     refine KG L9 ?_
     refine qv Ae ?_
     refine qx A8 (fun XQ=>?_) (fun XQ=>?_)
     ·exact absurd XQ ((by simp))
     iterate 2 refine qv A8 ?_
     refine qv (CZ Ce) ?_
     refine qv Ay ?_
     refine qv Ae ?_
     refine Dy (hb:=(by simp [ah,htj])) (ht:=?_)
     refine Af ?_
     refine AL ?_
     refine sg ?_
     refine qv A8 ?_
     refine qv A9 ?_
     refine BI ?_
     refine Ao (ι:=Nat) (fun i=>⟨lk [(2,.dv (i64 ((k:Int)))),(8,.pt 100000 0 0),(15,.dv (Cg (Am 0 C.orders))),(16,.dv (.list ((C.orders).map Cg))),(19,.dv (Cg (R))),(20,.pt 100002 0 0),(22,.dv (i64 (i:Nat)))],AA [(100000,0,some (Il f.bog f.heaps f.need C)),(100002,0,some (VQ f.bog f.heaps f.need (cR f.bog f.heaps f.need C.orders i) 0 100003 0)),(100001,0,some (Di C.orders 0)),(100003,0,some (Di ((cR f.bog f.heaps f.need C.orders i)).orders 0))]⟩) (fun i=>i <= C.orders.length) (fun i=>C.orders.length - i) j hj (tl [(100000,100000),(100002,100002),(100001,100001),(100003,100003)] (hF:=by simp [DK,AX,lk,AA,isLive,AZ,ah,kH,kI,CW]) (hM:=by simp [Cm,Ar,AX,Aa,lk,AA,isLive,AZ,BO,BN,Al,BL,BP,BS,BQ,BR,ah,kH,kI,CW])) ?_
     intro i IL
     refine AL ?_
     refine sg ?_
     iterate 2 refine qv A8 ?_
     refine qv (BD Ce) ?_
     refine qv BK ?_
     refine cd (fun hc8=>?_) (fun hc8=>?_)
     ·try simp at hc8
      refine Af ?_
      refine AL ?_
      refine BI ?_
      refine sg ?_
      have hi:i < C.orders.length:=by omega
      have hxi:C.orders[i]?=some C.orders[i]:=List.getElem?_eq_getElem hi
      have Wl:=Xy F C.orders i
      have hoi:Oz f.bog (cR f.bog f.heaps f.need C.orders i) C.orders[i]=0:=O7.ok i hi
      have hst:=GN (b:=f.bog) (h:=f.heaps) (n:=f.need) (c:=cs0 f.bog.worth.length) hi
      have hdo:=f24 f.bog f.heaps f.need (cR f.bog f.heaps f.need C.orders i) F Wl C.orders[i] (by have:=NI (EK.GL _ (List.getElem_mem hi));omega)
      rw [show Ns f.bog f.heaps f.need (cR f.bog f.heaps f.need C.orders i) C.orders[i]=cR f.bog f.heaps f.need C.orders (i+1) from hst.symm,hoi] at hdo
      iterate 3 refine qv A8 ?_
      first | refine qv (BF CS Dh) ?_ | refine qv (Bf CS Dh) ?_
      refine qv (Bb Dh MK) ?_
      refine CY (hdo) [] [(100000,100002),(100001,100003)] [100002,100003] ?_
      refine qv Ay ?_
      refine Dy (hb:=(by rfl)) (ht:=?_)
      refine Af ?_
      refine rg ?_
      refine qv A8 ?_
      refine qv Aq ?_
      refine qv A9 ?_
      exact ⟨i+1,hi,(by simp only;omega),(tl [(100000,100000),(100002,100002),(100001,100001),(100003,100003)] (hF:=by simp [DK,AX,lk,AA,isLive,AZ,CW]) (hM:=by simp [Cm,Ar,AX,Aa,lk,AA,isLive,AZ,BO,BN,Al,BL,BP,BS,BQ,BR,CW]))⟩
     ·try simp at hc8
      obtain rfl:i=C.orders.length:=by omega
      rw [hend]
      refine Ai ?_
      refine sg ?_
      iterate 3 refine qv A8 ?_
      refine qv (EH K4) ?_
      refine qv Gf ?_
      rw [show ((k:Int) - (R.length:Int))=((k - R.length:Nat):Int) by omega]
      refine qv (Fz (a:=Am 0 C.orders) 0 (k - R.length) K4 (by omega) (by omega)) ?_
      refine qv A8 ?_
      refine CF (hm1) ?_
      refine qv A8 ?_
      iterate 3 refine qv BZ ?_
      iterate 3 refine qv A9 ?_
      refine sg ?_
      refine qv A8 ?_
      refine CY (f34 f.bog f.heaps f.need C F EK) [] [(100000,100002),(100001,100003)] [100002,100003] ?_
      refine qv A8 ?_
      refine qv Qq ?_
      refine qx A8 (fun XM=>?_) (fun XM=>?_)
      rotate_left
      ·exact absurd XM ((by simp))
      refine qv A8 ?_
      refine CY (f52 f.bog f.heaps f.need C F EK) [] [(100000,100002),(100001,100003)] [100002,100003] ?_
      refine qv A8 ?_
      refine CY (f52 f.bog f.heaps f.need C F EK) [] [(100000,100000),(100001,100001)] [100000,100001] ?_
      refine qv Bl ?_
      refine qv Ae ?_
      refine qx A8 (fun XL=>?_) (fun XL=>?_)
      rotate_left
      ·exact absurd XL ((by simp))
      refine qv A8 ?_
      refine CY (f51 f.bog f.heaps f.need C F EK) [] [(100000,100002),(100001,100003)] [100002,100003] ?_
      refine qv A8 ?_
      refine CY (f51 f.bog f.heaps f.need C F EK) [] [(100000,100000),(100001,100001)] [100000,100001] ?_
      refine qv Bl ?_
      refine qv Ae ?_
      refine qx A8 (fun XK=>?_) (fun XK=>?_)
      rotate_left
      ·exact absurd XK ((by simp))
      refine qv A8 ?_
      refine CY (f55 f.bog f.heaps f.need C F EK) [] [(100000,100002),(100001,100003)] [100002,100003] ?_
      refine qv A8 ?_
      refine CY (f55 f.bog f.heaps f.need C F EK) [] [(100000,100000),(100001,100001)] [100000,100001] ?_
      refine qv Bl ?_
      refine qv Ae ?_
      refine qx A8 (fun XJ=>?_) (fun XJ=>?_)
      rotate_left
      ·exact absurd XJ ((by simp))
      refine qv A8 ?_
      refine CY (f50 f.bog f.heaps f.need C F EK) [] [(100000,100002),(100001,100003)] [100002,100003] ?_
      refine qv A8 ?_
      refine CY (f50 f.bog f.heaps f.need C F EK) [] [(100000,100000),(100001,100001)] [100000,100001] ?_
      refine qv Bl ?_
      refine qv Ae ?_
      refine qx A8 (fun XI=>?_) (fun XI=>?_)
      rotate_left
      ·exact absurd XI ((by simp))
      refine qv A8 ?_
      refine CY (f26 f.bog f.heaps f.need C F EK) [] [(100000,100002),(100001,100003)] [100002,100003] ?_
      refine qv A8 ?_
      refine CY (f26 f.bog f.heaps f.need C F EK) [] [(100000,100000),(100001,100001)] [100000,100001] ?_
      refine CF (H.f60 C.Ad C.Ad (by omega)) ?_
      refine qv Ae ?_
      refine qx A8 (fun XH=>?_) (fun XH=>?_)
      rotate_left
      ·exact absurd XH ((by simp))
      refine qv A8 ?_
      refine CY (f28 f.bog f.heaps f.need C F EK) [] [(100000,100002),(100001,100003)] [100002,100003] ?_
      refine qv A8 ?_
      refine CY (f28 f.bog f.heaps f.need C F EK) [] [(100000,100000),(100001,100001)] [100000,100001] ?_
      refine CF (H.f60 C.AU C.AU (by omega)) ?_
      refine qv Ae ?_
      refine qx A8 (fun XG=>?_) (fun XG=>?_)
      rotate_left
      ·exact absurd XG ((by simp))
      refine qv A8 ?_
      refine qv Bl ?_
      refine qv Ae ?_
      refine qx A8 (fun XF=>?_) (fun XF=>?_)
      rotate_left
      ·exact absurd XF ((by simp))
      iterate 2 refine qv A8 ?_
      refine qv Qq ?_
      refine qv Ae ?_
      refine qx A8 (fun XE=>?_) (fun XE=>?_)
      rotate_left
      ·exact absurd XE ((by simp))
      iterate 2 refine qv A8 ?_
      refine qv (BD Ce) ?_
      refine qv Bl ?_
      refine qv Ae ?_
      refine qx A8 (fun XD=>?_) (fun XD=>?_)
      rotate_left
      ·exact absurd XD ((by simp))
      refine qv A8 ?_
      refine CY (f49 f.bog f.heaps f.need C F EK O7) [] [(100000,100000),(100001,100001)] [100000,100001] ?_
      refine qv Ae ?_
      refine qv A9 ?_
      refine AV ?_
      exact x1 (hr:=(Ej))
   ·try simp at fB
    iterate 2 refine qk ?_
    refine qv Ae ?_
    refine Dy (hb:=by first | rfl | simp | simp_all) (ht:=?_)
    refine Ai ?_
    refine AL ?_
    have EK:=U9 f hE L i
    have O7:=cO f L i
    generalize Rf f L i=C at EK O7 ⊢
    have hol:=EK.ord
    have hbs:=IE EK
    have h5:=F.vh.n5
    have X8:=F.bg.n6
    have tY:=EK.hol.len
    have htl:=EK.MV
    have hend:cR f.bog f.heaps f.need C.orders C.orders.length=C:=by unfold cR;rw [List.take_length];exact O7.eq
    obtain ⟨z,k,hz,hw1,hkl,hk2⟩:=Gx (s:=s) (m:=(Am 0 C.orders).length) (by omega)
    obtain ⟨j,R,hrd,hj,hRk,hcut,hR0⟩:=Ja EK hkl
    have R9:=f36 ((Am 0 C.orders).take k) (by simp;omega)
    rw [hrd] at R9
    obtain ⟨cP,nD,WR,hP2,kI⟩:∃ c,C9 f.bog f.heaps f.need c /\ UJ f.bog f.heaps f.need c /\ c.orders=C.orders.take j /\ c=cR f.bog f.heaps f.need C.orders j:=⟨_,JW F _ (J5 F),(O7.part j).1,(O7.part j).2,rfl⟩
    have ah:cP.orders.length=j:=by rw [hP2];simp;omega
    have kH:(cR f.bog f.heaps f.need C.orders j).orders.length=j:=by rw [<- kI];exact ah
    have htj:(C.orders.take j).length=j:=by simp;omega
    have hm1:=f44 ((Am 0 C.orders).take (k - R.length)) (Am 0 C.orders) (by simp;omega) (by omega)
    rw [show EO ((Am 0 C.orders).take (k - R.length)) (Am 0 C.orders)=((Am 0 C.orders),(C.orders.length:Int),0) by rw [hcut];exact Kh j EK.GL EK.ord] at hm1
    have h46:=OV F nD WR
    rw [show Am 0 cP.orders=(Am 0 C.orders).take (k - R.length) by rw [hP2];exact hcut.symm] at h46
    refine rg ?_
    refine qv A8 ?_
    refine CY (f34 f.bog f.heaps f.need C F EK) [] [(100000,100000),(100001,100001)] [100000,100001] ?_
    refine qv A9 ?_
    refine sg ?_
    refine qv A8 ?_
    refine CF (VF EK) ?_ (hS:=(EN (by (simp only [AA,reduceIte,Nat.reduceEqDiff]<;>rfl))))
    refine qv A8 ?_
    iterate 2 refine qv BZ ?_
    iterate 2 refine qv A9 ?_
    refine AL ?_
    refine Dz 105 ?_
    refine KW 16 (d:=GL C.orders) (EW (L:=C.orders) (st:=1) (by simp only [AA,reduceIte,Nat.reduceEqDiff]<;>rfl) rfl rfl (fun _=>trivial)) hg ?_
    refine rg ?_
    refine qv A8 ?_
    refine qv (FU Te Ll (hw:=by rw [hz])) ?_
    refine qv A8 ?_
    refine qv (EH K4) ?_
    refine qv Aq ?_
    refine qv (FU Te Ll (hw:=by rw [hw1])) ?_
    refine qv KJ ?_
    refine qv (FU Ll Te (hw:=by rw [hk2])) ?_
    refine qv A9 ?_
    refine sg ?_
    iterate 2 refine qv A8 ?_
    refine qv (Fz 0 k K4 (by omega) hkl) ?_
    refine CF (R9) ?_ (hS:=(EN (by (simp only [AA,reduceIte,Nat.reduceEqDiff]<;>rfl))))
    refine qv A8 ?_
    iterate 2 refine qv BZ ?_
    iterate 2 refine qv A9 ?_
    refine AL ?_
    refine sg ?_
    refine qv A8 ?_
    refine qv DY ?_
    refine qx A8 (fun NN=>?_) (fun NN=>?_)
    ·exact absurd NN ((by simp))
    refine qv A8 ?_
    refine qv (CZ Ce) ?_
    refine qv A8 ?_
    refine qv (BD Ce) ?_
    refine qv Dk ?_
    refine qv Ae ?_
    refine qx A8 (fun XY=>?_) (fun XY=>?_)
    ·exact absurd XY ((by simp;omega))
    iterate 3 refine qv A8 ?_
    refine qv (CZ Ce) ?_
    refine qv A8 ?_
    refine qv (CZ Ce) ?_
    refine qv (jX (L':=C.orders.take j) CS Dh (hL:=by rw [htj];simp)) ?_
    refine CF (f38 (C.orders.take j) (C.orders.take j) (by simp;omega)) ?_ (ha:=(CV (RV (L:=(C.orders.take j)) (by simp only [AA,reduceIte,Nat.reduceEqDiff]<;>rfl) trivial rfl (fun _=>trivial)) (CV Bo FI)))
    refine qv CP ?_
    refine qv Ae ?_
    refine Dy (hb:=(by simp)) (ht:=?_)
    refine Af ?_
    refine AL ?_
    refine rd mixed ?_
    refine zv (AB F8) ?_
    refine zv (AY Dw EC) ?_
    refine zv (AB F7) ?_
    refine zv (AY Dp Dt) ?_
    refine zv (AB Gc) ?_
    refine zv (AQ Aw Bw) ?_
    iterate 3 refine zv A8 ?_
    refine zv (EH K4) ?_
    refine zv Gf ?_
    rw [show ((k:Int) - (R.length:Int))=((k - R.length:Nat):Int) by omega]
    refine zv (Fz (a:=Am 0 C.orders) 0 (k - R.length) K4 (by omega) (by omega)) ?_
    refine UL (h46) [] [] [100002,100003] ?_
    refine zv A8 ?_
    iterate 3 refine zv BZ ?_
    iterate 3 refine zv A9 ?_
    refine ⟨by rfl,?_⟩
    refine AL ?_
    refine sg ?_
    refine qv A8 ?_
    refine qv Ay ?_
    refine qx A8 (fun XT=>?_) (fun XT=>?_)
    ·exact absurd XT ((by simp))
    refine qv A8 ?_
    refine KG L9 ?_
    refine qv Ae ?_
    refine qx A8 (fun XQ=>?_) (fun XQ=>?_)
    ·exact absurd XQ ((by simp))
    iterate 2 refine qv A8 ?_
    refine qv (CZ Ce) ?_
    refine qv Ay ?_
    refine qv Ae ?_
    refine Dy (hb:=(by simp [ah,htj])) (ht:=?_)
    refine Af ?_
    refine AL ?_
    refine sg ?_
    refine qv A8 ?_
    refine qv A9 ?_
    refine BI ?_
    refine Ao (ι:=Nat) (fun i=>⟨lk [(2,.dv (i64 ((k:Int)))),(8,.pt 100000 0 0),(15,.dv (Cg (Am 0 C.orders))),(16,.dv (.list ((C.orders).map Cg))),(19,.dv (Cg (R))),(20,.pt 100002 0 0),(22,.dv (i64 (i:Nat)))],AA [(100000,0,some (Il f.bog f.heaps f.need C)),(100002,0,some (VQ f.bog f.heaps f.need (cR f.bog f.heaps f.need C.orders i) 0 100003 0)),(100001,0,some (Di C.orders 0)),(100003,0,some (Di ((cR f.bog f.heaps f.need C.orders i)).orders 0))]⟩) (fun i=>i <= C.orders.length) (fun i=>C.orders.length - i) j hj (tl [(100000,100000),(100002,100002),(100001,100001),(100003,100003)] (hF:=by simp [DK,AX,lk,AA,isLive,AZ,ah,kH,kI,CW]) (hM:=by simp [Cm,Ar,AX,Aa,lk,AA,isLive,AZ,BO,BN,Al,BL,BP,BS,BQ,BR,ah,kH,kI,CW])) ?_
    intro i IL
    refine AL ?_
    refine sg ?_
    iterate 2 refine qv A8 ?_
    refine qv (BD Ce) ?_
    refine qv BK ?_
    refine cd (fun hc8=>?_) (fun hc8=>?_)
    ·try simp at hc8
     refine Af ?_
     refine AL ?_
     refine BI ?_
     refine sg ?_
     have hi:i < C.orders.length:=by omega
     have hxi:C.orders[i]?=some C.orders[i]:=List.getElem?_eq_getElem hi
     have Wl:=Xy F C.orders i
     have hoi:Oz f.bog (cR f.bog f.heaps f.need C.orders i) C.orders[i]=0:=O7.ok i hi
     have hst:=GN (b:=f.bog) (h:=f.heaps) (n:=f.need) (c:=cs0 f.bog.worth.length) hi
     have hdo:=f24 f.bog f.heaps f.need (cR f.bog f.heaps f.need C.orders i) F Wl C.orders[i] (by have:=NI (EK.GL _ (List.getElem_mem hi));omega)
     rw [show Ns f.bog f.heaps f.need (cR f.bog f.heaps f.need C.orders i) C.orders[i]=cR f.bog f.heaps f.need C.orders (i+1) from hst.symm,hoi] at hdo
     iterate 3 refine qv A8 ?_
     first | refine qv (BF CS Dh) ?_ | refine qv (Bf CS Dh) ?_
     refine qv (Bb Dh MK) ?_
     refine CY (hdo) [] [(100000,100002),(100001,100003)] [100002,100003] ?_
     refine qv Ay ?_
     refine Dy (hb:=(by rfl)) (ht:=?_)
     refine Af ?_
     refine rg ?_
     refine qv A8 ?_
     refine qv Aq ?_
     refine qv A9 ?_
     exact ⟨i+1,hi,(by simp only;omega),(tl [(100000,100000),(100002,100002),(100001,100001),(100003,100003)] (hF:=by simp [DK,AX,lk,AA,isLive,AZ,CW]) (hM:=by simp [Cm,Ar,AX,Aa,lk,AA,isLive,AZ,BO,BN,Al,BL,BP,BS,BQ,BR,CW]))⟩
    ·try simp at hc8
     obtain rfl:i=C.orders.length:=by omega
     rw [hend]
     refine Ai ?_
     refine sg ?_
     iterate 3 refine qv A8 ?_
     refine qv (EH K4) ?_
     refine qv Gf ?_
     rw [show ((k:Int) - (R.length:Int))=((k - R.length:Nat):Int) by omega]
     refine qv (Fz (a:=Am 0 C.orders) 0 (k - R.length) K4 (by omega) (by omega)) ?_
     refine qv A8 ?_
     refine CF (hm1) ?_
     refine qv A8 ?_
     iterate 3 refine qv BZ ?_
     iterate 3 refine qv A9 ?_
     refine sg ?_
     refine qv A8 ?_
     refine CY (f34 f.bog f.heaps f.need C F EK) [] [(100000,100002),(100001,100003)] [100002,100003] ?_
     refine qv A8 ?_
     refine qv Qq ?_
     refine qx A8 (fun XM=>?_) (fun XM=>?_)
     rotate_left
     ·exact absurd XM ((by simp))
     refine qv A8 ?_
     refine CY (f52 f.bog f.heaps f.need C F EK) [] [(100000,100002),(100001,100003)] [100002,100003] ?_
     refine qv A8 ?_
     refine CY (f52 f.bog f.heaps f.need C F EK) [] [(100000,100000),(100001,100001)] [100000,100001] ?_
     refine qv Bl ?_
     refine qv Ae ?_
     refine qx A8 (fun XL=>?_) (fun XL=>?_)
     rotate_left
     ·exact absurd XL ((by simp))
     refine qv A8 ?_
     refine CY (f51 f.bog f.heaps f.need C F EK) [] [(100000,100002),(100001,100003)] [100002,100003] ?_
     refine qv A8 ?_
     refine CY (f51 f.bog f.heaps f.need C F EK) [] [(100000,100000),(100001,100001)] [100000,100001] ?_
     refine qv Bl ?_
     refine qv Ae ?_
     refine qx A8 (fun XK=>?_) (fun XK=>?_)
     rotate_left
     ·exact absurd XK ((by simp))
     refine qv A8 ?_
     refine CY (f55 f.bog f.heaps f.need C F EK) [] [(100000,100002),(100001,100003)] [100002,100003] ?_
     refine qv A8 ?_
     refine CY (f55 f.bog f.heaps f.need C F EK) [] [(100000,100000),(100001,100001)] [100000,100001] ?_
     refine qv Bl ?_
     refine qv Ae ?_
     refine qx A8 (fun XJ=>?_) (fun XJ=>?_)
     rotate_left
     ·exact absurd XJ ((by simp))
     refine qv A8 ?_
     refine CY (f50 f.bog f.heaps f.need C F EK) [] [(100000,100002),(100001,100003)] [100002,100003] ?_
     refine qv A8 ?_
     refine CY (f50 f.bog f.heaps f.need C F EK) [] [(100000,100000),(100001,100001)] [100000,100001] ?_
     refine qv Bl ?_
     refine qv Ae ?_
     refine qx A8 (fun XI=>?_) (fun XI=>?_)
     rotate_left
     ·exact absurd XI ((by simp))
     refine qv A8 ?_
     refine CY (f26 f.bog f.heaps f.need C F EK) [] [(100000,100002),(100001,100003)] [100002,100003] ?_
     refine qv A8 ?_
     refine CY (f26 f.bog f.heaps f.need C F EK) [] [(100000,100000),(100001,100001)] [100000,100001] ?_
     refine CF (H.f60 C.Ad C.Ad (by omega)) ?_
     refine qv Ae ?_
     refine qx A8 (fun XH=>?_) (fun XH=>?_)
     rotate_left
     ·exact absurd XH ((by simp))
     refine qv A8 ?_
     refine CY (f28 f.bog f.heaps f.need C F EK) [] [(100000,100002),(100001,100003)] [100002,100003] ?_
     refine qv A8 ?_
     refine CY (f28 f.bog f.heaps f.need C F EK) [] [(100000,100000),(100001,100001)] [100000,100001] ?_
     refine CF (H.f60 C.AU C.AU (by omega)) ?_
     refine qv Ae ?_
     refine qx A8 (fun XG=>?_) (fun XG=>?_)
     rotate_left
     ·exact absurd XG ((by simp))
     refine qv A8 ?_
     refine qv Bl ?_
     refine qv Ae ?_
     refine qx A8 (fun XF=>?_) (fun XF=>?_)
     rotate_left
     ·exact absurd XF ((by simp))
     iterate 2 refine qv A8 ?_
     refine qv Qq ?_
     refine qv Ae ?_
     refine qx A8 (fun XE=>?_) (fun XE=>?_)
     rotate_left
     ·exact absurd XE ((by simp))
     iterate 2 refine qv A8 ?_
     refine qv (BD Ce) ?_
     refine qv Bl ?_
     refine qv Ae ?_
     refine qx A8 (fun XD=>?_) (fun XD=>?_)
     rotate_left
     ·exact absurd XD ((by simp))
     refine qv A8 ?_
     refine CY (f49 f.bog f.heaps f.need C F EK O7) [] [(100000,100000),(100001,100001)] [100000,100001] ?_
     refine qv Ae ?_
     refine qv A9 ?_
     refine AV ?_
     exact x1 (hr:=(Ej))
theorem f17 (f:Fm) (hf:LV f) (L:List Tx) (hk:L.length <= 9223372036854775807) (s:Int):AR Tryz.prog 17 [Vk f,GL L,i64 s] (.one (.dv (.bool true))):=by
 by_cases hE:newE f.bog f.heaps f.need=0
 ·exact wZ f hf L hk s hE
 ·exact qZ f hf L hk s hE
end Go.Ab.Tryz
