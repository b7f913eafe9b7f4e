/- The functions of the bog laws: cuttings, part 84. The walks are written by wip/gen/gw.py. -/
import Derived.Test.YtjcecljhjailiaaGreatDoorBogU9
import Derived.Test.YtjcecljhjailiaaGreatDoorBogB5
import Derived.Test.YtjcecljhjailiaaGreatDoorBogG07
set_option linter.all false
namespace Go.Ab.Tryz
open Go Go.Ab Go.Proofs Go.Ab.Ck Go.Ab.Gi
open Go.Ab.Heap (Az Ap BX)
open Go.Ab.Heap (Hp GX validate sm)
theorem Xi {l:List Tx} {j m:Nat} (hm:m <= (l.take j).length):(List.range m).find? (fun i=>(l.take j).getD i [] != l.getD i [])=none:=by
 rw [List.find?_eq_none]
 intro i hi
 have h1:=List.mem_range.1 hi
 have h2:i < (l.take j).length:=by omega
 have h3:i < l.length:=by simp at h2;omega
 simp [List.getD_eq_getElem?_getD,h3,List.getElem?_take]
 rw [if_pos (by simp at h2;omega)];rfl
theorem fK {l:List Tx} {j m:Nat} (hm:m <= (l.take j).length):(List.range m).find? (fun i=>l.getD i [] != (l.take j).getD i [])=none:=by
 rw [<- Xi (l:=l) (j:=j) hm]
 congr 1
 funext i
 exact bne_comm
theorem Kh {l:List Tx} (j:Nat) (h:∀ T ∈ l,Es T=true) (hl:l.length <= 100):EO (Am 0 (l.take j)) (Am 0 l)=(Am 0 l,(l.length:Int),0):=by
 have h1:Ak 100 0 (Am 0 (l.take j))=(l.take j,[]):=Hu 0 (fun T hT=>h T (List.mem_of_mem_take hT)) (by simp;omega)
 have h2:Ak 100 0 (Am 0 l)=(l,[]):=Hu 0 h hl
 unfold EO
 simp only [h1,h2]
 rw [if_neg (by simp),Xi (Nat.min_le_left _ _)]
 dsimp only
 split
 ·rfl
 ·rename_i h3
  have:l.take j=l:=List.take_of_length_le (by simp at h3;omega)
  rw [this]
theorem Qp {l:List Tx} (j:Nat) (h:∀ T ∈ l,Es T=true) (hl:l.length <= 100):EO (Am 0 l) (Am 0 (l.take j))=(Am 0 l,(l.length:Int),0):=by
 have h1:Ak 100 0 (Am 0 (l.take j))=(l.take j,[]):=Hu 0 (fun T hT=>h T (List.mem_of_mem_take hT)) (by simp;omega)
 have h2:Ak 100 0 (Am 0 l)=(l,[]):=Hu 0 h hl
 unfold EO
 simp only [h1,h2]
 rw [if_neg (by simp),fK (Nat.min_le_right _ _)]
 dsimp only
 rw [if_neg (by simp;omega)]
theorem Ja {b:Bg} {h:Hp} {n:Int} {c:Cs} (ok:C9 b h n c) {k:Nat} (hk:k <= (Am 0 c.orders).length):∃ (j:Nat) (R:Tx),Ak 100 0 ((Am 0 c.orders).take k)=(c.orders.take j,R) /\ j <= c.orders.length /\ R.length <= k /\ (Am 0 c.orders).take (k - R.length)=Am 0 (c.orders.take j) /\ (R=[] -> (Am 0 c.orders).take k=Am 0 (c.orders.take j)):=by
 obtain ⟨j,h1,h2,_⟩:=TL c.orders 100 0 k ok.GL ok.ord
 have h3:=(Gz 100 0 ((Am 0 c.orders).take k)).1
 rw [h1] at h3
 generalize hR:(Ak 100 0 ((Am 0 c.orders).take k)).2=R at h3
 have h4:k=(Am 0 (c.orders.take j)).length+R.length:=by
  have:=congrArg List.length h3
  rw [List.length_take,Nat.min_eq_left hk,List.length_append] at this
  exact this
 refine ⟨j,R,by rw [<- h1,<- hR],h2,by omega,?_,fun e=>by rw [h3,e,List.append_nil]⟩
 have h5:(Am 0 c.orders).take (k - R.length)=((Am 0 c.orders).take k).take (k - R.length):=by rw [List.take_take,Nat.min_eq_left (by omega)]
 rw [h5,h3,show k - R.length=(Am 0 (c.orders.take j)).length by omega,List.take_left]
set_option maxHeartbeats 4000000 in
theorem qc (x:Ft) (hx:Nr x) (hE:newE x.bog x.heaps x.need ≠ 0):AR Tryz.prog 15 [nJ x] (.one (.dv (.bool true))):=by
 have nH:=f36 [54,57,54,50,51,57,32,100,97,121,10,54,57,54] (by decide)
 rw [show Ak 100 0 [54,57,54,50,51,57,32,100,97,121,10,54,57,54]=([[100,97,121]],[54,57,54]) by decide +kernel] at nH
 refine Bv Tryz.func15 rfl rfl (by rw [Tryz.ntmps15];simp) fun cx hP hn hg=>?_
 rw [Tryz.ntmps15] at hn
 rw [Br,Bq]
 simp only [List.nil_append,List.append_nil,List.cons_append,BH,Nat.reduceAdd]
 refine sg ?_
 refine qp Bu ?_
 refine qv A9 ?_
 refine AL ?_
 refine sg ?_
 refine CF (nH) ?_ (hS:=(EN (by (simp only [AA,reduceIte,Nat.reduceEqDiff]<;>rfl))))
 refine qv A8 ?_
 iterate 2 refine qv BZ ?_
 iterate 2 refine qv A9 ?_
 refine sg ?_
 refine qv A8 ?_
 refine qv (CZ Ce) ?_
 refine qv Ay ?_
 refine qx A8 (fun J3=>?_) (fun J3=>?_)
 ·exact absurd J3 ((by simp))
 refine qv A8 ?_
 refine qv (CR CS Dh) ?_
 refine qv (LG Dh MK (i:=0) (T:=[100,97,121]) rfl) ?_
 refine qv DY ?_
 refine qv Ae ?_
 refine qx A8 (fun R4=>?_) (fun R4=>?_)
 ·exact absurd R4 ((by simp))
 refine qv A8 ?_
 refine qv DY ?_
 refine qv Ae ?_
 refine Dy (hb:=(by simp)) (ht:=?_)
 refine Af ?_
 refine sg ?_
 refine qv (AY iM mY) ?_
 refine CY (bB x hE) [] [] [] ?_
 refine qv A8 ?_
 iterate 3 refine qv BZ ?_
 iterate 3 refine qv A9 ?_
 refine AL ?_
 refine sg ?_
 refine qv A8 ?_
 refine qv CP ?_
 refine G5 (hb:=(by rfl)) (ht:=?_)
 refine sg ?_
 refine qv A9 ?_
 refine AV ?_
 exact x1 (hr:=(Ej))
set_option maxHeartbeats 8000000 in
set_option maxRecDepth 100000 in
theorem fM (x:Ft) (hx:Nr x) (hE:newE x.bog x.heaps x.need=0) (hR:∀ z k:Nat,IntKind.u64.wrap x.pick=(z:Int) -> IntKind.i64.wrap (Int.tmod (z:Int) (((Am 0 (cF x (x.orders.take 30).length).orders).length+1:Nat):Int))=(k:Int) -> (Ak 100 0 ((Am 0 (cF x (x.orders.take 30).length).orders).take k)).2=[]):AR Tryz.prog 15 [nJ x] (.one (.dv (.bool true))):=by
 have nH:=f36 [54,57,54,50,51,57,32,100,97,121,10,54,57,54] (by decide)
 rw [show Ak 100 0 [54,57,54,50,51,57,32,100,97,121,10,54,57,54]=([[100,97,121]],[54,57,54]) by decide +kernel] at nH
 have F:=JJ hE
 have Wm:=Xz x hE (x.orders.take 30).length
 have WS:=ZX x (x.orders.take 30).length
 have h57:=ZL x hx hE
 obtain ⟨C,hC⟩:∃ c,c=cF x (x.orders.take 30).length:=⟨_,rfl⟩
 rw [<- hC] at Wm WS h57 hR
 have EK:=Wm
 have O7:=WS
 have hol:=EK.ord
 refine Bv Tryz.func15 rfl rfl (by rw [Tryz.ntmps15];simp) fun cx hP hn hg=>?_
 rw [Tryz.ntmps15] at hn
 rw [Br,Bq]
 simp only [List.nil_append,List.append_nil,List.cons_append,BH,Nat.reduceAdd]
 refine sg ?_
 refine qp Bu ?_
 refine qv A9 ?_
 refine AL ?_
 refine sg ?_
 refine CF (nH) ?_ (hS:=(EN (by (simp only [AA,reduceIte,Nat.reduceEqDiff]<;>rfl))))
 refine qv A8 ?_
 iterate 2 refine qv BZ ?_
 iterate 2 refine qv A9 ?_
 refine sg ?_
 refine qv A8 ?_
 refine qv (CZ Ce) ?_
 refine qv Ay ?_
 refine qx A8 (fun J3=>?_) (fun J3=>?_)
 ·exact absurd J3 ((by simp))
 refine qv A8 ?_
 refine qv (CR CS Dh) ?_
 refine qv (LG Dh MK (i:=0) (T:=[100,97,121]) rfl) ?_
 refine qv DY ?_
 refine qv Ae ?_
 refine qx A8 (fun R4=>?_) (fun R4=>?_)
 ·exact absurd R4 ((by simp))
 refine qv A8 ?_
 refine qv DY ?_
 refine qv Ae ?_
 refine Dy (hb:=(by simp)) (ht:=?_)
 refine Af ?_
 refine sg ?_
 refine qv (AY iM mY) ?_
 refine CY (h57) [] [] [100000,100001,100002] ?_
 refine qv A8 ?_
 iterate 3 refine qv BZ ?_
 iterate 3 refine qv A9 ?_
 refine AL ?_
 refine sg ?_
 refine qv A8 ?_
 refine qv CP ?_
 refine Dy (hb:=(by rfl)) (ht:=?_)
 refine Af ?_
 refine AL ?_
 refine Dz 100002 ?_
 refine KW 6 (d:=GL C.orders) (EW (L:=C.orders) (st:=1) (by simp only [AA,reduceIte,Nat.reduceEqDiff]<;>rfl) rfl rfl (fun _=>trivial)) hg ?_
 refine rg ?_
 refine qv A8 ?_
 refine CY (f34 x.bog x.heaps x.need C F EK) [] [(100000,100000),(100001,100001)] [100000,100001] ?_
 refine qv A9 ?_
 refine sg ?_
 refine qv A8 ?_
 refine CF (gu EK) ?_
 refine qv A8 ?_
 iterate 2 refine qv BZ ?_
 iterate 2 refine qv A9 ?_
 refine AL ?_
 refine sg ?_
 refine qv A8 ?_
 refine qv Ay ?_
 refine qx A8 (fun Ls=>?_) (fun Ls=>?_)
 ·exact absurd Ls ((by simp))
 iterate 2 refine qv A8 ?_
 refine qv DY ?_
 refine qv Ae ?_
 refine Dy (hb:=(by simp)) (ht:=?_)
 refine Af ?_
 refine sg ?_
 refine qv A8 ?_
 refine CF (VF EK) ?_ (hS:=(EN (by (simp only [AA,reduceIte,Nat.reduceEqDiff]<;>rfl))))
 refine qv A8 ?_
 iterate 2 refine qv BZ ?_
 iterate 2 refine qv A9 ?_
 refine AL ?_
 refine sg ?_
 refine qv A8 ?_
 refine qv DY ?_
 refine qx A8 (fun jv=>?_) (fun jv=>?_)
 ·exact absurd jv ((by simp))
 refine qv A8 ?_
 refine qv (CZ Ce) ?_
 refine qv A8 ?_
 refine qv (BD Ce) ?_
 refine qv Ay ?_
 refine qv Ae ?_
 refine Dy (hb:=(by simp)) (ht:=?_)
 refine Af ?_
 refine AL ?_
 refine sg ?_
 refine qv A9 ?_
 refine BI ?_
 refine Ao (ι:=Nat) (fun i=>⟨lk [(1,.pt 1 0 0),(6,.dv (.list ((C.orders).map Cg))),(8,.dv (Cg (Am 0 C.orders))),(11,.sl 65 0 0 C.orders.length),(13,.dv (i64 (i:Nat)))],AA [(1,0,some ⟨[.dv (.list ((x.bog.worth).map ints)),.dv (.list ((x.heaps.links).map ints)),.dv (ints (x.heaps.ground)),.dv (i64 (x.need)),.dv (.list ((x.orders).map Cg)),.dv (i64 (x.pick))],0,81,0,false⟩),(65,0,some (Jz C.orders))]⟩) (fun i=>i <= C.orders.length) (fun i=>C.orders.length - i) 0 (by simp) (tl [(1,1),(65,65)] (hF:=by simp [DK,AX,lk,AA,isLive,AZ,CW]) (hM:=by simp [Cm,Ar,AX,Aa,lk,AA,isLive,AZ,BO,BN,Al,BL,BP,BS,BQ,BR,CW])) ?_
 intro i BM
 refine AL ?_
 refine sg ?_
 iterate 2 refine qv A8 ?_
 refine qv (CZ Ce) ?_
 refine qv BK ?_
 refine cd (fun hc4=>?_) (fun hc4=>?_)
 ·try simp at hc4
  refine Af ?_
  refine AL ?_
  refine BI ?_
  refine AL ?_
  refine rd mixed ?_
  have hi:i < C.orders.length:=by omega
  have hxi:C.orders[i]?=some C.orders[i]:=List.getElem?_eq_getElem hi
  iterate 2 refine zv A8 ?_
  refine zv (CR CS Dh) ?_
  refine zv (LG Dh MK hxi) ?_
  iterate 2 refine zv A8 ?_
  first | refine zv (BF CS Dh) ?_ | refine zv (Bf CS Dh) ?_
  refine zv (Bb Dh MK) ?_
  refine zv DY ?_
  refine ⟨by rfl,?_⟩
  refine Dy (hb:=(by simp)) (ht:=?_)
  refine Af ?_
  refine rg ?_
  refine qv A8 ?_
  refine qv Aq ?_
  refine qv A9 ?_
  exact ⟨i+1,hi,(by simp only;omega),(tl [(1,1),(65,65)] (hF:=by simp [DK,AX,lk,AA,isLive,AZ,CW]) (hM:=by simp [Cm,Ar,AX,Aa,lk,AA,isLive,AZ,BO,BN,Al,BL,BP,BS,BQ,BR,CW]))⟩
 ·try simp at hc4
  refine Ai ?_
  refine AL ?_
  have hbs:=IE EK
  obtain ⟨z,k,hz,hw1,hkl,hk2⟩:=Gx (s:=x.pick) (m:=(Am 0 C.orders).length) (by omega)
  have hRR:=hR z k hz hk2
  obtain ⟨j,R,hrd,hj,hRk,hcut,hR0⟩:=Ja EK hkl
  rw [hrd] at hRR
  dsimp only at hRR
  have R9:=f36 ((Am 0 C.orders).take k) (by simp;omega)
  rw [hrd] at R9
  obtain ⟨cP,nD,WR,hP2⟩:∃ c,C9 x.bog x.heaps x.need c /\ UJ x.bog x.heaps x.need c /\ c.orders=C.orders.take j:=⟨_,JW F _ (J5 F),(O7.part j).1,(O7.part j).2⟩
  have ah:cP.orders.length=j:=by rw [hP2];simp;omega
  have htj:(C.orders.take j).length=j:=by simp;omega
  have hm1:=f44 ((Am 0 C.orders).take (k - R.length)) (Am 0 C.orders) (by simp;omega) (by omega)
  rw [show EO ((Am 0 C.orders).take (k - R.length)) (Am 0 C.orders)=((Am 0 C.orders),(C.orders.length:Int),0) by rw [hcut];exact Kh j EK.GL EK.ord] at hm1
  have hm2:=f44 (Am 0 C.orders) ((Am 0 C.orders).take (k - R.length)) (by omega) (by simp;omega)
  rw [show EO (Am 0 C.orders) ((Am 0 C.orders).take (k - R.length))=((Am 0 C.orders),(C.orders.length:Int),0) by rw [hcut];exact Qp j EK.GL EK.ord] at hm2
  have h46:=OV F nD WR
  rw [show Am 0 cP.orders=(Am 0 C.orders).take k by rw [hP2];exact (hR0 hRR).symm] at h46
  refine rg ?_
  refine qv (AB ZJ) ?_
  refine qv (AQ Aw Bw) ?_
  refine qv (FU Te Ll (hw:=by rw [hz])) ?_
  refine qv A8 ?_
  refine qv (EH K4) ?_
  refine qv Aq ?_
  refine qv (FU Te Ll (hw:=by rw [hw1])) ?_
  refine qv KJ ?_
  refine qv (FU Ll Te (hw:=by rw [hk2])) ?_
  refine qv A9 ?_
  refine sg ?_
  iterate 2 refine qv A8 ?_
  refine qv (Fz 0 k K4 (by omega) hkl) ?_
  refine CF (R9) ?_ (hS:=(EN (by (simp only [AA,reduceIte,Nat.reduceEqDiff]<;>rfl))))
  refine qv A8 ?_
  iterate 2 refine qv BZ ?_
  iterate 2 refine qv A9 ?_
  refine AL ?_
  refine sg ?_
  refine qv A8 ?_
  refine qv (CZ Ce) ?_
  refine qv A8 ?_
  refine qv (BD Ce) ?_
  refine qv Dk ?_
  refine qx A8 (fun Xa=>?_) (fun Xa=>?_)
  ·exact absurd Xa ((by simp;omega))
  refine qv A8 ?_
  refine qv (EH K4) ?_
  refine qv A8 ?_
  refine qv Dk ?_
  refine qv Ae ?_
  refine Dy (hb:=(by simp;omega)) (ht:=?_)
  refine Af ?_
  refine AL ?_
  refine sg ?_
  refine qv A9 ?_
  refine BI ?_
  refine Ao (ι:=Nat) (fun i=>⟨lk [(1,.pt 1 0 0),(6,.dv (.list ((C.orders).map Cg))),(8,.dv (Cg (Am 0 C.orders))),(11,.sl 105 0 0 (C.orders.take j).length),(12,.dv (Cg (R))),(14,.dv (i64 ((k:Int)))),(15,.dv (i64 (i:Nat)))],AA [(1,0,some ⟨[.dv (.list ((x.bog.worth).map ints)),.dv (.list ((x.heaps.links).map ints)),.dv (ints (x.heaps.ground)),.dv (i64 (x.need)),.dv (.list ((x.orders).map Cg)),.dv (i64 (x.pick))],0,81,0,false⟩),(105,0,some (Jz (C.orders.take j)))]⟩) (fun i=>i <= (C.orders.take j).length) (fun i=>(C.orders.take j).length - i) 0 (by simp) (tl [(1,1),(105,105)] (hF:=by simp [DK,AX,lk,AA,isLive,AZ,CW]) (hM:=by simp [Cm,Ar,AX,Aa,lk,AA,isLive,AZ,BO,BN,Al,BL,BP,BS,BQ,BR,CW])) ?_
  intro i IL
  refine AL ?_
  refine sg ?_
  iterate 2 refine qv A8 ?_
  refine qv (CZ Ce) ?_
  refine qv BK ?_
  refine cd (fun Xb=>?_) (fun Xb=>?_)
  ·try simp at Xb
   refine Af ?_
   refine AL ?_
   refine BI ?_
   refine AL ?_
   refine rd mixed ?_
   have hi2:i < (C.orders.take j).length:=by omega
   have hi:i < C.orders.length:=by omega
   have hyi:C.orders[i]?=some C.orders[i]:=List.getElem?_eq_getElem hi
   have hxi:(C.orders.take j)[i]?=some C.orders[i]:=by rw [List.getElem?_take,if_pos (by omega)];exact hyi
   iterate 2 refine zv A8 ?_
   refine zv (CR CS Dh) ?_
   refine zv (LG Dh MK hxi) ?_
   iterate 2 refine zv A8 ?_
   first | refine zv (BF CS Dh) ?_ | refine zv (Bf CS Dh) ?_
   refine zv (Bb Dh MK) ?_
   refine zv DY ?_
   refine ⟨by rfl,?_⟩
   refine Dy (hb:=(by simp)) (ht:=?_)
   refine Af ?_
   refine rg ?_
   refine qv A8 ?_
   refine qv Aq ?_
   refine qv A9 ?_
   exact ⟨i+1,hi2,(by simp only;omega),(tl [(1,1),(105,105)] (hF:=by simp [DK,AX,lk,AA,isLive,AZ,CW]) (hM:=by simp [Cm,Ar,AX,Aa,lk,AA,isLive,AZ,BO,BN,Al,BL,BP,BS,BQ,BR,CW]))⟩
  ·try simp at Xb
   refine Ai ?_
   refine sg ?_
   iterate 3 refine qv A8 ?_
   refine qv (EH K4) ?_
   refine qv Gf ?_
   rw [show ((k:Int) - (R.length:Int))=((k - R.length:Nat):Int) by omega]
   refine qv (Fz (a:=Am 0 C.orders) 0 (k - R.length) K4 (by omega) (by omega)) ?_
   refine qv A9 ?_
   refine sg ?_
   iterate 2 refine qv A8 ?_
   refine CF (hm1) ?_
   refine qv A8 ?_
   iterate 3 refine qv BZ ?_
   iterate 3 refine qv A9 ?_
   refine sg ?_
   iterate 2 refine qv A8 ?_
   refine CF (hm2) ?_
   refine qv A8 ?_
   iterate 3 refine qv BZ ?_
   iterate 3 refine qv A9 ?_
   refine AL ?_
   refine sg ?_
   refine qv A8 ?_
   refine qv Ay ?_
   refine qx A8 (fun XW=>?_) (fun XW=>?_)
   ·exact absurd XW ((by simp))
   refine qv A8 ?_
   refine qv Ay ?_
   refine qv Ae ?_
   refine qx A8 (fun XU=>?_) (fun XU=>?_)
   ·exact absurd XU ((by simp))
   iterate 2 refine qv A8 ?_
   refine qv DY ?_
   refine qv Ae ?_
   refine qx A8 (fun XR=>?_) (fun XR=>?_)
   ·exact absurd XR ((by simp))
   iterate 2 refine qv A8 ?_
   refine qv DY ?_
   refine qv Ae ?_
   refine qx A8 (fun XP=>?_) (fun XP=>?_)
   ·exact absurd XP ((by simp))
   iterate 2 refine qv A8 ?_
   refine qv (BD Ce) ?_
   refine qv Ay ?_
   refine qv Ae ?_
   refine qx A8 (fun XO=>?_) (fun XO=>?_)
   ·exact absurd XO ((by simp))
   iterate 2 refine qv A8 ?_
   refine qv Ay ?_
   refine qv Ae ?_
   refine Dy (hb:=(by simp)) (ht:=?_)
   refine Af ?_
   refine AL ?_
   refine rd mixed ?_
   refine zv (AB M8) ?_
   refine zv (AY Dw EC) ?_
   refine zv (AB M7) ?_
   refine zv (AY Dp Dt) ?_
   refine zv (AB M6) ?_
   refine zv (AQ Aw Bw) ?_
   iterate 2 refine zv A8 ?_
   refine zv (Fz 0 k K4 (by omega) hkl) ?_
   refine UL (h46) [] [] [100003,100004] ?_
   refine zv A8 ?_
   iterate 3 refine zv BZ ?_
   iterate 3 refine zv A9 ?_
   refine ⟨by rfl,?_⟩
   refine AL ?_
   refine sg ?_
   refine qv A8 ?_
   refine qv DY ?_
   refine Dy (hb:=(by simp [hRR])) (ht:=?_)
   refine Af ?_
   refine sg ?_
   refine qv A8 ?_
   refine qv Bl ?_
   refine qx A8 (fun tZ=>?_) (fun tZ=>?_)
   rotate_left
   ·exact absurd tZ ((by simp))
   iterate 2 refine qv A8 ?_
   refine qv (CZ Ce) ?_
   refine qv Bl ?_
   refine qv Ae ?_
   refine qv A9 ?_
   refine AV ?_
   exact x1 (hr:=(Ej (by simp [ah,htj])))
set_option maxHeartbeats 8000000 in
set_option maxRecDepth 100000 in
theorem l5 (x:Ft) (hx:Nr x) (hE:newE x.bog x.heaps x.need=0) (hR:∀ z k:Nat,IntKind.u64.wrap x.pick=(z:Int) -> IntKind.i64.wrap (Int.tmod (z:Int) (((Am 0 (cF x (x.orders.take 30).length).orders).length+1:Nat):Int))=(k:Int) -> (Ak 100 0 ((Am 0 (cF x (x.orders.take 30).length).orders).take k)).2 ≠ []):AR Tryz.prog 15 [nJ x] (.one (.dv (.bool true))):=by
 have nH:=f36 [54,57,54,50,51,57,32,100,97,121,10,54,57,54] (by decide)
 rw [show Ak 100 0 [54,57,54,50,51,57,32,100,97,121,10,54,57,54]=([[100,97,121]],[54,57,54]) by decide +kernel] at nH
 have F:=JJ hE
 have Wm:=Xz x hE (x.orders.take 30).length
 have WS:=ZX x (x.orders.take 30).length
 have h57:=ZL x hx hE
 obtain ⟨C,hC⟩:∃ c,c=cF x (x.orders.take 30).length:=⟨_,rfl⟩
 rw [<- hC] at Wm WS h57 hR
 have EK:=Wm
 have O7:=WS
 have hol:=EK.ord
 refine Bv Tryz.func15 rfl rfl (by rw [Tryz.ntmps15];simp) fun cx hP hn hg=>?_
 rw [Tryz.ntmps15] at hn
 rw [Br,Bq]
 simp only [List.nil_append,List.append_nil,List.cons_append,BH,Nat.reduceAdd]
 refine sg ?_
 refine qp Bu ?_
 refine qv A9 ?_
 refine AL ?_
 refine sg ?_
 refine CF (nH) ?_ (hS:=(EN (by (simp only [AA,reduceIte,Nat.reduceEqDiff]<;>rfl))))
 refine qv A8 ?_
 iterate 2 refine qv BZ ?_
 iterate 2 refine qv A9 ?_
 refine sg ?_
 refine qv A8 ?_
 refine qv (CZ Ce) ?_
 refine qv Ay ?_
 refine qx A8 (fun J3=>?_) (fun J3=>?_)
 ·exact absurd J3 ((by simp))
 refine qv A8 ?_
 refine qv (CR CS Dh) ?_
 refine qv (LG Dh MK (i:=0) (T:=[100,97,121]) rfl) ?_
 refine qv DY ?_
 refine qv Ae ?_
 refine qx A8 (fun R4=>?_) (fun R4=>?_)
 ·exact absurd R4 ((by simp))
 refine qv A8 ?_
 refine qv DY ?_
 refine qv Ae ?_
 refine Dy (hb:=(by simp)) (ht:=?_)
 refine Af ?_
 refine sg ?_
 refine qv (AY iM mY) ?_
 refine CY (h57) [] [] [100000,100001,100002] ?_
 refine qv A8 ?_
 iterate 3 refine qv BZ ?_
 iterate 3 refine qv A9 ?_
 refine AL ?_
 refine sg ?_
 refine qv A8 ?_
 refine qv CP ?_
 refine Dy (hb:=(by rfl)) (ht:=?_)
 refine Af ?_
 refine AL ?_
 refine Dz 100002 ?_
 refine KW 6 (d:=GL C.orders) (EW (L:=C.orders) (st:=1) (by simp only [AA,reduceIte,Nat.reduceEqDiff]<;>rfl) rfl rfl (fun _=>trivial)) hg ?_
 refine rg ?_
 refine qv A8 ?_
 refine CY (f34 x.bog x.heaps x.need C F EK) [] [(100000,100000),(100001,100001)] [100000,100001] ?_
 refine qv A9 ?_
 refine sg ?_
 refine qv A8 ?_
 refine CF (gu EK) ?_
 refine qv A8 ?_
 iterate 2 refine qv BZ ?_
 iterate 2 refine qv A9 ?_
 refine AL ?_
 refine sg ?_
 refine qv A8 ?_
 refine qv Ay ?_
 refine qx A8 (fun Ls=>?_) (fun Ls=>?_)
 ·exact absurd Ls ((by simp))
 iterate 2 refine qv A8 ?_
 refine qv DY ?_
 refine qv Ae ?_
 refine Dy (hb:=(by simp)) (ht:=?_)
 refine Af ?_
 refine sg ?_
 refine qv A8 ?_
 refine CF (VF EK) ?_ (hS:=(EN (by (simp only [AA,reduceIte,Nat.reduceEqDiff]<;>rfl))))
 refine qv A8 ?_
 iterate 2 refine qv BZ ?_
 iterate 2 refine qv A9 ?_
 refine AL ?_
 refine sg ?_
 refine qv A8 ?_
 refine qv DY ?_
 refine qx A8 (fun jv=>?_) (fun jv=>?_)
 ·exact absurd jv ((by simp))
 refine qv A8 ?_
 refine qv (CZ Ce) ?_
 refine qv A8 ?_
 refine qv (BD Ce) ?_
 refine qv Ay ?_
 refine qv Ae ?_
 refine Dy (hb:=(by simp)) (ht:=?_)
 refine Af ?_
 refine AL ?_
 refine sg ?_
 refine qv A9 ?_
 refine BI ?_
 refine Ao (ι:=Nat) (fun i=>⟨lk [(1,.pt 1 0 0),(6,.dv (.list ((C.orders).map Cg))),(8,.dv (Cg (Am 0 C.orders))),(11,.sl 65 0 0 C.orders.length),(13,.dv (i64 (i:Nat)))],AA [(1,0,some ⟨[.dv (.list ((x.bog.worth).map ints)),.dv (.list ((x.heaps.links).map ints)),.dv (ints (x.heaps.ground)),.dv (i64 (x.need)),.dv (.list ((x.orders).map Cg)),.dv (i64 (x.pick))],0,81,0,false⟩),(65,0,some (Jz C.orders))]⟩) (fun i=>i <= C.orders.length) (fun i=>C.orders.length - i) 0 (by simp) (tl [(1,1),(65,65)] (hF:=by simp [DK,AX,lk,AA,isLive,AZ,CW]) (hM:=by simp [Cm,Ar,AX,Aa,lk,AA,isLive,AZ,BO,BN,Al,BL,BP,BS,BQ,BR,CW])) ?_
 intro i BM
 refine AL ?_
 refine sg ?_
 iterate 2 refine qv A8 ?_
 refine qv (CZ Ce) ?_
 refine qv BK ?_
 refine cd (fun hc4=>?_) (fun hc4=>?_)
 ·try simp at hc4
  refine Af ?_
  refine AL ?_
  refine BI ?_
  refine AL ?_
  refine rd mixed ?_
  have hi:i < C.orders.length:=by omega
  have hxi:C.orders[i]?=some C.orders[i]:=List.getElem?_eq_getElem hi
  iterate 2 refine zv A8 ?_
  refine zv (CR CS Dh) ?_
  refine zv (LG Dh MK hxi) ?_
  iterate 2 refine zv A8 ?_
  first | refine zv (BF CS Dh) ?_ | refine zv (Bf CS Dh) ?_
  refine zv (Bb Dh MK) ?_
  refine zv DY ?_
  refine ⟨by rfl,?_⟩
  refine Dy (hb:=(by simp)) (ht:=?_)
  refine Af ?_
  refine rg ?_
  refine qv A8 ?_
  refine qv Aq ?_
  refine qv A9 ?_
  exact ⟨i+1,hi,(by simp only;omega),(tl [(1,1),(65,65)] (hF:=by simp [DK,AX,lk,AA,isLive,AZ,CW]) (hM:=by simp [Cm,Ar,AX,Aa,lk,AA,isLive,AZ,BO,BN,Al,BL,BP,BS,BQ,BR,CW]))⟩
 ·try simp at hc4
  refine Ai ?_
  refine AL ?_
  have hbs:=IE EK
  obtain ⟨z,k,hz,hw1,hkl,hk2⟩:=Gx (s:=x.pick) (m:=(Am 0 C.orders).length) (by omega)
  have hRR:=hR z k hz hk2
  obtain ⟨j,R,hrd,hj,hRk,hcut,hR0⟩:=Ja EK hkl
  rw [hrd] at hRR
  dsimp only at hRR
  have R9:=f36 ((Am 0 C.orders).take k) (by simp;omega)
  rw [hrd] at R9
  obtain ⟨cP,nD,WR,hP2⟩:∃ c,C9 x.bog x.heaps x.need c /\ UJ x.bog x.heaps x.need c /\ c.orders=C.orders.take j:=⟨_,JW F _ (J5 F),(O7.part j).1,(O7.part j).2⟩
  have ah:cP.orders.length=j:=by rw [hP2];simp;omega
  have htj:(C.orders.take j).length=j:=by simp;omega
  have hm1:=f44 ((Am 0 C.orders).take (k - R.length)) (Am 0 C.orders) (by simp;omega) (by omega)
  rw [show EO ((Am 0 C.orders).take (k - R.length)) (Am 0 C.orders)=((Am 0 C.orders),(C.orders.length:Int),0) by rw [hcut];exact Kh j EK.GL EK.ord] at hm1
  have hm2:=f44 (Am 0 C.orders) ((Am 0 C.orders).take (k - R.length)) (by omega) (by simp;omega)
  rw [show EO (Am 0 C.orders) ((Am 0 C.orders).take (k - R.length))=((Am 0 C.orders),(C.orders.length:Int),0) by rw [hcut];exact Qp j EK.GL EK.ord] at hm2
  have h46:=kr x.bog x.heaps x.need ((Am 0 C.orders).take k) (by simp;omega) hE (by rw [hrd];exact hRR)
  refine rg ?_
  refine qv (AB ZJ) ?_
  refine qv (AQ Aw Bw) ?_
  refine qv (FU Te Ll (hw:=by rw [hz])) ?_
  refine qv A8 ?_
  refine qv (EH K4) ?_
  refine qv Aq ?_
  refine qv (FU Te Ll (hw:=by rw [hw1])) ?_
  refine qv KJ ?_
  refine qv (FU Ll Te (hw:=by rw [hk2])) ?_
  refine qv A9 ?_
  refine sg ?_
  iterate 2 refine qv A8 ?_
  refine qv (Fz 0 k K4 (by omega) hkl) ?_
  refine CF (R9) ?_ (hS:=(EN (by (simp only [AA,reduceIte,Nat.reduceEqDiff]<;>rfl))))
  refine qv A8 ?_
  iterate 2 refine qv BZ ?_
  iterate 2 refine qv A9 ?_
  refine AL ?_
  refine sg ?_
  refine qv A8 ?_
  refine qv (CZ Ce) ?_
  refine qv A8 ?_
  refine qv (BD Ce) ?_
  refine qv Dk ?_
  refine qx A8 (fun Xa=>?_) (fun Xa=>?_)
  ·exact absurd Xa ((by simp;omega))
  refine qv A8 ?_
  refine qv (EH K4) ?_
  refine qv A8 ?_
  refine qv Dk ?_
  refine qv Ae ?_
  refine Dy (hb:=(by simp;omega)) (ht:=?_)
  refine Af ?_
  refine AL ?_
  refine sg ?_
  refine qv A9 ?_
  refine BI ?_
  refine Ao (ι:=Nat) (fun i=>⟨lk [(1,.pt 1 0 0),(6,.dv (.list ((C.orders).map Cg))),(8,.dv (Cg (Am 0 C.orders))),(11,.sl 105 0 0 (C.orders.take j).length),(12,.dv (Cg (R))),(14,.dv (i64 ((k:Int)))),(15,.dv (i64 (i:Nat)))],AA [(1,0,some ⟨[.dv (.list ((x.bog.worth).map ints)),.dv (.list ((x.heaps.links).map ints)),.dv (ints (x.heaps.ground)),.dv (i64 (x.need)),.dv (.list ((x.orders).map Cg)),.dv (i64 (x.pick))],0,81,0,false⟩),(105,0,some (Jz (C.orders.take j)))]⟩) (fun i=>i <= (C.orders.take j).length) (fun i=>(C.orders.take j).length - i) 0 (by simp) (tl [(1,1),(105,105)] (hF:=by simp [DK,AX,lk,AA,isLive,AZ,CW]) (hM:=by simp [Cm,Ar,AX,Aa,lk,AA,isLive,AZ,BO,BN,Al,BL,BP,BS,BQ,BR,CW])) ?_
  intro i IL
  refine AL ?_
  refine sg ?_
  iterate 2 refine qv A8 ?_
  refine qv (CZ Ce) ?_
  refine qv BK ?_
  refine cd (fun Xb=>?_) (fun Xb=>?_)
  ·try simp at Xb
   refine Af ?_
   refine AL ?_
   refine BI ?_
   refine AL ?_
   refine rd mixed ?_
   have hi2:i < (C.orders.take j).length:=by omega
   have hi:i < C.orders.length:=by omega
   have hyi:C.orders[i]?=some C.orders[i]:=List.getElem?_eq_getElem hi
   have hxi:(C.orders.take j)[i]?=some C.orders[i]:=by rw [List.getElem?_take,if_pos (by omega)];exact hyi
   iterate 2 refine zv A8 ?_
   refine zv (CR CS Dh) ?_
   refine zv (LG Dh MK hxi) ?_
   iterate 2 refine zv A8 ?_
   first | refine zv (BF CS Dh) ?_ | refine zv (Bf CS Dh) ?_
   refine zv (Bb Dh MK) ?_
   refine zv DY ?_
   refine ⟨by rfl,?_⟩
   refine Dy (hb:=(by simp)) (ht:=?_)
   refine Af ?_
   refine rg ?_
   refine qv A8 ?_
   refine qv Aq ?_
   refine qv A9 ?_
   exact ⟨i+1,hi2,(by simp only;omega),(tl [(1,1),(105,105)] (hF:=by simp [DK,AX,lk,AA,isLive,AZ,CW]) (hM:=by simp [Cm,Ar,AX,Aa,lk,AA,isLive,AZ,BO,BN,Al,BL,BP,BS,BQ,BR,CW]))⟩
  ·try simp at Xb
   refine Ai ?_
   refine sg ?_
   iterate 3 refine qv A8 ?_
   refine qv (EH K4) ?_
   refine qv Gf ?_
   rw [show ((k:Int) - (R.length:Int))=((k - R.length:Nat):Int) by omega]
   refine qv (Fz (a:=Am 0 C.orders) 0 (k - R.length) K4 (by omega) (by omega)) ?_
   refine qv A9 ?_
   refine sg ?_
   iterate 2 refine qv A8 ?_
   refine CF (hm1) ?_
   refine qv A8 ?_
   iterate 3 refine qv BZ ?_
   iterate 3 refine qv A9 ?_
   refine sg ?_
   iterate 2 refine qv A8 ?_
   refine CF (hm2) ?_
   refine qv A8 ?_
   iterate 3 refine qv BZ ?_
   iterate 3 refine qv A9 ?_
   refine AL ?_
   refine sg ?_
   refine qv A8 ?_
   refine qv Ay ?_
   refine qx A8 (fun XW=>?_) (fun XW=>?_)
   ·exact absurd XW ((by simp))
   refine qv A8 ?_
   refine qv Ay ?_
   refine qv Ae ?_
   refine qx A8 (fun XU=>?_) (fun XU=>?_)
   ·exact absurd XU ((by simp))
   iterate 2 refine qv A8 ?_
   refine qv DY ?_
   refine qv Ae ?_
   refine qx A8 (fun XR=>?_) (fun XR=>?_)
   ·exact absurd XR ((by simp))
   iterate 2 refine qv A8 ?_
   refine qv DY ?_
   refine qv Ae ?_
   refine qx A8 (fun XP=>?_) (fun XP=>?_)
   ·exact absurd XP ((by simp))
   iterate 2 refine qv A8 ?_
   refine qv (BD Ce) ?_
   refine qv Ay ?_
   refine qv Ae ?_
   refine qx A8 (fun XO=>?_) (fun XO=>?_)
   ·exact absurd XO ((by simp))
   iterate 2 refine qv A8 ?_
   refine qv Ay ?_
   refine qv Ae ?_
   refine Dy (hb:=(by simp)) (ht:=?_)
   refine Af ?_
   refine AL ?_
   refine rd mixed ?_
   refine zv (AB M8) ?_
   refine zv (AY Dw EC) ?_
   refine zv (AB M7) ?_
   refine zv (AY Dp Dt) ?_
   refine zv (AB M6) ?_
   refine zv (AQ Aw Bw) ?_
   iterate 2 refine zv A8 ?_
   refine zv (Fz 0 k K4 (by omega) hkl) ?_
   refine UL (h46) [] [] [] ?_
   refine zv A8 ?_
   iterate 3 refine zv BZ ?_
   iterate 3 refine zv A9 ?_
   refine ⟨by rfl,?_⟩
   refine AL ?_
   refine sg ?_
   refine qv A8 ?_
   refine qv DY ?_
   refine G5 (hb:=(by simp [hRR])) (ht:=?_)
   refine sg ?_
   refine qv A8 ?_
   refine qv Bl ?_
   refine qx A8 (fun tq=>?_) (fun tq=>?_)
   rotate_left
   ·exact absurd tq ((by simp))
   refine qv A8 ?_
   refine qv Bl ?_
   refine qv Ae ?_
   refine qv A9 ?_
   refine AV ?_
   exact x1 (hr:=(Ej (by simp)))
theorem f15 (x:Ft) (hx:Nr x):AR Tryz.prog 15 [nJ x] (.one (.dv (.bool true))):=by
 by_cases hE:newE x.bog x.heaps x.need=0
 ·obtain ⟨z,k,hz,_,_,hk⟩:=Gx (s:=x.pick) (m:=(Am 0 (cF x (x.orders.take 30).length).orders).length) (by have:=IE (Xz x hE (x.orders.take 30).length);omega)
  have uniq:∀ z' k':Nat,IntKind.u64.wrap x.pick=(z':Int) -> IntKind.i64.wrap (Int.tmod (z':Int) (((Am 0 (cF x (x.orders.take 30).length).orders).length+1:Nat):Int))=(k':Int) -> k'=k:=fun z' k' h1 h2=>by
   have e1:z'=z:=by omega
   subst e1
   omega
  by_cases hR:(Ak 100 0 ((Am 0 (cF x (x.orders.take 30).length).orders).take k)).2=[]
  ·exact fM x hx hE fun z' k' h1 h2=>by rw [uniq z' k' h1 h2];exact hR
  ·exact l5 x hx hE fun z' k' h1 h2=>by rw [uniq z' k' h1 h2];exact hR
 ·exact qc x hx hE
end Go.Ab.Tryz
