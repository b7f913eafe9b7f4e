/- The functions of the bog laws: cuttings, part 82. The walks are written by wip/gen/gw.py. -/
import Derived.Test.YtjcecljhjailiaaGreatDoorBogU0
import Derived.Test.YtjcecljhjailiaaGreatDoorBogG22
import Derived.Test.YtjcecljhjailiaaGreatDoorBogG07
set_option linter.all false
namespace Go.Ab.Tryz
open Go Go.Ab Go.Proofs Go.Ab.Ck Go.Ab.Gi
open Go.Ab.Heap (Az Ap BX)
open Go.Ab.Heap (Hp GX validate sm)
open Go.Ab.Heap (O5 Uh QW)
structure Ft where
 bog:Bg
 heaps:Hp
 need:Int
 orders:List Tx
 pick:Int
abbrev nJ (x:Ft):DV:=.agg [.list (x.bog.worth.map ints),.list (x.heaps.links.map ints),ints x.heaps.ground,i64 x.need,GL x.orders,i64 x.pick]
def Nr (x:Ft):Prop:=x.orders.length < 2000000 /\ ∀ i (hi:i < x.orders.length),x.orders[i].length < 2000000
noncomputable def cF (x:Ft) (i:Nat):Cs:=JC x.bog x.heaps x.need (cs0 x.bog.worth.length) ((x.orders.take 30).take i)
theorem A1C {x:Ft}:cF x 0=cs0 x.bog.worth.length:=by unfold cF;rw [List.take_zero];rfl
theorem Xz (x:Ft) (hE:newE x.bog x.heaps x.need=0) (i:Nat):C9 x.bog x.heaps x.need (cF x i):=JW (JJ hE) _ (J5 (JJ hE))
theorem ZX (x:Ft) (i:Nat):UJ x.bog x.heaps x.need (cF x i):=jB.run _
theorem cF_s {x:Ft} {i:Nat} (h1:i < x.orders.length) (h2:i < 30):cF x (i+1)=Ns x.bog x.heaps x.need (cF x i) x.orders[i]:=by
 have h:=GN (b:=x.bog) (h:=x.heaps) (n:=x.need) (c:=cs0 x.bog.worth.length) (l:=x.orders.take 30) (i:=i) (by simp;omega)
 rw [List.getElem_take] at h
 exact h
abbrev pp (b:Bg) (h:Hp) (n:Int) (c:Cs):List (Nat × Au):=[(100000,VQ b h n c 0 100001 100003),(100001,Di c.orders 100004),(100002,VQ b h n c 0 100003 100005),(100003,Di c.orders 100006)]
theorem f92 (a b:List Int) (ha:a.length < 2000000):AR Tryz.prog 92 [ints a,ints b] (.one (.dv (.bool (a == b)))):=by
 refine Bv Tryz.func92 rfl rfl (by rw [Tryz.ntmps92];simp) fun cx hP hn hg=>?_
 rw [Tryz.ntmps92] at hn
 rw [Br,Bq]
 simp only [List.nil_append,List.append_nil,List.cons_append,BH,Nat.reduceAdd]
 refine sg ?_
 refine qv A9 ?_
 refine AL ?_
 refine sg ?_
 refine qv A8 ?_
 refine qv (BD Cj) ?_
 refine qv A8 ?_
 refine qv (BD Cj) ?_
 refine qv Ay ?_
 refine cd (fun hc0=>?_) (fun hc0=>?_)
 ·try simp at hc0
  refine sg ?_
  refine qv A9 ?_
  refine AV ?_
  exact x1 (hr:=(Ej (by rw [O5 (by intro e;exact hc0 (by exact_mod_cast e))])))
 ·try simp at hc0
  refine Af ?_
  refine AL ?_
  refine sg ?_
  refine qv A9 ?_
  refine BI ?_
  refine Ao (ι:=Nat) (fun i=>⟨lk [(0,.dv (ints (a))),(1,.dv (ints (b))),(5,.dv (i64 (i:Nat)))],AA []⟩) (fun i=>i <= a.length /\ ∀ j,j < i -> a[j]?=b[j]?) (fun i=>a.length - i) 0 (by simp) (tl []) ?_
  intro i BM
  refine AL ?_
  refine sg ?_
  iterate 2 refine qv A8 ?_
  refine qv (BD Cj) ?_
  refine qv BK ?_
  refine cd (fun hc1=>?_) (fun hc1=>?_)
  ·try simp at hc1
   refine Af ?_
   refine AL ?_
   refine BI ?_
   refine AL ?_
   refine rd mixed ?_
   have hin:i < a.length:=by omega
   have hlab:a.length=b.length:=by exact_mod_cast hc0
   have hga:=Ap hin
   have hgb:=Ap (a:=b) (show i < b.length by omega)
   iterate 2 refine zv A8 ?_
   first | refine zv (BF BG Aw) ?_ | refine zv (Bf BG Aw) ?_
   refine zv (Bb Aw Bw) ?_
   iterate 2 refine zv A8 ?_
   first | refine zv (BF BG Aw) ?_ | refine zv (Bf BG Aw) ?_
   refine zv (Bb Aw Bw) ?_
   refine zv Ay ?_
   refine ⟨by rfl,?_⟩
   refine cd (fun hc2=>?_) (fun hc2=>?_)
   ·try simp only [bne_iff_ne,ne_eq,bne_eq_false_iff_eq,Decidable.not_not] at hc2
    refine sg ?_
    refine qv A9 ?_
    refine AV ?_
    exact x1 (hr:=(Ej (by rw [Uh hga hgb hc2])))
   ·try simp only [bne_iff_ne,ne_eq,bne_eq_false_iff_eq,Decidable.not_not] at hc2
    refine Af ?_
    refine rg ?_
    refine qv A8 ?_
    refine qv Aq ?_
    refine qv A9 ?_
    refine ⟨i+1,?_,(by simp only;omega),(tl [])⟩
    refine ⟨hin,fun j hj=>?_⟩
    rcases Nat.lt_or_ge j i with h1 | h1
    ·exact BM.2 j h1
    ·obtain rfl:j=i:=by omega
     rw [hga,hgb,hc2]
  ·try simp at hc1
   refine Ai ?_
   refine sg ?_
   refine qv A9 ?_
   refine AV ?_
   exact x1 (hr:=(Ej (by rw [QW (by exact_mod_cast hc0) fun j hj=>BM.2 j (by omega)])))
set_option maxHeartbeats 4000000 in
theorem bB (x:Ft) (hE:newE x.bog x.heaps x.need ≠ 0):BA Tryz.prog 57 [.dv (nJ x),.dv (i64 30)] (Bj []) ⟨[.dv .CU,.dv (.list []),.dv (.bool false)],Bj []⟩:=by
 refine EI Tryz.func57 rfl rfl (by rw [Tryz.ntmps57];simp) fun cx hP hn hg=>?_
 rw [Tryz.ntmps57] at hn
 refine CB ?_
 refine sg ?_
 refine qp Bu ?_
 iterate 3 refine qv A9 ?_
 refine sg ?_
 refine qv (AB M8) ?_
 refine qv (AY Dw EC) ?_
 refine qv (AB M7) ?_
 refine qv (AY Dp Dt) ?_
 refine qv (AB M6) ?_
 refine qv (AQ Aw Bw) ?_
 refine CY (NU x.bog x.heaps x.need hE) [] [] [] ?_
 refine qv A8 ?_
 iterate 2 refine qv BZ ?_
 iterate 2 refine qv A9 ?_
 refine AL ?_
 refine sg ?_
 refine qv A8 ?_
 refine qv Ay ?_
 refine qx A8 (fun OP=>?_) (fun OP=>?_)
 rotate_left
 ·exact absurd OP ((by simp [hE]))
 iterate 2 refine qk ?_
 refine qv Ae ?_
 refine G5 (hb:=by first | rfl | simp | simp_all) (ht:=?_)
 refine sg ?_
 iterate 3 refine qv A9 ?_
 refine AV ?_
 exact xg [] (h1:=by simp [Aa,AX,isLive,AZ,Bj,AA,DZ,BN,ED,lk];exact .Bh)
set_option maxHeartbeats 4000000 in
set_option maxRecDepth 100000 in
theorem ZL (x:Ft) (hx:Nr x) (hE:newE x.bog x.heaps x.need=0):BA Tryz.prog 57 [.dv (nJ x),.dv (i64 30)] (Bj []) ⟨[.pt 100000 0 0,.sl 100002 0 0 (cF x (x.orders.take 30).length).orders.length,.dv (.bool true)],Bj [(100000,Il x.bog x.heaps x.need (cF x (x.orders.take 30).length)),(100001,Di (cF x (x.orders.take 30).length).orders 0),(100002,Jz (cF x (x.orders.take 30).length).orders)]⟩:=by
 have F:=JJ hE
 have hxl:=hx.1
 refine EI Tryz.func57 rfl rfl (by rw [Tryz.ntmps57];simp) fun cx hP hn hg=>?_
 rw [Tryz.ntmps57] at hn
 refine CB ?_
 refine sg ?_
 refine qp Bu ?_
 iterate 3 refine qv A9 ?_
 refine sg ?_
 refine qv (AB M8) ?_
 refine qv (AY Dw EC) ?_
 refine qv (AB M7) ?_
 refine qv (AY Dp Dt) ?_
 refine qv (AB M6) ?_
 refine qv (AQ Aw Bw) ?_
 refine CY (M9 x.bog x.heaps x.need hE) [] [] [100000,100001] ?_
 refine qv A8 ?_
 iterate 2 refine qv BZ ?_
 iterate 2 refine qv A9 ?_
 refine AL ?_
 refine sg ?_
 refine qv A8 ?_
 refine qv Ay ?_
 refine qx A8 (fun OP=>?_) (fun OP=>?_)
 ·exact absurd OP ((by simp))
 refine qv A8 ?_
 refine KG L9 ?_
 refine qv Ae ?_
 refine Dy (hb:=(by rfl)) (ht:=?_)
 refine Af ?_
 refine sg ?_
 refine qv A9 ?_
 refine AL ?_
 refine sg ?_
 refine qv A9 ?_
 refine BI ?_
 have hlt:(x.orders.take 30).length=min 30 x.orders.length:=by simp
 refine Ao (ι:=Nat) (fun i=>⟨lk [(1,.dv (i64 (30))),(2,.pt 2 0 0),(7,.pt 100000 0 0),(9,.sl 9 0 0 (((cF x i).orders).length)),(10,.dv (i64 (i:Nat)))],AA [(2,0,some ⟨[.dv (.list ((x.bog.worth).map ints)),.dv (.list ((x.heaps.links).map ints)),.dv (ints (x.heaps.ground)),.dv (i64 (x.need)),.dv (.list ((x.orders).map Cg)),.dv (i64 (x.pick))],0,81,0,false⟩),(100000,0,some (Il x.bog x.heaps x.need (cF x i))),(9,0,some (Jz ((cF x i).orders))),(100001,0,some (Di (cF x i).orders 0))]⟩) (fun i=>i <= (x.orders.take 30).length) (fun i=>(x.orders.take 30).length - i) 0 (by simp) (tl [(2,2),(100000,100000),(100001,100001)] (hF:=by simp [DK,AX,lk,AA,isLive,AZ,A1C,cs0,CW]) (hM:=by simp [Cm,Ar,AX,Aa,lk,AA,isLive,AZ,BO,BN,Al,BL,BP,BS,BQ,BR,A1C,cs0,CW])) ?_
 intro i BM
 refine AL ?_
 refine sg ?_
 refine qv A8 ?_
 refine qv (AB ZK) ?_
 refine qv (AQ P9 PS) ?_
 refine qv (BD Ce) ?_
 refine qv BK ?_
 refine qx A8 (fun kD=>?_) (fun kD=>?_)
 ·try simp at kD
  iterate 2 refine qv A8 ?_
  refine qv BK ?_
  refine qv Ae ?_
  refine cd (fun hc1=>?_) (fun hc1=>?_)
  ·try simp at hc1
   refine Af ?_
   refine AL ?_
   refine BI ?_
   refine sg ?_
   have hi:i < x.orders.length:=by omega
   have hi3:i < 30:=by omega
   have hxi:x.orders[i]?=some x.orders[i]:=List.getElem?_eq_getElem hi
   have Wl:=Xz x hE i
   have hol:=Wl.ord
   have hst:=cF_s hi hi3
   have hdo:=f24 x.bog x.heaps x.need (cF x i) F Wl x.orders[i] (hx.2 i hi)
   rw [<- hst] at hdo
   refine qv A8 ?_
   refine qv (AB ZK) ?_
   refine qv (AQ P9 PS) ?_
   refine qv A8 ?_
   first | refine qv (BF CS Dh) ?_ | refine qv (Bf CS Dh) ?_
   refine qv (Bb Dh MK) ?_
   refine CY (hdo) [] [(100000,100000),(100001,100001)] [100000,100001] ?_
   refine qv Bl ?_
   refine cd (fun hc2=>?_) (fun hc2=>?_)
   ·try simp at hc2
    have he:Oz x.bog (cF x i) x.orders[i]=0:=by simpa using hc2
    have hor:(cF x (i+1)).orders=(cF x i).orders ++ [x.orders[i]]:=by rw [hst,Kq,if_pos he]
    have hsn:(cF x (i+1)).orders.length=(cF x i).orders.length+1:=by rw [hor];simp
    have hsc:((cF x i).orders.map fun T=>SV.dv (Cg T)) ++ [SV.dv (Cg x.orders[i])]=(cF x (i+1)).orders.map fun T=>SV.dv (Cg T):=by rw [hor];exact MP
    refine rg ?_
    refine qv A8 ?_
    refine qv (AB ZK) ?_
    refine qv (AQ P9 PS) ?_
    refine qv A8 ?_
    first | refine qv (BF CS Dh) ?_ | refine qv (Bf CS Dh) ?_
    refine qv (Bb Dh MK) ?_
    refine qr (FV CS YQ Dh) ?_
    refine vG (Iu CS CS YQ Dh uI (hc:=hsc)) ?_
    refine qv A9 ?_
    refine rg ?_
    refine qv A8 ?_
    refine qv Aq ?_
    refine qv A9 ?_
    exact ⟨i+1,(by omega),(by simp only;omega),(tl [(2,2),(100000,100000),(9,54),(100001,100001)] (hF:=by simp [DK,AX,lk,AA,isLive,AZ,CW,hsn]) (hM:=by simp [Cm,Ar,AX,Aa,lk,AA,isLive,AZ,BO,BN,Al,BL,BP,BS,BQ,BR,CW,hsn]))⟩
   ·try simp at hc2
    have he:Oz x.bog (cF x i) x.orders[i] ≠ 0:=by simpa using hc2
    have hsn:(cF x (i+1)).orders=(cF x i).orders:=by rw [hst,Kq,if_neg he]
    refine Af ?_
    refine rg ?_
    refine qv A8 ?_
    refine qv Aq ?_
    refine qv A9 ?_
    exact ⟨i+1,(by omega),(by simp only;omega),(tl [(2,2),(100000,100000),(9,9),(100001,100001)] (hF:=by simp [DK,AX,lk,AA,isLive,AZ,CW,hsn]) (hM:=by simp [Cm,Ar,AX,Aa,lk,AA,isLive,AZ,BO,BN,Al,BL,BP,BS,BQ,BR,CW,hsn]))⟩
  ·try simp at hc1
   refine Ai ?_
   refine AL ?_
   obtain rfl:i=(x.orders.take 30).length:=by first | omega | (simp at kD;omega) | (simp at hc1;omega)
   refine rg ?_
   iterate 2 refine qv A8 ?_
   iterate 3 refine qv A9 ?_
   refine AV ?_
   exact xg [(100000,100000),(100001,100001),(100002,9)]
 ·try simp at kD
  iterate 3 refine qk ?_
  refine qv Ae ?_
  refine Dy (hb:=by first | rfl | simp | simp_all) (ht:=?_)
  refine Ai ?_
  refine AL ?_
  obtain rfl:i=(x.orders.take 30).length:=by first | omega | (simp at kD;omega) | (simp at hc1;omega)
  refine rg ?_
  iterate 2 refine qv A8 ?_
  iterate 3 refine qv A9 ?_
  refine AV ?_
  exact xg [(100000,100000),(100001,100001),(100002,9)]
set_option maxHeartbeats 8000000 in
set_option maxRecDepth 100000 in
theorem f58 (b:Bg) (h:Hp) (n:Int) (c:Cs) (F:Fn b h n) (ok:C9 b h n c):BA Tryz.prog 58 [.pt 100000 0 0,.pt 100002 0 0] (Bj (pp b h n c)) ⟨[.dv (.bool true)],Bj (pp b h n c)⟩:=by
 have h5:=F.vh.n5
 have X8:=F.bg.n6
 have tY:=ok.hol.len
 have htl:=ok.MV
 refine EI Tryz.func58 rfl rfl (by rw [Tryz.ntmps58];simp) fun cx hP hn hg=>?_
 rw [Tryz.ntmps58] at hn
 refine CB ?_
 refine sg ?_
 refine qv A9 ?_
 refine sg ?_
 refine qv A8 ?_
 refine CY (f50 b h n c F ok) [] [(100000,100000),(100001,100001)] [100000,100001] ?_
 refine qv A8 ?_
 refine CY (f50 b h n c F ok) [] [(100000,100002),(100001,100003)] [100002,100003] ?_
 refine qv Bl ?_
 refine qx A8 (fun F6=>?_) (fun F6=>?_)
 rotate_left
 ·exact absurd F6 ((by simp))
 refine qv A8 ?_
 refine CY (f28 b h n c F ok) [] [(100000,100000),(100001,100001)] [100000,100001] ?_
 refine qv A8 ?_
 refine CY (f28 b h n c F ok) [] [(100000,100002),(100001,100003)] [100002,100003] ?_
 refine CF (f92 c.AU c.AU (by omega)) ?_
 refine qv Ae ?_
 refine qx A8 (fun PI=>?_) (fun PI=>?_)
 rotate_left
 ·exact absurd PI ((by simp))
 refine qv A8 ?_
 refine CY (f26 b h n c F ok) [] [(100000,100000),(100001,100001)] [100000,100001] ?_
 refine qv A8 ?_
 refine CY (f26 b h n c F ok) [] [(100000,100002),(100001,100003)] [100002,100003] ?_
 refine CF (f92 c.Ad c.Ad (by omega)) ?_
 refine qv Ae ?_
 refine qx A8 (fun Sb=>?_) (fun Sb=>?_)
 rotate_left
 ·exact absurd Sb ((by simp))
 refine qv A8 ?_
 refine CY (f51 b h n c F ok) [] [(100000,100000),(100001,100001)] [100000,100001] ?_
 refine qv A8 ?_
 refine CY (f51 b h n c F ok) [] [(100000,100002),(100001,100003)] [100002,100003] ?_
 refine qv Bl ?_
 refine qv Ae ?_
 refine qx A8 (fun J3=>?_) (fun J3=>?_)
 rotate_left
 ·exact absurd J3 ((by simp))
 refine qv A8 ?_
 refine CY (f52 b h n c F ok) [] [(100000,100000),(100001,100001)] [100000,100001] ?_
 refine qv A8 ?_
 refine CY (f52 b h n c F ok) [] [(100000,100002),(100001,100003)] [100002,100003] ?_
 refine qv Bl ?_
 refine qv Ae ?_
 refine qx A8 (fun PG=>?_) (fun PG=>?_)
 rotate_left
 ·exact absurd PG ((by simp))
 refine qv A8 ?_
 refine CY (f53 b h n c F ok) [] [(100000,100000),(100001,100001)] [100000,100001] ?_
 refine qv A8 ?_
 refine CY (f53 b h n c F ok) [] [(100000,100002),(100001,100003)] [100002,100003] ?_
 refine qv Bl ?_
 refine qv Ae ?_
 refine qx A8 (fun NM=>?_) (fun NM=>?_)
 rotate_left
 ·exact absurd NM ((by simp))
 refine qv A8 ?_
 refine CY (f54 b h n c F ok) [] [(100000,100000),(100001,100001)] [100000,100001] ?_
 refine qv A8 ?_
 refine CY (f54 b h n c F ok) [] [(100000,100002),(100001,100003)] [100002,100003] ?_
 refine qv Bl ?_
 refine qv Ae ?_
 refine qx A8 (fun XB=>?_) (fun XB=>?_)
 rotate_left
 ·exact absurd XB ((by simp))
 refine qv A8 ?_
 refine CY (f55 b h n c F ok) [] [(100000,100000),(100001,100001)] [100000,100001] ?_
 refine qv A8 ?_
 refine CY (f55 b h n c F ok) [] [(100000,100002),(100001,100003)] [100002,100003] ?_
 refine qv Bl ?_
 refine qv Ae ?_
 refine qx A8 (fun jy=>?_) (fun jy=>?_)
 rotate_left
 ·exact absurd jy ((by simp))
 refine qv A8 ?_
 refine CY (f56 b h n c F ok) [] [(100000,100000),(100001,100001)] [100000,100001] ?_
 refine qv A8 ?_
 refine CY (f56 b h n c F ok) [] [(100000,100002),(100001,100003)] [100002,100003] ?_
 refine qv (aN ib4) ?_
 refine qv Ae ?_
 refine qx A8 (fun jw=>?_) (fun jw=>?_)
 rotate_left
 ·exact absurd jw ((by simp))
 refine qv A8 ?_
 refine CY (f34 b h n c F ok) [] [(100000,100000),(100001,100001)] [100000,100001] ?_
 refine qv A8 ?_
 refine CY (f34 b h n c F ok) [] [(100000,100002),(100001,100003)] [100002,100003] ?_
 refine qv Qq ?_
 refine qv Ae ?_
 refine qv A9 ?_
 refine AV ?_
 exact xg [(100000,100000),(100001,100001),(100002,100002),(100003,100003)] (h1:=by simp [Cm,Ar,Aa,AX,isLive,AZ,Bj,AA,DZ,BO,BN,CW,Al,BL,BP,BS,BQ,BR,ED])
end Go.Ab.Tryz
