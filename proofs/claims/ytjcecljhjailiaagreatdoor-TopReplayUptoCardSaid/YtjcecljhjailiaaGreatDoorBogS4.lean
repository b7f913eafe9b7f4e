/- The functions of the bog laws: cuttings, part 67. The walks are written by wip/gen/gw.py. -/
import Derived.Test.YtjcecljhjailiaaGreatDoorBogS3
import Derived.Test.YtjcecljhjailiaaGreatDoorBogG07
set_option linter.all false
namespace Go.Ab.Tryz
open Go Go.Ab Go.Proofs Go.Ab.Ck Go.Ab.Gi
open Go.Ab.Heap (Az Ap BX)
open Go.Ab.Heap (Hp GX validate sm)
theorem Zw {l:List Int} {m:Int} (h:∀ i,i < l.length -> 0 <= Az l i /\ Az l i <= m):∀ k:Nat,k <= l.length -> 0 <= sm (Az l) k /\ sm (Az l) k <= m * k:=fun k=>by
 induction k with
 | zero=>intro _;simp [sm]
 | succ k ih =>
  intro hk
  have h3:=ih (by omega)
  have h4:=h k (by omega)
  simp only [sm]
  have e:m * ((k+1:Nat):Int)=m * k+m:=by push_cast;rw [Int.mul_add];omega
  omega
set_option maxHeartbeats 2000000 in
set_option maxRecDepth 100000 in
theorem f35 (b:Bg) (h:Hp) (n:Int) (c:Cs) (F:Fn b h n) (ok:C9 b h n c):BA Tryz.prog 35 [.pt 100000 0 0,.dv (Vk (Fm.mk b h n))] (Bj (pair b h n c 0 100004)) ⟨[.dv (.bool true)],Bj (pair b h n c 0 100004)⟩:=by
 have h5:=F.vh.n5
 have hd4:=F.bg.d4
 have X8:=F.bg.n6
 have tY:=ok.hol.len
 have htl:=ok.MV
 have hb1:∀ k,k <= c.AU.length -> 0 <= sm (Az c.AU) k /\ sm (Az c.AU) k <= (b.dep:Int) * k:=Zw ok.hol.bd
 have hb2:∀ k,k <= c.Ad.length -> 0 <= sm (Az c.Ad) k /\ sm (Az c.Ad) k <= 30 * k:=Zw fun j hj=>(ok.t30 F.vh).bd j (by omega)
 have hb1':∀ k,k <= c.AU.length -> 0 <= sm (Az c.AU) k /\ sm (Az c.AU) k <= 4 * k:=Zw fun j hj=>by have:=ok.hol.bd j hj;omega
 have hcu:=ok.cut
 have hba:=ok.bal
 have hmo:=ok.EL
 have hl0:=ok.vZ
 have hv0:=ok.qA
 have hmb:=ok.oO
 have hcb:=ok.lV
 have hgr:nI c=c.cut - c.loaded - sm (Az c.Ad) c.Ad.length:=rfl
 have hw:=f82 b c.AU
 rw [hv0,if_pos rfl] at hw
 have hh2:=hb1' c.AU.length (Nat.le_refl _)
 have ht2:=hb2 c.Ad.length (Nat.le_refl _)
 refine EI Tryz.func35 rfl rfl (by rw [Tryz.ntmps35];simp) fun cx hP hn hg=>?_
 rw [Tryz.ntmps35] at hn
 refine CB ?_
 refine sg ?_
 refine qp Bu ?_
 refine qv A9 ?_
 refine sg ?_
 iterate 2 refine qv A9 ?_
 refine sg ?_
 refine qv A8 ?_
 refine CY (f28 b h n c F ok) [] [(100000,100000),(100001,100001)] [100000,100001] ?_
 refine qv A8 ?_
 refine CY (f26 b h n c F ok) [] [(100000,100000),(100001,100001)] [100000,100001] ?_
 iterate 2 refine qv A9 ?_
 refine AL ?_
 refine sg ?_
 refine qv A9 ?_
 refine BI ?_
 refine Ao (ι:=Nat) (fun i=>⟨lk [(0,.pt 100000 0 0),(3,.pt 3 0 0),(5,.dv (i64 (sm (Az c.AU) i))),(6,.dv (i64 (0))),(7,.dv (ints (c.AU))),(8,.dv (ints (c.Ad))),(9,.dv (i64 (i:Nat)))],AA [(100000,0,some (VQ b h n c 0 100001 100003)),(3,0,some ⟨[.dv (.list (((((Fm.mk b h n)).bog).worth).map ints)),.dv (.list (((((Fm.mk b h n)).heaps).links).map ints)),.dv (ints ((((Fm.mk b h n)).heaps).ground)),.dv (i64 (((Fm.mk b h n)).need))],0,29,0,false⟩),(100001,0,some (Di c.orders 100004))]⟩) (fun i=>i <= c.AU.length) (fun i=>c.AU.length - i) 0 (by simp) (tl [(100000,100000),(3,3),(100001,100001)] (hF:=by simp [DK,AX,lk,AA,isLive,AZ,sm]) (hM:=by simp [Cm,Ar,AX,Aa,lk,AA,isLive,AZ,BO,BN,Al,BL,BP,BS,BQ,BR,sm])) ?_
 intro i BM
 refine AL ?_
 refine sg ?_
 iterate 2 refine qv A8 ?_
 refine qv (BD Cj) ?_
 refine qv BK ?_
 refine cd (fun hc0=>?_) (fun hc0=>?_)
 ·try simp at hc0
  refine Af ?_
  refine AL ?_
  refine BI ?_
  refine rg ?_
  iterate 3 refine qv A8 ?_
  have hi:i < c.AU.length:=by omega
  have hgi:=Ap hi
  have hbi:=ok.hol.bd i hi
  have hsi:=hb1' i (by omega)
  have hsn:sm (Az c.AU) (i+1)=sm (Az c.AU) i+Az c.AU i:=by simp only [sm]
  first | refine qv (BF BG Aw) ?_ | refine qv (Bf BG Aw) ?_
  refine qv (Bb Aw Bw) ?_
  refine qv Aq ?_
  refine qv A9 ?_
  refine rg ?_
  refine qv A8 ?_
  refine qv Aq ?_
  refine qv A9 ?_
  exact ⟨i+1,hi,(by simp only;omega),(tl [(100000,100000),(3,3),(100001,100001)] (hF:=by simp [DK,AX,lk,AA,isLive,AZ,hsn]) (hM:=by simp [Cm,Ar,AX,Aa,lk,AA,isLive,AZ,BO,BN,Al,BL,BP,BS,BQ,BR,hsn]))⟩
 ·try simp at hc0
  obtain rfl:i=c.AU.length:=by omega
  refine Ai ?_
  refine AL ?_
  refine sg ?_
  refine qv A9 ?_
  refine BI ?_
  refine Ao (ι:=Nat) (fun i=>⟨lk [(0,.pt 100000 0 0),(3,.pt 3 0 0),(5,.dv (i64 (sm (Az c.AU) c.AU.length))),(6,.dv (i64 (sm (Az c.Ad) i))),(7,.dv (ints (c.AU))),(8,.dv (ints (c.Ad))),(10,.dv (i64 (i:Nat)))],AA [(100000,0,some (VQ b h n c 0 100001 100003)),(3,0,some ⟨[.dv (.list (((((Fm.mk b h n)).bog).worth).map ints)),.dv (.list (((((Fm.mk b h n)).heaps).links).map ints)),.dv (ints ((((Fm.mk b h n)).heaps).ground)),.dv (i64 (((Fm.mk b h n)).need))],0,29,0,false⟩),(100001,0,some (Di c.orders 100004))]⟩) (fun i=>i <= c.Ad.length) (fun i=>c.Ad.length - i) 0 (by simp) (tl [(100000,100000),(3,3),(100001,100001)] (hF:=by simp [DK,AX,lk,AA,isLive,AZ,sm]) (hM:=by simp [Cm,Ar,AX,Aa,lk,AA,isLive,AZ,BO,BN,Al,BL,BP,BS,BQ,BR,sm])) ?_
  intro i IL
  refine AL ?_
  refine sg ?_
  iterate 2 refine qv A8 ?_
  refine qv (BD Cj) ?_
  refine qv BK ?_
  refine cd (fun hc1=>?_) (fun hc1=>?_)
  ·try simp at hc1
   refine Af ?_
   refine AL ?_
   refine BI ?_
   refine rg ?_
   iterate 3 refine qv A8 ?_
   have hi:i < c.Ad.length:=by omega
   have hgi:=Ap hi
   have hbi:=(ok.t30 F.vh).bd i (by omega)
   have hsi:=hb2 i (by omega)
   have hsn:sm (Az c.Ad) (i+1)=sm (Az c.Ad) i+Az c.Ad i:=by simp only [sm]
   first | refine qv (BF BG Aw) ?_ | refine qv (Bf BG Aw) ?_
   refine qv (Bb Aw Bw) ?_
   refine qv Aq ?_
   refine qv A9 ?_
   refine rg ?_
   refine qv A8 ?_
   refine qv Aq ?_
   refine qv A9 ?_
   exact ⟨i+1,hi,(by simp only;omega),(tl [(100000,100000),(3,3),(100001,100001)] (hF:=by simp [DK,AX,lk,AA,isLive,AZ,hsn]) (hM:=by simp [Cm,Ar,AX,Aa,lk,AA,isLive,AZ,BO,BN,Al,BL,BP,BS,BQ,BR,hsn]))⟩
  ·try simp at hc1
   obtain rfl:i=c.Ad.length:=by omega
   refine Ai ?_
   refine sg ?_
   refine qv (AB F8) ?_
   refine qv (AY Dw EC) ?_
   refine qv A8 ?_
   refine CF (hw) ?_
   refine qv A8 ?_
   iterate 2 refine qv BZ ?_
   iterate 2 refine qv A9 ?_
   refine sg ?_
   refine qv A8 ?_
   refine qv Bl ?_
   refine qx A8 (fun A04=>?_) (fun A04=>?_)
   rotate_left
   ·exact absurd A04 ((by decide))
   refine qv A8 ?_
   refine CY (f53 b h n c F ok) [] [(100000,100000),(100001,100001)] [100000,100001] ?_
   refine qv A8 ?_
   refine qv Bl ?_
   refine qv Ae ?_
   refine qx A8 (fun A03=>?_) (fun A03=>?_)
   rotate_left
   ·exact absurd A03 ((by simp;omega))
   iterate 2 refine qv A8 ?_
   refine CY (f54 b h n c F ok) [] [(100000,100000),(100001,100001)] [100000,100001] ?_
   refine qv A8 ?_
   refine CY (f55 b h n c F ok) [] [(100000,100000),(100001,100001)] [100000,100001] ?_
   refine qv Aq ?_
   refine qv A8 ?_
   refine qv Aq ?_
   refine qv Bl ?_
   refine qv Ae ?_
   refine qx A8 (fun IQ=>?_) (fun IQ=>?_)
   rotate_left
   ·exact absurd IQ ((by simp;omega))
   refine qv A8 ?_
   refine CY (f52 b h n c F ok) [] [(100000,100000),(100001,100001)] [100000,100001] ?_
   iterate 2 refine qv A8 ?_
   refine CY (f54 b h n c F ok) [] [(100000,100000),(100001,100001)] [100000,100001] ?_
   refine qv Aq ?_
   refine qv Bl ?_
   refine qv Ae ?_
   refine qv A9 ?_
   refine AV ?_
   exact xg [(100000,100000),(100001,100001)] (h1:=by simp [Cm,Ar,Aa,AX,isLive,AZ,Bj,AA,DZ,BO,BN,CW,Al,BL,BP,BS,BQ,BR,ED,hmo])
end Go.Ab.Tryz
