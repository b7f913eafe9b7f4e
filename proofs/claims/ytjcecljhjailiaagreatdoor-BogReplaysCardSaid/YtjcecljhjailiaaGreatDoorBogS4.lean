/- The functions of the bog laws: cuttings, part 67. The walks are written by wip/gen/gw.py. -/
import Derived.Test.YtjcecljhjailiaaGreatDoorBogS3
import Derived.Test.YtjcecljhjailiaaGreatDoorBogG07
set_option linter.all false
namespace Go.Ab.Tryz
open Go Go.Ab Go.Proofs Go.Ab.Ci Go.Ab.Gx
open Go.Ab.Heap (Az Ah BZ)
open Go.Ab.Heap (Hp Et validate sm)
theorem eO {l:List Int} {m:Int} (h:∀ i,i < l.length -> 0 <= Az l i /\ Az l i <= m):∀ k:Nat,k <= l.length -> 0 <= sm (Az l) k /\ sm (Az l) k <= m * k:=fun k=>by
 induction k with
 | zero=>intro _;simp [sm]
 | succ k ih =>
  intro hk
  have h3:=ih (by omega)
  have h4:=h k (by omega)
  simp only [sm]
  have e:m * ((k+1:Nat):Int)=m * k+m:=by push_cast;rw [Int.mul_add];omega
  omega
set_option maxHeartbeats 2000000 in
set_option maxRecDepth 100000 in
theorem f35 (b:Bg) (h:Hp) (n:Int) (c:Cs) (F:Fn b h n) (ok:C8 b h n c):Aw Tryz.prog 35 [.pt 100000 0 0,.dv (LK (Fm.mk b h n))] (Ba (pair b h n c 0 100004)) ⟨[.dv (.bool true)],Ba (pair b h n c 0 100004)⟩:=by
 have h5:=F.vh.n5
 have hd4:=F.bg.d4
 have Uz:=F.bg.n6
 have uM:=ok.hol.len
 have htl:=ok.Mj
 have hb1:∀ k,k <= c.AU.length -> 0 <= sm (Az c.AU) k /\ sm (Az c.AU) k <= (b.dep:Int) * k:=eO ok.hol.bd
 have hb2:∀ k,k <= c.AX.length -> 0 <= sm (Az c.AX) k /\ sm (Az c.AX) k <= 30 * k:=eO fun j hj=>(ok.t30 F.vh).bd j (by omega)
 have hb1':∀ k,k <= c.AU.length -> 0 <= sm (Az c.AU) k /\ sm (Az c.AU) k <= 4 * k:=eO fun j hj=>by have:=ok.hol.bd j hj;omega
 have hcu:=ok.cut
 have hba:=ok.bal
 have hmo:=ok.Ei
 have hl0:=ok.tK
 have hv0:=ok.bX
 have hmb:=ok.jK
 have hcb:=ok.kF
 have hgr:Qt c=c.cut - c.loaded - sm (Az c.AX) c.AX.length:=rfl
 have hw:=f82 b c.AU
 rw [hv0,if_pos rfl] at hw
 have hh2:=hb1' c.AU.length (Nat.le_refl _)
 have ht2:=hb2 c.AX.length (Nat.le_refl _)
 refine DC Tryz.func35 rfl rfl (by rw [Tryz.ntmps35];simp) fun cx hP hn hg=>?_
 rw [Tryz.ntmps35] at hn
 refine Bj ?_
 refine sg ?_
 refine qp BX ?_
 refine qv A9 ?_
 refine sg ?_
 iterate 2 refine qv A9 ?_
 refine sg ?_
 refine qv A8 ?_
 refine Dx (f28 b h n c F ok) [] [(100000,100000),(100001,100001)] [100000,100001] ?_
 refine qv A8 ?_
 refine Dx (f26 b h n c F ok) [] [(100000,100000),(100001,100001)] [100000,100001] ?_
 iterate 2 refine qv A9 ?_
 refine AJ ?_
 refine sg ?_
 refine qv A9 ?_
 refine BD ?_
 refine Ag (ι:=Nat) (fun i=>⟨lk [(0,.pt 100000 0 0),(3,.pt 3 0 0),(5,.dv (i64 (sm (Az c.AU) i))),(6,.dv (i64 (0))),(7,.dv (ints (c.AU))),(8,.dv (ints (c.AX))),(9,.dv (i64 (i:Nat)))],AA [(100000,0,some (ZY b h n c 0 100001 100003)),(3,0,some ⟨[.dv (.list (((((Fm.mk b h n)).bog).worth).map ints)),.dv (.list (((((Fm.mk b h n)).heaps).links).map ints)),.dv (ints ((((Fm.mk b h n)).heaps).ground)),.dv (i64 (((Fm.mk b h n)).need))],0,29,0,false⟩),(100001,0,some (Cy c.orders 100004))]⟩) (fun i=>i <= c.AU.length) (fun i=>c.AU.length - i) 0 (by simp) (tl [(100000,100000),(3,3),(100001,100001)] (hF:=by simp [Ck,Aa,lk,AA,isLive,Ac,sm]) (hM:=by simp [CV,Al,Aa,Ae,lk,AA,isLive,Ac,BK,BJ,Af,BI,BL,BO,BM,BN,sm])) ?_
 intro i Aj
 refine AJ ?_
 refine sg ?_
 iterate 2 refine qv A8 ?_
 refine qv (BH CZ) ?_
 refine qv BQ ?_
 refine cd (fun hc0=>?_) (fun hc0=>?_)
 ·try simp at hc0
  refine AY ?_
  refine AJ ?_
  refine BD ?_
  refine rg ?_
  iterate 3 refine qv A8 ?_
  have hi:i < c.AU.length:=by omega
  have hgi:=Ah hi
  have hbi:=ok.hol.bd i hi
  have hsi:=hb1' i (by omega)
  have hsn:sm (Az c.AU) (i+1)=sm (Az c.AU) i+Az c.AU i:=by simp only [sm]
  first | refine qv (BA Ap Ak) ?_ | refine qv (Bd Ap Ak) ?_
  refine qv (Bb Ak Br) ?_
  refine qv Am ?_
  refine qv A9 ?_
  refine rg ?_
  refine qv A8 ?_
  refine qv Am ?_
  refine qv A9 ?_
  exact ⟨i+1,hi,(by simp only;omega),(tl [(100000,100000),(3,3),(100001,100001)] (hF:=by simp [Ck,Aa,lk,AA,isLive,Ac,hsn]) (hM:=by simp [CV,Al,Aa,Ae,lk,AA,isLive,Ac,BK,BJ,Af,BI,BL,BO,BM,BN,hsn]))⟩
 ·try simp at hc0
  obtain rfl:i=c.AU.length:=by omega
  refine Ad ?_
  refine AJ ?_
  refine sg ?_
  refine qv A9 ?_
  refine BD ?_
  refine Ag (ι:=Nat) (fun i=>⟨lk [(0,.pt 100000 0 0),(3,.pt 3 0 0),(5,.dv (i64 (sm (Az c.AU) c.AU.length))),(6,.dv (i64 (sm (Az c.AX) i))),(7,.dv (ints (c.AU))),(8,.dv (ints (c.AX))),(10,.dv (i64 (i:Nat)))],AA [(100000,0,some (ZY b h n c 0 100001 100003)),(3,0,some ⟨[.dv (.list (((((Fm.mk b h n)).bog).worth).map ints)),.dv (.list (((((Fm.mk b h n)).heaps).links).map ints)),.dv (ints ((((Fm.mk b h n)).heaps).ground)),.dv (i64 (((Fm.mk b h n)).need))],0,29,0,false⟩),(100001,0,some (Cy c.orders 100004))]⟩) (fun i=>i <= c.AX.length) (fun i=>c.AX.length - i) 0 (by simp) (tl [(100000,100000),(3,3),(100001,100001)] (hF:=by simp [Ck,Aa,lk,AA,isLive,Ac,sm]) (hM:=by simp [CV,Al,Aa,Ae,lk,AA,isLive,Ac,BK,BJ,Af,BI,BL,BO,BM,BN,sm])) ?_
  intro i Es
  refine AJ ?_
  refine sg ?_
  iterate 2 refine qv A8 ?_
  refine qv (BH CZ) ?_
  refine qv BQ ?_
  refine cd (fun hc1=>?_) (fun hc1=>?_)
  ·try simp at hc1
   refine AY ?_
   refine AJ ?_
   refine BD ?_
   refine rg ?_
   iterate 3 refine qv A8 ?_
   have hi:i < c.AX.length:=by omega
   have hgi:=Ah hi
   have hbi:=(ok.t30 F.vh).bd i (by omega)
   have hsi:=hb2 i (by omega)
   have hsn:sm (Az c.AX) (i+1)=sm (Az c.AX) i+Az c.AX i:=by simp only [sm]
   first | refine qv (BA Ap Ak) ?_ | refine qv (Bd Ap Ak) ?_
   refine qv (Bb Ak Br) ?_
   refine qv Am ?_
   refine qv A9 ?_
   refine rg ?_
   refine qv A8 ?_
   refine qv Am ?_
   refine qv A9 ?_
   exact ⟨i+1,hi,(by simp only;omega),(tl [(100000,100000),(3,3),(100001,100001)] (hF:=by simp [Ck,Aa,lk,AA,isLive,Ac,hsn]) (hM:=by simp [CV,Al,Aa,Ae,lk,AA,isLive,Ac,BK,BJ,Af,BI,BL,BO,BM,BN,hsn]))⟩
  ·try simp at hc1
   obtain rfl:i=c.AX.length:=by omega
   refine Ad ?_
   refine sg ?_
   refine qv (AB E5) ?_
   refine qv (AQ D9 DW) ?_
   refine qv A8 ?_
   refine Bo (hw) ?_
   refine qv A8 ?_
   iterate 2 refine qv Bf ?_
   iterate 2 refine qv A9 ?_
   refine sg ?_
   refine qv A8 ?_
   refine qv Bv ?_
   refine qx A8 (fun oI=>?_) (fun oI=>?_)
   rotate_left
   ·exact absurd oI ((by decide))
   refine qv A8 ?_
   refine Dx (f53 b h n c F ok) [] [(100000,100000),(100001,100001)] [100000,100001] ?_
   refine qv A8 ?_
   refine qv Bv ?_
   refine qv Ai ?_
   refine qx A8 (fun oG=>?_) (fun oG=>?_)
   rotate_left
   ·exact absurd oG ((by simp;omega))
   iterate 2 refine qv A8 ?_
   refine Dx (f54 b h n c F ok) [] [(100000,100000),(100001,100001)] [100000,100001] ?_
   refine qv A8 ?_
   refine Dx (f55 b h n c F ok) [] [(100000,100000),(100001,100001)] [100000,100001] ?_
   refine qv Am ?_
   refine qv A8 ?_
   refine qv Am ?_
   refine qv Bv ?_
   refine qv Ai ?_
   refine qx A8 (fun IQ=>?_) (fun IQ=>?_)
   rotate_left
   ·exact absurd IQ ((by simp;omega))
   refine qv A8 ?_
   refine Dx (f52 b h n c F ok) [] [(100000,100000),(100001,100001)] [100000,100001] ?_
   iterate 2 refine qv A8 ?_
   refine Dx (f54 b h n c F ok) [] [(100000,100000),(100001,100001)] [100000,100001] ?_
   refine qv Am ?_
   refine qv Bv ?_
   refine qv Ai ?_
   refine qv A9 ?_
   refine AP ?_
   exact xg [(100000,100000),(100001,100001)] (h1:=by simp [CV,Al,Ae,Aa,isLive,Ac,Ba,AA,Ch,BK,BJ,CR,Af,BI,BL,BO,BM,BN,Dv,hmo])
end Go.Ab.Tryz
