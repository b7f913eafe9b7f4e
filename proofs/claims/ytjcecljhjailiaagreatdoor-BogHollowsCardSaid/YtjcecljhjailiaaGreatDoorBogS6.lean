/- The functions of the bog laws: cuttings, part 69. The walks are written by wip/gen/gw.py. -/
import Derived.Test.YtjcecljhjailiaaGreatDoorBogS5
import Derived.Test.YtjcecljhjailiaaGreatDoorBogG19
import Derived.Test.YtjcecljhjailiaaGreatDoorBogR2
import Derived.Test.YtjcecljhjailiaaGreatDoorBogG07
set_option linter.all false
namespace Go.Ab.Tryz
open Go Go.Ab Go.Proofs Go.Ab.Ci Go.Ab.Gx
open Go.Ab.Heap (Az Ah BZ)
open Go.Ab.Heap (Hp Et validate sm)
theorem A05 {b:Bg} {h:Hp} {n:Int} {c:Cs} (ok:C8 b h n c) {r i:Nat} (hi:i < c.AU.length) (hr:(Az c.AU i).toNat <= r):c.F3 / 2 ^ (r * c.AU.length+i) % 2=0:=by
 have h1:c.F3.testBit (r * b.worth.length+i)=false:=by
  cases hw:c.F3.testBit (r * b.worth.length+i) with
  | false=>rfl
  | true =>
   have h2:=ok.vK _ hw
   rw [Y6 ok.hol hi,decide_eq_true_eq] at h2
   omega
 rw [ok.hol.len]
 rw [Nat.testBit_eq_decide_div_mod_eq,decide_eq_false_iff_not] at h1
 omega
set_option maxHeartbeats 2000000 in
set_option maxRecDepth 100000 in
theorem f29 (b:Bg) (h:Hp) (n:Int) (c:Cs) (F:Fn b h n) (ok:C8 b h n c):Aw Tryz.prog 29 [.pt 100000 0 0,.dv (LK (Fm.mk b h n))] (Ba (pair b h n c 0 100004)) ⟨[.dv (.bool true)],Ba (pair b h n c 0 100004)⟩:=by
 have hd4:=F.bg.d4
 have Uz:=F.bg.n6
 have uM:=ok.hol.len
 have ZG:=rH F ok
 have hv0:=ok.bX
 refine DC Tryz.func29 rfl rfl (by rw [Tryz.ntmps29];simp) fun cx hP hn hg=>?_
 rw [Tryz.ntmps29] at hn
 refine Bj ?_
 refine sg ?_
 refine qp BX ?_
 refine qv A9 ?_
 refine sg ?_
 refine qv A8 ?_
 refine Dx (f28 b h n c F ok) [] [(100000,100000),(100001,100001)] [100000,100001] ?_
 refine qv A8 ?_
 refine Dx (f51 b h n c F ok) [] [(100000,100000),(100001,100001)] [100000,100001] ?_
 iterate 2 refine qv A9 ?_
 refine AJ ?_
 refine sg ?_
 refine qv A9 ?_
 refine BD ?_
 refine Ag (ι:=Nat) (fun i=>⟨lk [(3,.pt 3 0 0),(5,.dv (ints (c.AU))),(6,.dv (i64 ((c.F3:Int)))),(7,.dv (i64 (i:Nat)))],AA [(3,0,some ⟨[.dv (.list (((((Fm.mk b h n)).bog).worth).map ints)),.dv (.list (((((Fm.mk b h n)).heaps).links).map ints)),.dv (ints ((((Fm.mk b h n)).heaps).ground)),.dv (i64 (((Fm.mk b h n)).need))],0,29,0,false⟩),(100000,0,some (ZY b h n c 0 100001 100003)),(100001,0,some (Cy c.orders 100004))]⟩) (fun i=>i <= c.AU.length) (fun i=>c.AU.length - i) 0 (by simp) (tl [(3,3),(100000,100000),(100001,100001)]) ?_
 intro i Aj
 refine AJ ?_
 refine sg ?_
 iterate 2 refine qv A8 ?_
 refine qv (BH CZ) ?_
 refine qv BQ ?_
 refine cd (fun hc0=>?_) (fun hc0=>?_)
 ·try simp at hc0
  refine AY ?_
  refine AJ ?_
  refine BD ?_
  refine sg ?_
  have hi:i < c.AU.length:=by omega
  have hgi:=Ah hi
  have hbi:=ok.hol.bd i hi
  obtain ⟨k,hk⟩:∃ k:Nat,Az c.AU i=k:=⟨(Az c.AU i).toNat,by omega⟩
  rw [hk] at hgi hbi
  have hx:=Ef (b:=b) (i:=i) (by omega)
  have hxl:=F.bg.len i (by omega)
  iterate 2 refine qv A8 ?_
  first | refine qv (BA Ap Ak) ?_ | refine qv (Bd Ap Ak) ?_
  refine qv (Bb Ak Br) ?_
  refine qv A9 ?_
  refine BD ?_
  refine Ag (ι:=Nat) (fun r=>⟨lk [(3,.pt 3 0 0),(5,.dv (ints (c.AU))),(6,.dv (i64 ((c.F3:Int)))),(7,.dv (i64 (i:Nat))),(8,.dv (i64 (r:Nat)))],AA [(3,0,some ⟨[.dv (.list (((((Fm.mk b h n)).bog).worth).map ints)),.dv (.list (((((Fm.mk b h n)).heaps).links).map ints)),.dv (ints ((((Fm.mk b h n)).heaps).ground)),.dv (i64 (((Fm.mk b h n)).need))],0,29,0,false⟩),(100000,0,some (ZY b h n c 0 100001 100003)),(100001,0,some (Cy c.orders 100004))]⟩) (fun r=>k <= r /\ r <= b.dep) (fun r=>b.dep - r) k ⟨Nat.le_refl _,by omega⟩ (tl [(3,3),(100000,100000),(100001,100001)]) ?_
  intro r Es
  refine AJ ?_
  refine sg ?_
  refine qv A8 ?_
  refine qv (AB E5) ?_
  refine qv (AB Cb) ?_
  refine qv (AL DF Da) ?_
  refine qv A8 ?_
  first | refine qv (BA CO Av) ?_ | refine qv (Bd CO Av) ?_
  refine qv (Bb Av Bl) ?_
  refine qv (BH CZ) ?_
  refine qv BQ ?_
  refine cd (fun hc1=>?_) (fun hc1=>?_)
  ·try simp at hc1
   refine AY ?_
   refine AJ ?_
   refine BD ?_
   refine sg ?_
   have hr:r < b.dep:=by omega
   have hrm:r * c.AU.length <= 4 * 6:=Nat.mul_le_mul (by omega) (by omega)
   have hz0:=A05 ok hi (r:=r) (by omega)
   iterate 3 refine qv A8 ?_
   refine qv (BH CZ) ?_
   refine qv T9 ?_
   refine qv A8 ?_
   refine qv Dm ?_
   refine qv (NP gG XG) ?_
   refine qv (bI (r * c.AU.length+i)) ?_
   refine qv (bM (a:=c.F3 / 2 ^ (r * c.AU.length+i)) (Nat.lt_of_le_of_lt (Nat.div_le_self _ _) (by omega))) ?_
   refine qv Bv ?_
   refine Cv (hb:=(by simp [hz0])) (ht:=?_)
   refine AY ?_
   refine rg ?_
   refine qv A8 ?_
   refine qv Am ?_
   refine qv A9 ?_
   exact ⟨r+1,⟨by omega,by omega⟩,(by simp only;omega),(tl [(3,3),(100000,100000),(100001,100001)])⟩
  ·try simp at hc1
   refine Ad ?_
   refine rg ?_
   refine qv A8 ?_
   refine qv Am ?_
   refine qv A9 ?_
   exact ⟨i+1,hi,(by simp only;omega),(tl [(3,3),(100000,100000),(100001,100001)])⟩
 ·try simp at hc0
  obtain rfl:i=c.AU.length:=by omega
  refine Ad ?_
  refine sg ?_
  refine qv (AB E5) ?_
  refine qv (AQ D9 DW) ?_
  refine qv A8 ?_
  refine Bo (f71 b c.AU) ?_
  refine qv Bv ?_
  refine qv A9 ?_
  refine AP ?_
  exact xg [(100000,100000),(100001,100001)] (h1:=by simp [CV,Al,Ae,Aa,isLive,Ac,Ba,AA,Ch,BK,BJ,CR,Af,BI,BL,BO,BM,BN,Dv,hv0])
end Go.Ab.Tryz
