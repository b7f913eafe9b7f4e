/- The functions of the bog laws: cuttings, part 53. The walks are written by wip/gen/gw.py. -/
import Derived.Test.YtjcecljhjailiaaGreatDoorBogR2
import Derived.Test.YtjcecljhjailiaaGreatDoorBogG07
set_option linter.all false
namespace Go.Ab.Tryz
open Go Go.Ab Go.Proofs Go.Ab.Ci Go.Ab.Gx
open Go.Ab.Heap (Az Ah BZ)
open Go.Ab.Heap (Hp Et validate sm)
theorem lJ {b:Bg} {h:Hp} {n:Int} {c:Cs} (F:Fn b h n) (ok:C8 b h n c):AR Tryz.prog 114 [xG (OZ b n),i64 (c.F3:Int)] (.many [.dv (i64 ((c.F3 ||| Vp (Lh b n) c.F3:Nat):Int)),.dv (i64 0)]):=by
 have h1:=f114 (OZ b n) (c.F3:Int)
 have h2:=OW F.mn (ok.F3 n) (d:=(0:Int)) (g:=fun n v=>((v ||| Vp n v:Nat):Int))
 have h3:=Rz F.mn (ok.F3 n)
 rw [F.mw] at h1 ⊢
 rw [h2,h3] at h1
 exact h1
def wN (b:Bg) (n:Int) (c:Cs) (i q:Nat):Nat:=c.F3 ||| ((c.F3 ||| Vp (Lh b n) c.F3) &&& (Gc b c.AU i ||| Kt b i q))
theorem YM {b:Bg} {n:Int} {c:Cs}:wN b n c 0 0=c.F3:=by simp [wN,Gc,Kt]
theorem rO {b:Bg} {n:Int} {c:Cs} {i k:Nat} (h:Az c.AU i=k):wN b n c (i+1) 0=wN b n c i k:=by
 unfold wN
 rw [Gc,h,Int.toNat_natCast];simp [Kt]
theorem xU {b:Bg} {n:Int} {c:Cs}:wN b n c c.AU.length 0=(Nh b n c).F3:=by simp [wN,Kt,Nh]
theorem rM {b:Bg} {n:Int} {c:Cs} {i q:Nat}:wN b n c i (q+1)=if (c.F3 ||| Vp (Lh b n) c.F3).testBit (q * b.worth.length+i) then wN b n c i q ||| 2 ^ (q * b.worth.length+i) else wN b n c i q:=by
 unfold wN
 rw [Kt,aU,<- Nat.or_assoc,Nat.and_or_distrib_left,iM]
 split
 ·rw [Nat.or_assoc]
 ·rw [Nat.or_zero]
theorem A1M {b:Bg} {h:Hp} {n:Int} {c:Cs} (F:Fn b h n) (ok:C8 b h n c) {i q:Nat}:wN b n c i q < 68719476736:=by
 unfold wN
 refine Nat.or_lt_two_pow (n:=36) (bR F.mn (ok.F3 n)) (Nat.lt_of_le_of_lt Nat.and_le_left ?_)
 exact Pg F ok
set_option maxHeartbeats 4000000 in
set_option maxRecDepth 100000 in
theorem f73 (b:Bg) (h:Hp) (n:Int) (c:Cs) (F:Fn b h n) (ok:C8 b h n c):Aw Tryz.prog 73 [.pt 100000 0 0] (Ba (four b h n c 100004 100005 100006)) ⟨[],Ba (four b h n (Nh b n c) 100004 100005 100006)⟩:=by
 have ZG:=rH F ok
 have hsf:=Pg F ok
 have uM:=ok.hol.len
 have Uz:=F.bg.n6
 have hd4:=F.bg.d4
 have hd0:=ok.kD
 have hd1:=ok.day
 have ho:=ok.ord
 have hwl:∀ i q,wN b n c i q < 68719476736:=fun i q=>A1M F ok
 refine DC Tryz.func73 rfl rfl (by rw [Tryz.ntmps73];simp) fun cx hP hn hg=>?_
 rw [Tryz.ntmps73] at hn
 refine Bj ?_
 refine sg ?_
 refine qv A8 ?_
 refine qv BR ?_
 refine qv (AB d9) ?_
 refine qv (AL Ak Br) ?_
 refine qv Am ?_
 refine qv BR ?_
 refine qv (AB d9) ?_
 refine qs (CK Ak) ?_
 refine AJ ?_
 refine rd mixed ?_
 refine zv A8 ?_
 refine zv BR ?_
 refine zv (AB Te) ?_
 refine zv (AQ H7 JI) ?_
 refine zv A8 ?_
 refine zv BR ?_
 refine zv (AB Lv) ?_
 refine zv (AL Ak Br) ?_
 refine GA (R:=[]) (lJ F ok) ?_
 refine zv A8 ?_
 iterate 2 refine zv Bf ?_
 iterate 2 refine zv A9 ?_
 refine ⟨by rfl,?_⟩
 refine sg ?_
 refine qv A9 ?_
 refine BD ?_
 refine Ag (ι:=Nat) (fun i=>⟨lk [(0,.pt 100000 0 0),(2,.dv (i64 ((c.F3 ||| Vp (Lh b n) c.F3:Nat):Int))),(4,.dv (i64 (i:Nat)))],AA [(100000,0,some ⟨[.dv (.list (b.worth.map ints)),.dv (.list (h.links.map ints)),.dv (ints h.ground),.dv (i64 (b.dep:Int)),.dv (i64 (b.worth.length:Int)),.dv (i64 n),.dv (i64 (c.day+1)),.dv (i64 ((wN b n c i 0:Nat):Int)),.dv (i64 c.Ei),.dv (i64 c.cut),.dv (i64 c.loaded),.dv (i64 (Qt c)),.sl 100001 0 0 c.AU.length,.sl 100002 0 0 c.AX.length,.dv (.bool c.shut),.sl 100003 0 0 c.orders.length],0,67,100003,false⟩),(100001,0,some (rowIs c.AU 100004)),(100002,0,some (rowIs c.AX 100005)),(100003,0,some (Cy c.orders 100006))]⟩) (fun i=>i <= c.AU.length) (fun i=>c.AU.length - i) 0 (by simp) (tl [(100000,100000),(100001,100001),(100002,100002),(100003,100003)] (hF:=by simp [Ck,Aa,lk,AA,isLive,Ac,YM]) (hM:=by simp [CV,Al,Aa,Ae,lk,AA,isLive,Ac,BK,BJ,Af,BI,BL,BO,BM,BN,YM])) ?_
 intro i Aj
 refine AJ ?_
 refine sg ?_
 iterate 2 refine qv A8 ?_
 refine qv BR ?_
 refine qv (AB Kj) ?_
 refine qv (AL Av Bl) ?_
 refine qv (Cg CZ) ?_
 refine qv BQ ?_
 refine cd (fun hc0=>?_) (fun hc0=>?_)
 ·try simp at hc0
  refine AY ?_
  refine AJ ?_
  refine BD ?_
  refine AJ ?_
  have hi:i < c.AU.length:=by omega
  have hgi:=Ah hi
  have hbi:=ok.hol.bd i hi
  obtain ⟨k,hk⟩:∃ k:Nat,Az c.AU i=k:=⟨(Az c.AU i).toNat,by omega⟩
  have hwn:=rO (b:=b) (n:=n) hk
  rw [hk] at hgi hbi
  refine rg ?_
  refine qv A9 ?_
  refine BD ?_
  refine Ag (ι:=Nat) (fun q=>⟨lk [(0,.pt 100000 0 0),(2,.dv (i64 ((c.F3 ||| Vp (Lh b n) c.F3:Nat):Int))),(4,.dv (i64 (i:Nat))),(5,.dv (i64 (q:Nat)))],AA [(100000,0,some ⟨[.dv (.list (b.worth.map ints)),.dv (.list (h.links.map ints)),.dv (ints h.ground),.dv (i64 (b.dep:Int)),.dv (i64 (b.worth.length:Int)),.dv (i64 n),.dv (i64 (c.day+1)),.dv (i64 ((wN b n c i q:Nat):Int)),.dv (i64 c.Ei),.dv (i64 c.cut),.dv (i64 c.loaded),.dv (i64 (Qt c)),.sl 100001 0 0 c.AU.length,.sl 100002 0 0 c.AX.length,.dv (.bool c.shut),.sl 100003 0 0 c.orders.length],0,67,100003,false⟩),(100001,0,some (rowIs c.AU 100004)),(100002,0,some (rowIs c.AX 100005)),(100003,0,some (Cy c.orders 100006))]⟩) (fun q=>q <= k) (fun q=>k - q) 0 (by simp) (tl [(100000,100000),(100001,100001),(100002,100002),(100003,100003)]) ?_
  intro q Es
  refine AJ ?_
  refine sg ?_
  iterate 2 refine qv A8 ?_
  refine qv BR ?_
  refine qv (AB Kj) ?_
  refine qv (AL Av Bl) ?_
  refine qv A8 ?_
  refine qv (CB Ap Ak) ?_
  first | refine qv (EG Ak Br) ?_ | refine qv (AL Ak Br) ?_
  refine qv BQ ?_
  refine cd (fun hc1=>?_) (fun hc1=>?_)
  ·try simp at hc1
   refine AY ?_
   refine AJ ?_
   refine BD ?_
   refine sg ?_
   refine qv A8 ?_
   have hq:q < k:=by omega
   have hsb:=SI F.bg (r:=q) (k:=i) (by omega) (by omega)
   have hsl:=Qd F.bg (r:=q) (k:=i) (by omega) (by omega)
   unfold aU at hsl
   have hws:=rM (b:=b) (n:=n) (c:=c) (i:=i) (q:=q)
   have hwq:=hwl i q
   iterate 2 refine qv A8 ?_
   refine Bo (f115 b h n q i (by omega) (by omega) (by omega)) ?_ (ha:=(CG (Rn (by (first | (simp only [AA,reduceIte,Nat.reduceEqDiff]<;>rfl) | (simp [L8,AA]<;>rfl)))) (CG Bh (CG Bh EH))))
   refine qv A9 ?_
   refine sg ?_
   iterate 2 refine qv A8 ?_
   refine Bo (f116 (c.F3 ||| Vp (Lh b n) c.F3) (q * b.worth.length+i) hsf (by omega)) ?_
   refine cd (fun hc2=>?_) (fun hc2=>?_)
   ·skip
    rw [if_pos (by simpa using hc2)] at hws
    refine rg ?_
    refine qv A8 ?_
    refine qv BR ?_
    refine qv (AB Lv) ?_
    refine qv (AL Ak Br) ?_
    refine qv A8 ?_
    refine qv (NP gG XG) ?_
    refine qv (EP (q * b.worth.length+i)) ?_
    refine qv (Dc (ha:=by omega) (hb:=by omega)) ?_
    refine qv BR ?_
    refine qv (AB Lv) ?_
    refine qs (CK Ak) ?_
    refine rg ?_
    refine qv A8 ?_
    refine qv Am ?_
    refine qv A9 ?_
    exact ⟨q+1,hq,(by simp only;omega),(tl [(100000,100000),(100001,100001),(100002,100002),(100003,100003)] (hF:=by simp [Ck,Aa,lk,AA,isLive,Ac,hws]) (hM:=by simp [CV,Al,Aa,Ae,lk,AA,isLive,Ac,BK,BJ,Af,BI,BL,BO,BM,BN,hws]))⟩
   ·skip
    rw [if_neg (by simpa using hc2)] at hws
    refine AY ?_
    refine rg ?_
    refine qv A8 ?_
    refine qv Am ?_
    refine qv A9 ?_
    exact ⟨q+1,hq,(by simp only;omega),(tl [(100000,100000),(100001,100001),(100002,100002),(100003,100003)] (hF:=by simp [Ck,Aa,lk,AA,isLive,Ac,hws]) (hM:=by simp [CV,Al,Aa,Ae,lk,AA,isLive,Ac,BK,BJ,Af,BI,BL,BO,BM,BN,hws]))⟩
  ·try simp at hc1
   obtain rfl:q=k:=by omega
   refine Ad ?_
   refine rg ?_
   refine qv A8 ?_
   refine qv Am ?_
   refine qv A9 ?_
   exact ⟨i+1,hi,(by simp only;omega),(tl [(100000,100000),(100001,100001),(100002,100002),(100003,100003)] (hF:=by simp [Ck,Aa,lk,AA,isLive,Ac,hwn]) (hM:=by simp [CV,Al,Aa,Ae,lk,AA,isLive,Ac,BK,BJ,Af,BI,BL,BO,BM,BN,hwn]))⟩
 ·try simp at hc0
  obtain rfl:i=c.AU.length:=by omega
  refine Ad ?_
  exact xg [(100000,100000),(100001,100001),(100002,100002),(100003,100003)] (h2:=by simp [CV,Al,Ae,Aa,isLive,Ac,Ba,AA,Ch,BK,BJ,CR,Af,BI,BL,BO,BM,BN,Dv,xU];simp [CV,Al,Ae,Aa,isLive,Ac,Ba,AA,Ch,BK,BJ,CR,Af,BI,BL,BO,BM,BN,Dv,Nh,Qt])
end Go.Ab.Tryz
