/- BogO2, BogD1, BogAs, BogRs, Ab52, Ab54, Ab55. -/
import Derived.Test.YtjcecljhjailiaaGreatDoorBogG22
import Derived.Test.YtjcecljhjailiaaGreatDoorBogG07
import Derived.Test.YtjcecljhjailiaaGreatDoorBogG12
import Derived.Test.YtjcecljhjailiaaGreatDoorBogG15
import Derived.WalkKit
import Derived.LaidEql
import Derived.Stop.Asserts
import Derived.RowKitTokens
import Derived.Test.YtjcecljhjailiaaGreatDoorBogG12
import Derived.Test.YtjcecljhjailiaaGreatDoorBogG10
import Derived.Conc.MuLone
import Derived.Laws.Tables
import Derived.Defers
import Derived.Test.YtjcecljhjailiaaGreatDoorBogG09
import Derived.WideLaws
set_option linter.all false
namespace Go.Ab.Tryz
open Go Go.Ab Go.Proofs Go.Ab.Ci Go.Ab.Gx
open Go.Ab.Heap (Az Ah BZ)
open Go.Ab.Heap (Hp Et validate)
theorem f151 (b:Bg) (h:Hp) (n:Int) (c:Cs) (s:Int) (ok:Nu b c.AU):AR Tryz.prog 151 [.DU (vX b h n c s)] (.one (.dv (i64 (Gc b c.AU c.AU.length:Nat)))):=by
 have Uz:=ok.bg.n6
 have hd4:=ok.bg.d4
 have hle:=ok.len
 refine Bu Tryz.func151 rfl rfl (by rw [Tryz.ntmps151];simp) fun cx hP hn hg=>?_
 rw [Tryz.ntmps151] at hn
 rw [Bq,Bp]
 simp only [List.nil_append,List.append_nil,List.cons_append,BF,Nat.reduceAdd]
 refine sg ?_
 refine qv A9 ?_
 refine sg ?_
 refine qv A9 ?_
 refine AJ ?_
 refine sg ?_
 refine qv A8 ?_
 refine qv BR ?_
 first | refine qv (jM Ht) ?_ | refine qv (AB Ht) ?_
 first | refine qv (jM FJ) ?_ | refine qv (AB FJ) ?_
 first | refine qv (Bb Av Bl) ?_ | refine qv (AL Av Bl) ?_
 refine qv (BH CZ) ?_
 refine qv A8 ?_
 refine BD ?_
 refine Ag (ι:=Nat) (fun i=>⟨lk [(0,.dv (.DU (vX b h n c s))),(3,.dv (i64 (Gc b c.AU i:Nat))),(11,.dv (ints (c.AU))),(12,.dv (i64 ((c.AU.length:Int)))),(13,.dv (i64 (i:Nat)))],AA []⟩) (fun i=>i <= c.AU.length) (fun i=>c.AU.length - i) 0 (by simp) (tl [] (hF:=by simp [Ck,Aa,lk,AA,isLive,Ac,Gc]) (hM:=by simp [CV,Al,Aa,Ae,lk,AA,isLive,Ac,BK,BJ,Af,BI,BL,BO,BM,BN,Gc])) ?_
 intro i Aj
 refine sg ?_
 refine qv BQ ?_
 refine AJ ?_
 refine cd (fun hc0=>?_) (fun hc0=>?_)
 ·try simp at hc0
  refine AY ?_
  refine AJ ?_
  refine BD ?_
  refine sg ?_
  have hi:i < c.AU.length:=by omega
  have hgi:=Ah hi
  have hbi:=ok.bd i hi
  obtain ⟨k,hk⟩:∃ k:Nat,Az c.AU i=k:=⟨(Az c.AU i).toNat,by omega⟩
  rw [hk] at hgi hbi
  have hb24:=iG ok i (by omega)
  refine qv A8 ?_
  first | refine qv (BA Ap Ak) ?_ | refine qv (Bd Ap Ak) ?_
  refine qv (Bb Ak Br) ?_
  iterate 2 refine qv A9 ?_
  refine sg ?_
  iterate 2 refine qv A8 ?_
  refine BD ?_
  refine Ag (ι:=Nat) (fun q=>⟨lk [(0,.dv (.DU (vX b h n c s))),(3,.dv (i64 (Gc b c.AU i ||| Kt b i q:Nat))),(4,.dv (i64 (i:Nat))),(11,.dv (ints (c.AU))),(12,.dv (i64 ((c.AU.length:Int)))),(13,.dv (i64 (i:Nat))),(18,.dv (i64 ((k:Int)))),(19,.dv (i64 (q:Nat)))],AA []⟩) (fun q=>q <= k) (fun q=>k - q) 0 (by simp) (tl [] (hF:=by simp [Ck,Aa,lk,AA,isLive,Ac,Kt]) (hM:=by simp [CV,Al,Aa,Ae,lk,AA,isLive,Ac,BK,BJ,Af,BI,BL,BO,BM,BN,Kt])) ?_
  intro q Es
  refine sg ?_
  refine qv BQ ?_
  refine AJ ?_
  refine cd (fun hc1=>?_) (fun hc1=>?_)
  ·try simp at hc1
   refine AY ?_
   refine AJ ?_
   refine BD ?_
   refine sg ?_
   have hq:q < k:=by omega
   have hc24:=Xn ok.bg (k:=i) (by omega) q (by omega)
   have hs24:=Qd ok.bg (r:=q) (k:=i) (by omega) (by omega)
   have ho24:=yK hb24 hc24
   have hqs:Gc b c.AU i ||| Kt b i (q+1)=(Gc b c.AU i ||| Kt b i q) ||| aU b q i:=by simp only [Kt,Nat.or_assoc]
   refine qv A8 ?_
   refine qv A9 ?_
   refine rg ?_
   iterate 4 refine qv A8 ?_
   refine Bo (f90 b ok.bg h n c s q i (by omega) (by omega)) ?_
   refine qv (Dc (ha:=by omega) (hb:=by omega)) ?_
   refine qv A9 ?_
   refine rg ?_
   refine qv Am ?_
   refine qv A8 ?_
   exact ⟨q+1,hq,(by simp only;omega),(tl [] (hF:=by simp [Ck,Aa,lk,AA,isLive,Ac,hqs]) (hM:=by simp [CV,Al,Aa,Ae,lk,AA,isLive,Ac,BK,BJ,Af,BI,BL,BO,BM,BN,hqs]))⟩
  ·try simp at hc1
   obtain rfl:q=k:=by omega
   have hbs:Gc b c.AU (i+1)=Gc b c.AU i ||| Kt b i q:=by simp only [Gc];rw [hk];rfl
   refine Ad ?_
   refine rg ?_
   refine qv Am ?_
   refine qv A8 ?_
   exact ⟨i+1,hi,(by simp only;omega),(tl [] (hF:=by simp [Ck,Aa,lk,AA,isLive,Ac,hbs]) (hM:=by simp [CV,Al,Aa,Ae,lk,AA,isLive,Ac,BK,BJ,Af,BI,BL,BO,BM,BN,hbs]))⟩
 ·try simp at hc0
  refine Ad ?_
  refine sg ?_
  refine qv A8 ?_
  refine qv A9 ?_
  refine AP ?_
  obtain rfl:i=c.AU.length:=by omega
  exact x1 (hr:=(CW))
end Go.Ab.Tryz
namespace Go.Ab.Tryz
open Go Go.Ab Go.Proofs Go.Ab.Ci Go.Ab.Gx
open Go.Ab.Heap (Az Ah BZ sm LZ Ct La Dk Hp Et validate H6 VH YO LJ LX wI Mi)
def Lh (b:Bg) (n:Int):Mn:=⟨b.dep,b.worth.length,n.toNat⟩
structure Fn (b:Bg) (h:Hp) (n:Int):Prop where
 bg:PW b
 hv:validate h=0
 len:h.ground.length=b.worth.length
 mn:(Lh b n).Ok
 mw:OZ b n=(Lh b n).w
theorem Fn.vh {b:Bg} {h:Hp} {n:Int} (F:Fn b h n):VH h:=YO F.hv
theorem Ga {b:Bg} {h:Hp} {n:Int} (e:newE b h n=0):Fn b h n:=by
 obtain ⟨h1,h2,h3,h4⟩:=bE e
 have ok:=UZ h1
 have hv:Em (OZ b n)=true:=by
  unfold valid at h4
  split at h4
  ·assumption
  ·cases h4
 obtain ⟨q,q1,q2⟩:=RP hv
 have e1:q.r=b.dep:=by have:=congrArg Mw.rows q2;simp only [OZ] at this;omega
 have e2:q.c=b.worth.length:=by have:=congrArg Mw.ZX q2;simp only [OZ] at this;omega
 have e3:n=q.nd:=congrArg Mw.need q2
 have e4:Lh b n=q:=by
  unfold Lh;rw [<- e1,<- e2,e3,Int.toNat_natCast]
 exact ⟨ok,h2,h3,by rw [e4];exact q1,by rw [e4];exact q2⟩
theorem Fn.e {b:Bg} {h:Hp} {n:Int} (F:Fn b h n):newE b h n=0:=by
 unfold newE
 rw [if_neg (by simp [A0Q F.bg]),if_neg (by simp [F.hv]),if_neg (by simp [F.len]),F.mw]
 unfold valid
 rw [fH F.mn];rfl
theorem lT {f g:Nat -> Int} {k:Nat}:∀ {n:Nat},k < n -> (∀ i,i < n -> i ≠ k -> g i=f i) -> sm g n=sm f n+(g k - f k)
 | 0,hk,_=>by omega
 | n+1,hk,he=>by
  simp only [sm]
  by_cases h:k=n
  ·subst h
   rw [Ct (f:=g) (g:=f) fun i hi=>he i (by omega) (by omega)]
   omega
  ·rw [lT (k:=k) (n:=n) (by omega) fun i hi hik=>he i (by omega) hik,he n (by omega) (by omega)]
   omega
theorem vJ {l:List Int} {k:Nat} (hk:k < l.length):sm (Az (KC l k)) (KC l k).length=sm (Az l) l.length+1:=by
 rw [Jf]
 unfold KC
 rw [LZ rfl hk];omega
theorem jy {b:Bg} {l:List Int} {k:Nat} (hk:k < l.length) (h0:0 <= Az l k):worth b (KC l k)=worth b l+Az (b.col k) (Az l k).toNat:=by
 unfold worth Mh
 rw [Jf,lT (f:=fun i=>Ow b i (Az l i).toNat) (k:=k) hk]
 ·rw [Tq hk,if_pos rfl]
  have:(Az l k+1).toNat=(Az l k).toNat+1:=by omega
  rw [this]
  unfold Ow
  simp only [sm];omega
 ·intro i hi hik
  rw [Tq hk,if_neg hik]
theorem iA {b:Bg} {k:Nat}:∀ (r i:Nat),(Kt b k r).testBit i=true ↔ ∃ q,q < r /\ i=q * b.worth.length+k
 | 0,i=>by simp [Kt]
 | r+1,i=>by
  rw [Kt,Nat.testBit_or,Bool.or_eq_true,iA r i,aU,Nat.testBit_two_pow,decide_eq_true_eq]
  constructor
  ·rintro (⟨q,h1,h2⟩ | h)
   ·exact ⟨q,by omega,h2⟩
   ·exact ⟨r,by omega,h.symm⟩
  ·rintro ⟨q,h1,h2⟩
   by_cases h:q=r
   ·subst h;exact .inr h2.symm
   ·exact .inl ⟨q,by omega,h2⟩
theorem M9 {b:Bg} {l:List Int}:∀ (k i:Nat),(Gc b l k).testBit i=true ↔ ∃ c q,c < k /\ q < (Az l c).toNat /\ i=q * b.worth.length+c
 | 0,i=>by simp [Gc]
 | k+1,i=>by
  rw [Gc,Nat.testBit_or,Bool.or_eq_true,M9 k i,iA]
  constructor
  ·rintro (⟨c,q,h1,h2,h3⟩ | ⟨q,h1,h2⟩)
   ·exact ⟨c,q,by omega,h2,h3⟩
   ·exact ⟨k,q,by omega,h1,h2⟩
  ·rintro ⟨c,q,h1,h2,h3⟩
   by_cases h:c=k
   ·subst h;exact .inr ⟨q,h2,h3⟩
   ·exact .inl ⟨c,q,by omega,h2,h3⟩
abbrev PO (b:Bg) (l:List Int):Nat:=Gc b l l.length
theorem rZ {N r c q d:Nat} (hc:c < N) (hd:d < N) (h:r * N+c=q * N+d):r=q /\ c=d:=by
 have h1:(r * N+c) / N=r:=by rw [Nat.mul_comm,Nat.mul_add_div (by omega),Nat.div_eq_of_lt hc];omega
 have h2:(q * N+d) / N=q:=by rw [Nat.mul_comm,Nat.mul_add_div (by omega),Nat.div_eq_of_lt hd];omega
 have h3:r=q:=by rw [<- h1,<- h2,h]
 subst h3
 exact ⟨rfl,by omega⟩
theorem Y6 {b:Bg} {l:List Int} (ok:Nu b l) {r c:Nat} (hc:c < l.length):(PO b l).testBit (r * b.worth.length+c)=decide (r < (Az l c).toNat):=by
 rw [Bool.eq_iff_iff,M9,decide_eq_true_eq]
 constructor
 ·rintro ⟨d,q,h1,h2,h3⟩
  obtain ⟨rfl,rfl⟩:=rZ (by rw [<- ok.len];exact hc) (by rw [<- ok.len];exact h1) h3
  exact h2
 ·intro h
  exact ⟨c,r,hc,h,rfl⟩
theorem XD {n:Mn} {v:Nat}:v <= full n ↔ ∀ i,v.testBit i=true -> i < n.r * n.c:=by
 have h1:full n+1=2 ^ (n.r * n.c):=by
  have:=Nat.two_pow_pos (n.r * n.c)
  unfold full;omega
 constructor
 ·intro h i hi
  rcases Nat.lt_or_ge i (n.r * n.c) with h2 | h2
  ·exact h2
  ·have h3:v < 2 ^ i:=Nat.lt_of_lt_of_le (by omega:v < 2 ^ (n.r * n.c)) (Nat.pow_le_pow_right (by decide) h2)
   rw [Nat.testBit_lt_two_pow h3] at hi;cases hi
 ·intro h
  have:v < 2 ^ (n.r * n.c):=by
   apply Nat.lt_pow_two_of_testBit
   intro i hi
   cases hv:v.testBit i with
   | false=>rfl
   | true=>have:=h i hv;omega
  omega
theorem WT {b:Bg} {l:List Int} (ok:Nu b l) (n:Int):PO b l <= full (Lh b n):=XD.2 fun i hi=>by
 obtain ⟨c,q,h1,h2,rfl⟩:=(M9 _ _).1 hi
 have h3:=ok.bd c h1
 have h4:q < b.dep:=by omega
 have h5:=ok.len
 have:(q+1) * b.worth.length <= b.dep * b.worth.length:=Nat.mul_le_mul_right _ h4
 rw [Nat.add_mul] at this
 show _ < b.dep * b.worth.length
 omega
theorem kJ {b:Bg} {l m:List Int} (hl:l.length=m.length) (h:∀ i,i < l.length -> Az l i <= Az m i) {i:Nat} (hi:(PO b l).testBit i=true):(PO b m).testBit i=true:=by
 obtain ⟨c,q,h1,h2,h3⟩:=(M9 _ _).1 hi
 have:=h c h1
 exact (M9 _ _).2 ⟨c,q,by omega,by omega,h3⟩
structure C8 (b:Bg) (h:Hp) (n:Int) (c:Cs):Prop where
 hol:Nu b c.AU
 rt:IL c.AU=true
 Mj:c.AX.length=h.ground.length
 tnn:∀ i,i < h.ground.length -> 0 <= Az c.AX i
 calm:H6 h c.AX
 vK:∀ i,c.F3.testBit i=true -> (PO b c.AU).testBit i=true
 kD:0 <= c.day
 day:c.day <= c.orders.length
 tK:0 <= c.loaded
 cut:c.cut=sm (Az c.AU) c.AU.length
 bal:sm (Az c.AX) c.AX.length+c.loaded <= c.cut
 Ei:c.Ei=worth b c.AU+c.loaded
 ord:c.orders.length <= 100
 Gi:∀ T ∈ c.orders,FH T=true
section
variable {b:Bg} {h:Hp} {n:Int} {c:Cs}
theorem C8.F3 (ok:C8 b h n c) (n:Int):c.F3 <= full (Lh b n):=XD.2 fun i hi=>XD.1 (WT ok.hol n) i (ok.vK i hi)
theorem C8.bX (ok:C8 b h n c):JJ b c.AU=0:=XQ ok.hol.v ok.rt
theorem C8.t30 (ok:C8 b h n c) (v:VH h):H.PV h c.AX:=⟨ok.Mj,fun i hi=>⟨ok.tnn i hi,by have:=ok.calm i hi;have:=v.Z8 hi;omega⟩⟩
theorem C8.chk (ok:C8 b h n c) (F:Fn b h n):H.Cu h [c.AX]=0:=H.QJ F.hv fun j a ha=>by
 match j,ha with
 | 0,ha=>cases ha;exact H.uJ (ok.t30 F.vh)
theorem C8.kF (ok:C8 b h n c):0 <= c.cut /\ c.cut <= 24:=by
 rw [ok.cut]
 have h1:=ok.hol.bg.d4
 have h2:=ok.hol.bg.n6
 have h3:=ok.hol.len
 refine ⟨Dk fun i hi=>(ok.hol.bd i hi).1,?_⟩
 have:=La (f:=Az c.AU) (g:=fun _=>4) (n:=c.AU.length) fun i hi=>by have:=ok.hol.bd i hi;omega
 rw [Go.Ab.Heap.Iz] at this
 omega
theorem C8.rT (ok:C8 b h n c):0 <= sm (Az c.AX) c.AX.length:=Dk fun i hi=>ok.tnn i (by rw [<- ok.Mj];exact hi)
theorem C8.ldb (ok:C8 b h n c):c.loaded <= 24:=by have:=ok.kF;have:=ok.bal;have:=ok.rT;omega
theorem C8.jK (ok:C8 b h n c):-2000 <= c.Ei /\ c.Ei <= 2000:=by
 have h1:=Wh ok.hol c.AU.length (Nat.le_refl _)
 have h2:=ok.hol.len
 have h3:=ok.hol.bg.n6
 have h4:=ok.ldb
 have h5:=ok.tK
 have h6:=ok.Ei
 unfold worth at h6
 omega
end
theorem M7 {b:Bg} {h:Hp} {n:Int} (F:Fn b h n):C8 b h n (cs0 b.worth.length):=by
 have e:∀ i,Az (List.replicate b.worth.length 0) i=0:=fun i=>by
  unfold Az
  rw [List.getD_eq_getElem?_getD,List.getElem?_replicate]
  split<;>rfl
 have e0:sm (Az (List.replicate b.worth.length 0)) b.worth.length=0:=by
  rw [Ct (g:=fun _=>0) fun i _=>e i,Go.Ab.Heap.JN]
 refine ⟨⟨F.bg,by simp [cs0],fun i hi=>?_⟩,SX fun c h1 h2=>?_,?_,fun i hi=>?_,fun i hi=>?_,fun i hi=>?_,?_,?_,?_,?_,?_,?_,?_,?_⟩
 ·show 0 <= Az (List.replicate b.worth.length 0) i /\ Az (List.replicate b.worth.length 0) i <= _
  rw [e];omega
 ·show gap (List.replicate b.worth.length 0) c=true
  unfold gap;rw [e,e];rfl
 ·simp [cs0,F.len]
 ·show 0 <= Az (List.replicate b.worth.length 0) i
  rw [e];omega
 ·show Az (List.replicate b.worth.length 0) i < _
  rw [e];have:=F.vh.jR hi;omega
 ·simp [cs0] at hi
 ·simp [cs0]
 ·simp [cs0]
 ·simp [cs0]
 ·simp only [cs0,List.length_replicate];rw [e0]
 ·simp only [cs0,List.length_replicate];rw [e0];omega
 ·simp only [cs0]
  unfold worth Mh
  rw [List.length_replicate,Ct (g:=fun _=>0) fun i _=>by rw [e];rfl,Go.Ab.Heap.JN];rfl
 ·simp [cs0]
 ·simp [cs0]
def Nh (b:Bg) (n:Int) (c:Cs):Cs:={ c with day:=c.day+1,F3:=c.F3 ||| ((c.F3 ||| Vp (Lh b n) c.F3) &&& PO b c.AU) }
noncomputable def Kr (b:Bg) (h:Hp) (c:Cs) (k:Nat):Cs:={ c with AU:=KC c.AU k,AX:=LJ h (H.bump c.AX k),Ei:=c.Ei+Az (b.col k) (Az c.AU k).toNat,cut:=c.cut+1 }
def FZ (b:Bg) (c:Cs) (k:Nat):Bool:=decide (0 < Az c.AU k) && c.F3.testBit (((Az c.AU k).toNat - 1) * b.worth.length+k)
def Fp (b:Bg) (c:Cs) (k:Nat):Int:=if b.worth.length <= k then 4 else if c.shut then 8 else if !Cz b c.AU k || FZ b c k then 6 else 0
def I6 (c:Cs) (i m:Nat):Cs:={ c with AX:=c.AX.set i (Az c.AX i - m),loaded:=c.loaded+m,Ei:=c.Ei+m }
def EW (c:Cs) (i m:Nat):Int:=if c.AX.length <= i then 4 else if m=0 then 1 else if Az c.AX i < m then 11 else 0
def NQ (b:Bg) (c:Cs) (r k:Nat):Cs:={ c with F3:=c.F3 ||| 2 ^ (r * b.worth.length+k) }
def GH (b:Bg) (c:Cs) (r k:Nat):Int:=if b.dep <= r \/ b.worth.length <= k then 4 else if Az c.AU k <= r then 8 else if c.F3.testBit (r * b.worth.length+k) then 5 else 0
def Ti (b:Bg) (c:Cs) (o:Nat × List Nat):Int :=
 match o.1 with
 | 0=>0
 | 1=>Fp b c (o.2.getD 0 0)
 | 2=>EW c (o.2.getD 0 0) (o.2.getD 1 0)
 | 3=>GH b c (o.2.getD 0 0) (o.2.getD 1 0)
 | _=>if c.shut then 5 else 0
noncomputable def jm (b:Bg) (h:Hp) (n:Int) (c:Cs) (o:Nat × List Nat):Cs :=
 match o.1 with
 | 0=>Nh b n c
 | 1=>Kr b h c (o.2.getD 0 0)
 | 2=>I6 c (o.2.getD 0 0) (o.2.getD 1 0)
 | 3=>NQ b c (o.2.getD 0 0) (o.2.getD 1 0)
 | _=>{ c with shut:=true }
def Kq (b:Bg) (c:Cs) (T:Tx):Int :=
 match BU T with
 | none=>2
 | some o=>if 100 <= c.orders.length then 3 else Ti b c o
noncomputable def Mx (b:Bg) (h:Hp) (n:Int) (c:Cs) (T:Tx):Cs :=
 if Kq b c T=0 then { jm b h n c ((BU T).getD (0,[])) with orders:=c.orders ++ [T] } else c
theorem Tv {b:Bg} {h:Hp} {n:Int} {c:Cs} {T:Tx} (e:Kq b c T ≠ 0):Mx b h n c T=c:=by unfold Mx;rw [if_neg e]
theorem Xi {b:Bg} {h:Hp} {n:Int} {c:Cs} {T:Tx} (e:Kq b c T=0):∃ o,BU T=some o /\ c.orders.length < 100 /\ Ti b c o=0 /\ Mx b h n c T={ jm b h n c o with orders:=c.orders ++ [T] }:=by
 have e0:=e
 unfold Kq at e
 split at e
 ·cases e
 ·rename_i o ho
  split at e
  ·cases e
  ·rename_i hl
   refine ⟨o,ho,by omega,e,?_⟩
   unfold Mx
   rw [if_pos e0,ho];rfl
theorem QI {b:Bg} {h:Hp} {n:Int} {c:Cs} {T:Tx}:(Mx b h n c T).orders=if Kq b c T=0 then c.orders ++ [T] else c.orders:=by
 unfold Mx
 split<;>rfl
section
variable {b:Bg} {h:Hp} {n:Int} {c:Cs}
theorem A09 (F:Fn b h n) (ok:C8 b h n c) {T:Tx} (hT:FH T=true) (hl:c.orders.length < 100):C8 b h n { Nh b n c with orders:=c.orders ++ [T] }:=by
 refine { ok with vK:=fun i hi=>?_,kD:=?_,day:=?_,ord:=?_,Gi:=?_ }
 ·have hi':(c.F3 ||| ((c.F3 ||| Vp (Lh b n) c.F3) &&& PO b c.AU)).testBit i=true:=hi
  rw [Nat.testBit_or,Bool.or_eq_true,Nat.testBit_and,Bool.and_eq_true] at hi'
  rcases hi' with h1 | h1
  ·exact ok.vK i h1
  ·exact h1.2
 ·show 0 <= c.day+1
  have:=ok.kD;omega
 ·show c.day+1 <= ((c.orders ++ [T]).length:Int)
  have:=ok.day;simp;omega
 ·simp;omega
 ·intro U hU
  rcases List.mem_append.1 hU with hU | hU
  ·exact ok.Gi U hU
  ·simp only [List.mem_singleton] at hU;subst hU;exact hT
theorem C8.more (ok:C8 b h n c) {T:Tx} (hT:FH T=true) (hl:c.orders.length < 100):C8 b h n { c with orders:=c.orders ++ [T] }:=by
 refine { ok with day:=?_,ord:=?_,Gi:=?_ }
 ·have:=ok.day;simp;omega
 ·simp;omega
 ·intro U hU
  rcases List.mem_append.1 hU with hU | hU
  ·exact ok.Gi U hU
  ·simp only [List.mem_singleton] at hU;subst hU;exact hT
theorem A07 {k:Nat} (e:Fp b c k=0):k < b.worth.length /\ c.shut=false /\ Cz b c.AU k=true /\ FZ b c k=false:=by
 unfold Fp at e
 split at e
 ·cases e
 ·split at e
  ·cases e
  ·split at e
   ·cases e
   ·rename_i h1 h2 h3
    refine ⟨by omega,by simpa using h2,?_,?_⟩
    ·cases hq:Cz b c.AU k with
     | true=>rfl
     | false=>rw [hq] at h3;simp at h3
    ·cases hq:FZ b c k with
     | false=>rfl
     | true=>rw [hq] at h3;simp at h3
theorem A06 (F:Fn b h n) (ok:C8 b h n c) {k:Nat} (e:Fp b c k=0):C8 b h n (Kr b h c k):=by
 obtain ⟨h1,_,h3,_⟩:=A07 e
 have hk:k < c.AU.length:=by rw [ok.hol.len];exact h1
 have hkh:k < h.ground.length:=by rw [F.len];exact h1
 have hbd:=ok.hol.bd k hk
 unfold Cz at h3
 simp only [Bool.and_eq_true,decide_eq_true_eq] at h3
 have hf:=H.P8 (ok.t30 F.vh) hkh
 obtain ⟨I,hc⟩:=LX F.vh hf.hpg
 have hb:sm (Az (H.bump c.AX k)) h.ground.length=sm (Az c.AX) h.ground.length+1:=by
  unfold H.bump
  rw [LZ ok.Mj hkh];omega
 have hs:=I.sum F.vh
 have hlen:(LJ h (H.bump c.AX k)).length=h.ground.length:=H.O8
 refine ⟨⟨F.bg,?_,fun i hi=>?_⟩,h3.2,hlen,I.c0,hc,fun i hi=>?_,ok.kD,ok.day,ok.tK,?_,?_,?_,ok.ord,ok.Gi⟩
 ·show (KC c.AU k).length=_
  rw [Jf];exact ok.hol.len
 ·show 0 <= Az (KC c.AU k) i /\ Az (KC c.AU k) i <= _
  have hi':i < c.AU.length:=by
   have:i < (KC c.AU k).length:=hi
   rwa [Jf] at this
  have:=ok.hol.bd i hi'
  rw [Tq hk]
  split<;>omega
 ·refine kJ (l:=c.AU) (m:=KC c.AU k) Jf.symm (fun j hj=>?_) (ok.vK i hi)
  rw [Tq hk]
  split
  ·rename_i e;subst e;omega
  ·exact Int.le_refl _
 ·show c.cut+1=sm (Az (KC c.AU k)) (KC c.AU k).length
  rw [vJ hk,ok.cut]
 ·show sm (Az (LJ h (H.bump c.AX k))) (LJ h (H.bump c.AX k)).length+c.loaded <= c.cut+1
  have:=ok.bal
  rw [ok.Mj] at this
  rw [hlen];omega
 ·show c.Ei+Az (b.col k) (Az c.AU k).toNat=worth b (KC c.AU k)+c.loaded
  rw [jy hk hbd.1,ok.Ei];omega
theorem tJ {i m:Nat} (e:EW c i m=0):i < c.AX.length /\ m ≠ 0 /\ (m:Int) <= Az c.AX i:=by
 unfold EW at e
 split at e
 ·cases e
 ·split at e
  ·cases e
  ·split at e
   ·cases e
   ·exact ⟨by omega,by assumption,by omega⟩
theorem tH (F:Fn b h n) (ok:C8 b h n c) {i m:Nat} (e:EW c i m=0):C8 b h n (I6 c i m):=by
 obtain ⟨h1,h2,h3⟩:=tJ e
 have hl:=ok.Mj
 have ha:∀ j,Az (c.AX.set i (Az c.AX i - m)) j=if j=i then Az c.AX i - m else Az c.AX j:=fun j=>BZ h1
 refine ⟨ok.hol,ok.rt,?_,fun j hj=>?_,fun j hj=>?_,ok.vK,ok.kD,ok.day,?_,ok.cut,?_,?_,ok.ord,ok.Gi⟩
 ·show (c.AX.set i _).length=_
  rw [List.length_set];exact hl
 ·show 0 <= Az (c.AX.set i (Az c.AX i - m)) j
  rw [ha]
  have:=ok.tnn j hj
  split<;>omega
 ·show Az (c.AX.set i (Az c.AX i - m)) j < _
  rw [ha]
  have:=ok.calm j hj
  split
  ·rename_i e;subst e;omega
  ·exact this
 ·show 0 <= c.loaded+m
  have:=ok.tK;omega
 ·show sm (Az (c.AX.set i (Az c.AX i - m))) (c.AX.set i (Az c.AX i - m)).length+(c.loaded+m) <= c.cut
  rw [List.length_set,LZ rfl h1]
  have:=ok.bal;omega
 ·show c.Ei+m=worth b c.AU+(c.loaded+m)
  rw [ok.Ei];omega
theorem yg {r k:Nat} (e:GH b c r k=0):r < b.dep /\ k < b.worth.length /\ (r:Int) < Az c.AU k /\ c.F3.testBit (r * b.worth.length+k)=false:=by
 unfold GH at e
 split at e
 ·cases e
 ·split at e
  ·cases e
  ·split at e
   ·cases e
   ·rename_i h1 h2 h3
    refine ⟨by omega,by omega,by omega,by simpa using h3⟩
theorem yc (F:Fn b h n) (ok:C8 b h n c) {r k:Nat} (e:GH b c r k=0):C8 b h n (NQ b c r k):=by
 obtain ⟨h1,h2,h3,_⟩:=yg e
 refine { ok with vK:=fun i hi=>?_ }
 have hi':(c.F3 ||| 2 ^ (r * b.worth.length+k)).testBit i=true:=hi
 rw [Nat.testBit_or,Bool.or_eq_true,Nat.testBit_two_pow,decide_eq_true_eq] at hi'
 rcases hi' with h4 | h4
 ·exact ok.vK i h4
 ·subst h4
  show (PO b c.AU).testBit _=true
  rw [Y6 ok.hol (by rw [ok.hol.len];exact h2),decide_eq_true_eq];omega
theorem Tt (F:Fn b h n) (ok:C8 b h n c) (T:Tx):C8 b h n (Mx b h n c T):=by
 by_cases e:Kq b c T=0
 ·obtain ⟨o,h1,h2,h3,h4⟩:=Xi (h:=h) (n:=n) e
  have hT:=Sm h1
  rw [h4]
  obtain ⟨k,l⟩:=o
  match k,h3 with
  | 0,_=>exact A09 F ok hT h2
  | 1,h3=>exact (A06 F ok h3).more (c:=Kr b h c (l.getD 0 0)) hT h2
  | 2,h3=>exact (tH F ok h3).more (c:=I6 c (l.getD 0 0) (l.getD 1 0)) hT h2
  | 3,h3=>exact (yc F ok h3).more (c:=NQ b c (l.getD 0 0) (l.getD 1 0)) hT h2
  | k+4,_ =>
   have ok2:C8 b h n { c with shut:=true }:={ ok with }
   exact ok2.more (c:={ c with shut:=true }) hT h2
 ·rw [Tv e];exact ok
end
noncomputable def Fb (b:Bg) (h:Hp) (n:Int) (c:Cs) (l:List Tx):Cs:=l.foldl (Mx b h n) c
theorem Gm {b:Bg} {h:Hp} {n:Int} {c:Cs} {l:List Tx} {i:Nat} (hi:i < l.length):Fb b h n c (l.take (i+1))=Mx b h n (Fb b h n c (l.take i)) l[i]:=by
 unfold Fb
 rw [List.take_succ_eq_append_getElem hi,List.foldl_append];rfl
theorem sH {b:Bg} {h:Hp} {n:Int} {c:Cs} {l m:List Tx}:Fb b h n c (l ++ m)=Fb b h n (Fb b h n c l) m:=by unfold Fb;rw [List.foldl_append]
theorem Pn {b:Bg} {h:Hp} {n:Int} (F:Fn b h n):∀ (l:List Tx) {c:Cs},C8 b h n c -> C8 b h n (Fb b h n c l)
 | [],_,ok=>ok
 | T :: l,c,ok=>Pn F l (c:=Mx b h n c T) (Tt F ok T)
def r9 (b:Bg) (h:Hp) (n:Int) (c:Cs) (l:List Tx):Prop:=∀ i (hi:i < l.length),Kq b (Fb b h n c (l.take i)) l[i]=0
section
variable {b:Bg} {h:Hp} {n:Int}
theorem r9.snoc {c:Cs} {l:List Tx} {T:Tx} (o:r9 b h n c l) (e:Kq b (Fb b h n c l) T=0):r9 b h n c (l ++ [T]):=by
 intro i hi
 rcases Nat.lt_or_ge i l.length with h1 | h1
 ·rw [List.take_append_of_le_length (by omega),List.getElem_append_left h1];exact o i h1
 ·have:i=l.length:=by simp at hi;omega
  subst this
  rw [List.take_append_of_le_length (Nat.le_refl _),List.take_length,List.getElem_append_right (Nat.le_refl _)]
  simpa using e
theorem r9.take {c:Cs} {l:List Tx} (o:r9 b h n c l) (m:Nat):r9 b h n c (l.take m):=by
 intro i hi
 have hi2:i < l.length:=by simp at hi;omega
 have hi3:i < m:=by simp at hi;omega
 rw [List.take_take,Nat.min_eq_left (by omega),List.getElem_take]
 exact o i hi2
theorem r9.orders {c:Cs}:∀ {l:List Tx},r9 b h n c l -> ∀ m,m <= l.length -> (Fb b h n c (l.take m)).orders=c.orders ++ l.take m
 | l,o,0,_=>by simp [Fb]
 | l,o,m+1,hm=>by
  have ih:=r9.orders o m (by omega)
  rw [Gm (by omega),QI,if_pos (o m (by omega)),ih,List.append_assoc,<- List.take_succ_eq_append_getElem]
structure aD (b:Bg) (h:Hp) (n:Int) (c:Cs):Prop where
 ok:r9 b h n (cs0 b.worth.length) c.orders
 eq:Fb b h n (cs0 b.worth.length) c.orders=c
theorem wS:aD b h n (cs0 b.worth.length):=⟨fun i hi=>absurd hi (by simp [cs0]),rfl⟩
theorem aD.step {c:Cs} (r:aD b h n c) (T:Tx):aD b h n (Mx b h n c T):=by
 by_cases e:Kq b c T=0
 ·have ho:(Mx b h n c T).orders=c.orders ++ [T]:=by rw [QI,if_pos e]
  refine ⟨by rw [ho];exact r.ok.snoc (by rw [r.eq];exact e),?_⟩
  rw [ho,sH,r.eq];rfl
 ·rw [Tv e];exact r
theorem aD.run:∀ (l:List Tx) {c:Cs},aD b h n c -> aD b h n (Fb b h n c l)
 | [],_,r=>r
 | T :: l,c,r=>aD.run l (c:=Mx b h n c T) (r.step T)
theorem aD.part {c:Cs} (r:aD b h n c) (m:Nat):aD b h n (Fb b h n (cs0 b.worth.length) (c.orders.take m)) /\ (Fb b h n (cs0 b.worth.length) (c.orders.take m)).orders=c.orders.take m:=by
 have e:(Fb b h n (cs0 b.worth.length) (c.orders.take m)).orders=c.orders.take m:=by
  have:=(r.ok.take m).orders (m:=(c.orders.take m).length) (Nat.le_refl _)
  rw [List.take_length] at this
  rw [this];rfl
 exact ⟨⟨by rw [e];exact r.ok.take m,by rw [e]⟩,e⟩
end
section
variable {b:Bg} {h:Hp} {n:Int}
end
end Go.Ab.Tryz
namespace Go.Ab.Tryz
open Go Go.Ab Go.Proofs Go.RowKit Go.Extern.Stop Go.Stop Go.Extern
theorem A0R (t:Value) (w:World) :
  Calls Tryz.prog 100 #[.nilIface,t] w fun e w'=>e=.returned (.bool false) /\ w'=w:=by
 go_enter Tryz.func100,Tryz.ntmps100
 go_wp2
 go_ret
 exact ⟨rfl,rfl⟩
theorem aK (t:Addr) (w:World):(ReflectliteValue.unpack (.iface 135 (.pointer (some t)))).run Tryz.prog w
 =.ok (.agg #[.pointer (some ⟨9,135,none⟩),.pointer (some ⟨w.heap.size,0,none⟩),.int .u64 150]) (w.alloc (.cells #[.pointer (some t)] 135)):=by kernel_rfl
theorem rR (a:Addr) (w:World):(ReflectliteValue.methodAny (ReflectliteValue.valueError "reflectlite.Value.Type" 0) (fun t _ _ _=>ReflectliteType.toType t) #[.agg #[.pointer (some ⟨9,135,none⟩),.pointer (some a),.int .u64 150]]).run Tryz.prog w
 =.ok (.iface 210 (.agg #[.pointer (some ⟨9,135,none⟩)])) w:=by kernel_rfl
theorem tY (w:World):((ReflectliteType.abiMethod fun t=>(fun a:Nat=>Value.int IntKind.u8 (a:Int)) <$> Rtype.kind t) #[.pointer (some ⟨9,135,none⟩)]).run Tryz.prog w=.ok (.int .u8 22) w:=by kernel_rfl
theorem tZ (w:World):((ReflectliteType.abiMethod fun t=>(fun a:Nat=>Value.int IntKind.u8 (a:Int)) <$> Rtype.kind t) #[.pointer (some ⟨9,133,none⟩)]).run Tryz.prog w=.ok (.int .u8 25) w:=by kernel_rfl
theorem rlm (z:Sem Value) (f:TypeId -> Addr -> Nat -> Nat -> Sem Value) (v:Value) :
  ReflectliteValue.method z f #[v]=(do match <- ReflectliteValue.parts v with | none=>z | some (t,a,fl)=>f t a fl (fl % 32)):=rfl
theorem Yn (a:Addr) (w:World):(ReflectliteValue.parts (.agg #[.pointer (some ⟨9,135,none⟩),.pointer (some a),.int .u64 150])).run Tryz.prog w=.ok (some (135,a,150)) w:=by kernel_rfl
theorem ni (a p:Addr) (W:World) (ha:W.cell? a=some (.pointer (some p))) :
  (ReflectliteValue.method (ReflectliteValue.valueError "reflectlite.Value.IsNil" 0) ReflectliteValue.isNil #[.agg #[.pointer (some ⟨9,135,none⟩),.pointer (some a),.int .u64 150]]).run Tryz.prog W=.ok (.bool false) W:=by
 rw [rlm]
 simp only [Sem.run_bind,Yn,Result.andThen]
 simp [ReflectliteValue.isNil,loadVar,isAgg,underlying,Tryz.underlying135,ha,Result.andThen]
theorem vB (w:World):(ReflectliteType.method ReflectliteType.elem #[.agg #[.pointer (some ⟨9,135,none⟩)]]).run Tryz.prog w=.ok (.iface 210 (.agg #[.pointer (some ⟨9,133,none⟩)])) w:=by kernel_rfl
theorem Ux (w:World):(ReflectliteType.relation "Implements" ReflectliteType.implements_ #[.agg #[.pointer (some ⟨9,133,none⟩)],.iface 210 (.agg #[.pointer (some ⟨9,103,none⟩)])]).run Tryz.prog w=.ok (.bool true) w:=by kernel_rfl
theorem iX (v:Value) (w:World):(ReflectliteType.typeOf #[.iface 133 v]).run Tryz.prog w=.ok (.iface 210 (.agg #[.pointer (some ⟨9,133,none⟩)])) w:=by kernel_rfl
theorem VR (w:World):(ReflectliteType.relation "AssignableTo" ReflectliteType.assignableTo #[.agg #[.pointer (some ⟨9,133,none⟩)],.iface 210 (.agg #[.pointer (some ⟨9,133,none⟩)])]).run Tryz.prog w=.ok (.bool true) w:=by kernel_rfl
theorem aL (e:Int) (w:World):(ReflectliteValue.unpack (.iface 133 (.agg #[.int .i64 e]))).run Tryz.prog w
 =.ok (.agg #[.pointer (some ⟨9,133,none⟩),.pointer (some ⟨w.heap.size,0,none⟩),.int .u64 153]) (w.alloc (.cells #[.int .i64 e] 133)):=by kernel_rfl
theorem jr (w:World):(Rtype.elem? 135).run Tryz.prog w=.ok (some 133) w:=by kernel_rfl
theorem A2A (p:Addr) (w:World):(ReflectliteValue.mk 133 p ReflectliteValue.flagAddr).run Tryz.prog w=.ok (.agg #[.pointer (some ⟨9,133,none⟩),.pointer (some p),.int .u64 409]) w:=by kernel_rfl
theorem pX (a p:Addr) (W:World) (ha:W.cell? a=some (.pointer (some p))) :
  (ReflectliteValue.method (ReflectliteValue.valueError "reflectlite.Value.Elem" 0) ReflectliteValue.elem #[.agg #[.pointer (some ⟨9,135,none⟩),.pointer (some a),.int .u64 150]]).run Tryz.prog W
  =.ok (.agg #[.pointer (some ⟨9,133,none⟩),.pointer (some p),.int .u64 409]) W:=by
 rw [rlm]
 simp only [Sem.run_bind,Yn,Result.andThen]
 simp [ReflectliteValue.elem,loadVar,isAgg,underlying,Tryz.underlying135,ha,Result.andThen,jr,A2A]
theorem jD (a:Addr) (w:World):(ReflectliteValue.parts (.agg #[.pointer (some ⟨9,133,none⟩),.pointer (some a),.int .u64 409])).run Tryz.prog w=.ok (some (133,a,409)) w:=by kernel_rfl
theorem mg (a:Addr) (w:World):(ReflectliteValue.parts (.agg #[.pointer (some ⟨9,133,none⟩),.pointer (some a),.int .u64 153])).run Tryz.prog w=.ok (some (133,a,153)) w:=by kernel_rfl
theorem kC (w:World):(Rtype.directlyAssignable 133 133).run Tryz.prog w=.ok true w:=by kernel_rfl
theorem rls (v x:Value):ReflectliteValue.set #[v,x]=(do
  let (some (dst,a,fl),some (src,b,_)):=(<- ReflectliteValue.parts v,<- ReflectliteValue.parts x)
   | unsupported (.noEntry "extern/(internal/reflectlite.Value).Set.zeroValue")
  if fl / ReflectliteValue.flagAddr % 2 == 0 then unsupported (.noEntry "extern/(internal/reflectlite.Value).Set.unaddressable")
  let val <- loadVar src b
  if <- Rtype.directlyAssignable dst src then storeVar dst a val
  else if <- Rtype.implements dst src then
   if (<- Rtype.kind src) == 20 then
    match val with
    | .nilIface=>unsupported (.noEntry "extern/reflectlite: a nil value of one interface type handed on as a value of another")
    | _=>storeVar dst a val
   else storeVar dst a (.iface src val)
  else panicString ("reflectlite.Set: value of type " ++ (<- Rtype.spelt src) ++ " is not assignable to type " ++ (<- Rtype.spelt dst))
  pure (.tuple #[])):=rfl
theorem y9 (ta b:Addr) (e:Int) (old:Value) (W:World) (hb:W.cell? b=some (.int .i64 e)) (ht:W.cell? ta=some old) (hf:W.frozen? ta=false) :
  (ReflectliteValue.set #[.agg #[.pointer (some ⟨9,133,none⟩),.pointer (some ta),.int .u64 409],.agg #[.pointer (some ⟨9,133,none⟩),.pointer (some b),.int .u64 153]]).run Tryz.prog W
  =.ok (.tuple #[]) (W.setCell ta (.int .i64 e)):=by
 have hl:(loadVar 133 b).run Tryz.prog W=.ok (.agg #[.int .i64 e]) W:=by
  have a1:=Tryz.isAgg133
  have a2:=Tryz.sizeOf133
  simp [loadVar,a1,a2,loadCells,loadCellsFrom,hb,Result.andThen,Addr.add]
 have hs:(storeVar 133 ta (.agg #[.int .i64 e])).run Tryz.prog W=.ok () (W.setCell ta (.int .i64 e)):=by
  simp [storeVar,Value.cells,storeCells,Addr.add]
  rw [run_store Tryz.prog W ta _ _ (by rfl)]
  simp [ht,hf]
 rw [rls]
 simp only [Sem.run_bind,jD,mg,Result.andThen]
 simp [ReflectliteValue.flagAddr,hl,Result.andThen,kC,hs]
theorem bG (h:Value) (w:World):(Go.method 406 210 (.agg #[h]) "Kind").run Tryz.prog w=.ok (253,h) w:=by kernel_rfl
theorem bH (h:Value) (w:World):(Go.method 406 210 (.agg #[h]) "Elem").run Tryz.prog w=.ok (264,.agg #[h]) w:=by kernel_rfl
theorem Q0 (h:Value) (w:World):(Go.method 406 210 (.agg #[h]) "Implements").run Tryz.prog w=.ok (265,.agg #[h]) w:=by kernel_rfl
theorem NN (h:Value) (w:World):(Go.method 406 210 (.agg #[h]) "AssignableTo").run Tryz.prog w=.ok (262,.agg #[h]) w:=by kernel_rfl
set_option maxHeartbeats 4000000 in
theorem A0S (e:Int) (t:Addr) (old:Value) (w:World) (hg:w.cell? ⟨0,0,none⟩=some (.iface 210 (.agg #[.pointer (some ⟨9,103,none⟩)]))) (ht0:w.cell? t=some old) (hf0:w.frozen? t=false) :
  Calls Tryz.prog 100 #[.iface 133 (.agg #[.int .i64 e]),.iface 135 (.pointer (some t))] w fun ev w'=>ev=.returned (.bool true) /\ w'=((((w.alloc (.cells #[.pointer (some t)] 135)).alloc (.cells #[.pointer (some ⟨9,135,none⟩),.pointer (some ⟨w.heap.size,0,none⟩),.int .u64 150] 179)).alloc (.cells #[.pointer (some ⟨9,135,none⟩),.pointer (some ⟨w.heap.size,0,none⟩),.int .u64 150] 179)).alloc (.cells #[.int .i64 e] 133)).setCell t (.int .i64 e):=by
 have h6:=@run_callFunc_extern Tryz.prog 144 _ (fun args=>ReflectliteValue.unpack (args.getD 0 (.tuple #[]))) Tryz.func144 (by kernel_rfl) (by kernel_rfl) (by kernel_rfl) (by kernel_rfl)
 have h7:=@run_callFunc_extern Tryz.prog 145 _ (ReflectliteValue.methodAny (ReflectliteValue.valueError "reflectlite.Value.Type" 0) (fun t _ _ _=>ReflectliteType.toType t)) Tryz.func145 (by kernel_rfl) (by kernel_rfl) (by kernel_rfl) (by kernel_rfl)
 have h8:=@run_callFunc_extern Tryz.prog 146 _ (ReflectliteValue.method (ReflectliteValue.valueError "reflectlite.Value.IsNil" 0) ReflectliteValue.isNil) Tryz.func146 (by kernel_rfl) (by kernel_rfl) (by kernel_rfl) (by kernel_rfl)
 have h27:=@run_callFunc_extern Tryz.prog 253 _ (ReflectliteType.abiMethod fun t=>do pure (.int .u8 (<- Rtype.kind t))) Tryz.func253 (by kernel_rfl) (by kernel_rfl) (by kernel_rfl) (by kernel_rfl)
 have h37:=@run_callFunc_extern Tryz.prog 264 _ (ReflectliteType.method ReflectliteType.elem) Tryz.func264 (by kernel_rfl) (by kernel_rfl) (by kernel_rfl) (by kernel_rfl)
 have h38:=@run_callFunc_extern Tryz.prog 265 _ (ReflectliteType.relation "Implements" ReflectliteType.implements_) Tryz.func265 (by kernel_rfl) (by kernel_rfl) (by kernel_rfl) (by kernel_rfl)
 have h10:=@run_callFunc_extern Tryz.prog 175 _ ReflectliteType.typeOf Tryz.func175 (by kernel_rfl) (by kernel_rfl) (by kernel_rfl) (by kernel_rfl)
 have h35:=@run_callFunc_extern Tryz.prog 262 _ (ReflectliteType.relation "AssignableTo" ReflectliteType.assignableTo) Tryz.func262 (by kernel_rfl) (by kernel_rfl) (by kernel_rfl) (by kernel_rfl)
 have h11:=@run_callFunc_extern Tryz.prog 176 _ (ReflectliteValue.method (ReflectliteValue.valueError "reflectlite.Value.Elem" 0) ReflectliteValue.elem) Tryz.func176 (by kernel_rfl) (by kernel_rfl) (by kernel_rfl) (by kernel_rfl)
 have h12:=@run_callFunc_extern Tryz.prog 177 _ ReflectliteValue.set Tryz.func177 (by kernel_rfl) (by kernel_rfl) (by kernel_rfl) (by kernel_rfl)
 have tO:=iX
 have mA:=NN
 have a25:=VR
 have v25:=aL
 have f6:=aK
 have f7:=rR
 have mK:=bG
 have mE:=bH
 have mI:=Q0
 have k27:=tY
 have k25:=tZ
 have e27:=vB
 have i25:=Ux
 have n8:=ni ⟨w.heap.size,0,none⟩ t ((w.alloc (.cells #[.pointer (some t)] 135)).alloc (.cells #[.pointer (some ⟨9,135,none⟩),.pointer (some ⟨w.heap.size,0,none⟩),.int .u64 150] 179)) (by simp)
 have hlt:0 < w.heap.size:=by
  rcases Nat.eq_zero_or_pos w.heap.size with h0 | h
  ·simp [World.cell?,h0] at hg
  ·exact h
 have hg2:((w.alloc (.cells #[.pointer (some t)] 135)).alloc (.cells #[.pointer (some ⟨9,135,none⟩),.pointer (some ⟨w.heap.size,0,none⟩),.int .u64 150] 179)).cell? ⟨0,0,none⟩=some (.iface 210 (.agg #[.pointer (some ⟨9,103,none⟩)])):=by
  rw [World.cell?_alloc_lt _ _ ⟨0,0,none⟩ (by simp),World.cell?_alloc_lt _ _ ⟨0,0,none⟩ hlt];exact hg
 have htl:t.block < w.heap.size:=by
  rcases Nat.lt_or_ge t.block w.heap.size with h | h
  ·exact h
  ·simp [World.cell?,Array.getElem?_eq_none h] at ht0
 have el:=pX ⟨w.heap.size,0,none⟩ t (((w.alloc (.cells #[.pointer (some t)] 135)).alloc (.cells #[.pointer (some ⟨9,135,none⟩),.pointer (some ⟨w.heap.size,0,none⟩),.int .u64 150] 179)).alloc (.cells #[.pointer (some ⟨9,135,none⟩),.pointer (some ⟨w.heap.size,0,none⟩),.int .u64 150] 179)) (by rw [World.cell?_alloc_lt _ _ ⟨w.heap.size,0,none⟩ (by simp;omega)];simp)
 have st:=y9 t ⟨w.heap.size+1+1+1,0,none⟩ e old ((((w.alloc (.cells #[.pointer (some t)] 135)).alloc (.cells #[.pointer (some ⟨9,135,none⟩),.pointer (some ⟨w.heap.size,0,none⟩),.int .u64 150] 179)).alloc (.cells #[.pointer (some ⟨9,135,none⟩),.pointer (some ⟨w.heap.size,0,none⟩),.int .u64 150] 179)).alloc (.cells #[.int .i64 e] 133))
  (by rw [World.cell?_alloc_at _ _ _ _ (by simp)];rfl)
  (by rw [World.cell?_alloc_lt _ _ t (by simp;omega),World.cell?_alloc_lt _ _ t (by simp;omega),World.cell?_alloc_lt _ _ t (by simp;omega),World.cell?_alloc_lt _ _ t htl];exact ht0)
  (by rw [World.frozen?_alloc_old _ _ t (by simp;omega),World.frozen?_alloc_old _ _ t (by simp;omega),World.frozen?_alloc_old _ _ t (by simp;omega),World.frozen?_alloc_old _ _ t (Nat.ne_of_lt htl)];exact hf0)
 go_enter Tryz.func100,Tryz.ntmps100
 go_wp2
 refine wp_loop_rounds 1 ?_
 rw [rounds_succ]
 go_wp2
 go_ret
 exact ⟨rfl,rfl⟩
end Go.Ab.Tryz
namespace Go.Ab.Tryz
open Go Go.Ab Go.Proofs Go.RowKit
def Ic (e:Int):DV:=if e=0 then .nilIface else .iface 133 (.agg [.int .i64 e])
theorem en64:F8 Tryz.prog 64:=⟨_,Tryz.func64,rfl,rfl⟩
set_option maxHeartbeats 4000000 in
theorem au (w:World):Calls Tryz.prog 64 #[.nilIface] w fun e w'=>e=.returned (.int .i64 0) /\ Below w.heap.size w w':=by
 have e100:∀ args w,(callFunc 100 args).run Tryz.prog w=.ok (.enter 100 args) w:=enters_of Tryz.func100 (by kernel_rfl) rfl
 have t133:=Tryz.underlying133;have a133:=Tryz.isAgg133;have z133:=Tryz.sizeOf133;have v133:=Tryz.zeroValue133;have u133:=run_underlying Tryz.underlying133
 have t135:=Tryz.underlying135;have u135:=run_underlying Tryz.underlying135
 go_enter Tryz.func64,Tryz.ntmps64
 go_wp2_with (go_at_call 100;refine (A0R _ _).mono ?_;rintro e w' ⟨rfl,rfl⟩)
 go_ret
 exact ⟨rfl,(Below.refl w.heap.size w).alloc (Nat.le_refl _) _⟩
set_option maxHeartbeats 4000000 in
theorem ay (c:Int) (w:World) (hl:Laid w):Calls Tryz.prog 64 #[.iface 133 (.agg #[.int .i64 c])] w fun e w'=>e=.returned (.int .i64 c) /\ Below w.heap.size w w':=by
 have hg0:w.cell? ⟨0,0,none⟩=some (.iface 210 (.agg #[.pointer (some ⟨9,103,none⟩)])):=by
  obtain ⟨v,h1,h2⟩:=(hl _ (by simp [G6]:(0,[fun v=>v=Value.iface 210 (.agg #[.pointer (some ⟨9,103,none⟩)])]) ∈ G6)).2 0 _ rfl
  rw [h1,h2]
 have hlt:0 < w.heap.size:=hl.lt ⟨(0,[fun v=>v=Value.iface 210 (.agg #[.pointer (some ⟨9,103,none⟩)])]),by simp [G6],rfl⟩
 have hgA:(w.alloc (.cells #[.int .i64 0] 133)).cell? ⟨0,0,none⟩=some (.iface 210 (.agg #[.pointer (some ⟨9,103,none⟩)])):=by
  rw [World.cell?_alloc_lt _ _ ⟨0,0,none⟩ hlt];exact hg0
 have htA:(w.alloc (.cells #[.int .i64 0] 133)).cell? ⟨w.heap.size,0,none⟩=some (.int .i64 0):=by simp
 have hfA:(w.alloc (.cells #[.int .i64 0] 133)).frozen? ⟨w.heap.size,0,none⟩=false:=by simp
 have e100:∀ args w,(callFunc 100 args).run Tryz.prog w=.ok (.enter 100 args) w:=enters_of Tryz.func100 (by kernel_rfl) rfl
 have t133:=Tryz.underlying133;have a133:=Tryz.isAgg133;have z133:=Tryz.sizeOf133;have v133:=Tryz.zeroValue133;have u133:=run_underlying Tryz.underlying133
 have t135:=Tryz.underlying135;have u135:=run_underlying Tryz.underlying135
 have t39:=Tryz.underlying39;have a39:=Tryz.isAgg39;have z39:=Tryz.sizeOf39
 go_enter Tryz.func64,Tryz.ntmps64
 go_wp2_with (go_at_call 100;refine (A0S c _ (.int .i64 0) _ hgA htA hfA).mono ?_;rintro e w' ⟨rfl,rfl⟩)
 go_ret
 refine ⟨rfl,?_⟩
 refine Below.alloc ?_ (by simp<;>omega) _
 refine Below.alloc ?_ (by simp<;>omega) _
 refine Below.alloc ?_ (by simp<;>omega) _
 refine Below.alloc ?_ (by simp<;>omega) _
 exact (Below.refl w.heap.size w).alloc (Nat.le_refl _) _
theorem f64 (c:Int):AR Tryz.prog 64 [Ic c] (.one (.dv (i64 c))):=by
 refine ⟨en64,fun w vs hl ha=>?_⟩
 obtain ⟨hs,hv⟩:=ha
 have h0:=hv 0 _ rfl
 obtain ⟨v,rfl⟩:∃ v,vs=#[v]:=by
  cases vs with
  | mk l =>
   simp at hs
   match l,hs with
   | [v],_=>exact ⟨v,rfl⟩
 simp only [Array.getD_eq_getD_getElem?] at h0
 have h0':CQ w (fun _=>False) (Ic c) v:=h0
 clear h0
 unfold Ic at h0'
 by_cases hc:c=0
 ·subst hc
  rw [if_pos rfl] at h0'
  cases h0'
  exact (au w).mono fun e w' ⟨he,hb⟩=>⟨_,he,hb,NH (.int _ _)⟩
 ·rw [if_neg hc] at h0'
  cases h0' with
  | iface t d v' h1 =>
   cases h1 with
   | agg cs a hsz hh =>
    have h2:=hh 0 _ rfl
    obtain ⟨u,rfl⟩:∃ u,a=#[u]:=by
     cases a with
     | mk l =>
      simp at hsz
      match l,hsz with
      | [u],_=>exact ⟨u,rfl⟩
    have h3:u=.int .i64 c:=X5 (by simpa using h2)
    subst h3
    exact (ay c w hl).mono fun e w' ⟨he,hb⟩=>⟨_,he,hb,NH (.int _ _)⟩
end Go.Ab.Tryz
namespace Go.Ab
open Go.RowKit Go.Conc.Locks
def JM (f:FuncId) (ad:Addr):Deferred:={ target:=.fn (.func f) #[],args:=#[.pointer (some ad)] }
def wK (P:Program) (fU:FuncId) (fn:Func) (Y:qz) (w0:World) (X0 Wr:Nat -> Prop) (loc:Nat -> Option (Nat × Nat)) (a:Act) (w:World):Prop :=
 ∃ (ad:Addr) (us:List Value) (μ':Nat -> Option (Nat × Nat)),a.defers=[JM fU ad] /\ w.cell? ad=some (.int .i32 1) /\ w.frozen? ad=false ∧
  (results fn a.tmps).run P (w.setCell ad (.int .i32 0))=.ok (valOf us) (w.setCell ad (.int .i32 0)) /\ ED Wr w0 (w.setCell ad (.int .i32 0)) ∧
  aG (w.setCell ad (.int .i32 0)) (fun b=>Own Y.mem μ' b \/ X0 b) (fun b=>w0.heap.size <= b \/ Wr b) loc Y.mem μ' /\ Ao (w.setCell ad (.int .i32 0)) Y.mem μ' (fun b=>Own Y.mem μ' b \/ X0 b) Y.res us
theorem Ze {P:Program} {f:FuncId} {args:Array Value} {u:FrameMode} {w:World} {R R':Ending -> FrameMode -> World -> Prop} (h:CallsD P f args u w R) (hr:∀ e u' w',R e u' w' -> R' e u' w'):CallsD P f args u w R':=by
 intro c cs hu
 obtain ⟨e,u',w',fr,h1,h2⟩:=h c cs hu
 exact ⟨e,u',w',fr,hr _ _ _ h1,h2⟩
theorem ZT {cx:Cx} {S:St} {a:Act} {w:World} {fn:Func} {Y:qz} {e:Exit} (hgood:cx.Good) (hs:KH cx S a w) (hE:aH cx.P fn.results.toList Y e S) :
  ∃ (us:List Value) (μ':Nat -> Option (Nat × Nat)),(results fn a.tmps).run cx.P w=.ok (valOf us) w /\ ED cx.Wr cx.w0 w ∧
   aG w (fun b=>Own Y.mem μ' b \/ cx.X0 b) (fun b=>cx.w0.heap.size <= b \/ cx.Wr b) cx.loc Y.mem μ' /\ Ao w Y.mem μ' (fun b=>Own Y.mem μ' b \/ cx.X0 b) Y.res us:=by
 obtain ⟨he,ss,e1,τ,e2,e3,e4⟩:=hE
 obtain ⟨Wd,h1⟩:=hs
 obtain ⟨us,r1,r2⟩:=Lf (fn:=fn) h1 e1
 have h2:=Pp (S':=⟨fun _=>.dead,Y.mem⟩) hgood h1 (τ:=τ) (fun i=>by simp only [Aa]) e3 e4
 have hX2:∀ b,XX cx Y.mem (Bt τ Wd) b -> XX cx S.M Wd b:=by
  rintro b (⟨t',g',b',cap,f1,f2,f3⟩ | hx)
  ·have hb:=e3 t' g' b' f1
   unfold Al at hb
   unfold Bt at f3
   cases Uy:τ t' with
   | none=>rw [Uy] at f3;cases f3
   | some t =>
    rw [Uy] at hb f3
    obtain ⟨blk,q1,q2,q3,q4,q5⟩:=hb
    exact .inl ⟨t,(S.M t).1,blk,cap,by rw [<- q1],by rw [<- q4];exact f2,f3⟩
  ·exact .inr hx
 have r3:=H9 hgood h1 (M':=Y.mem) (Me e3) (X':=XX cx Y.mem (Bt τ Wd)) hX2 _ _ _ e2 r2
 exact ⟨us,Bt τ Wd,r1,h1.below,⟨h2.blk,h2.place,h2.uniq,h2.FQ⟩,r3⟩
theorem U3 {P:Program} {L:MuLink} (H:MuLib P L) (hU:F8 P L.unlock) {f:FuncId} {fn:Func} {c:Code} {args:List SV} {M0:Nat -> Nat × Option BG} {Y:qz} (hf:P.funcs[f]?=some fn) (hb:fn.body=some c) (hname:(fn.name == "runtime.NumGoroutine")=false) (hn:args.length <= fn.ntmps)
  (h:∀ cx:Cx,cx.P=P -> cx.n=fn.ntmps -> cx.Good -> cx.Lc=none -> cx.dq=[] -> (∀ a w,wK P L.unlock fn Y cx.w0 cx.X0 cx.Wr cx.loc a w -> cx.fin a w) -> Eu cx c (aH P fn.results.toList Y) ⟨lk (PY 0 args),M0⟩):Aw P f args M0 Y:=by
 refine ⟨Im hf hb hname,fun w X0 Wr loc μ vs hX hLd hLk hM hV=>calls_of_wp_defers hf hb (wpIn_wide (n:=0).1 ?_)⟩
 have hl:=hV.length
 let cx:Cx:={ P:=P,w0:=w,n:=fn.ntmps,Wr:=Wr,X0:=X0,loc:=loc,fin:=wK P L.unlock fn Y w X0 Wr loc }
 have hs:Bc cx ⟨lk (PY 0 args),M0⟩ { tmps:=vs.toArray ++ Array.replicate (fn.ntmps - vs.toArray.size) undef,defers:=[] } w μ:=by
  refine ⟨hM.blk,fun i=>?_,fun t g blk b cap e hm=>⟨.inr (hM.place t g blk b cap e hm).1,(hM.place t g blk b cap e hm).2⟩,hM.uniq,hM.FQ,ED.refl _ _,?_,rfl⟩
  ·show AO w (M0) μ _ (lk (PY 0 args) i) _
   rw [Rx]
   simp only [Nat.zero_le,if_true,Nat.sub_zero]
   rcases Nat.lt_or_ge i args.length with hi | hi
   ·have hi':i < vs.length:=by omega
    rw [List.getElem?_eq_getElem hi]
    have e:(vs.toArray ++ Array.replicate (fn.ntmps - vs.toArray.size) undef).getD i undef=vs[i]:=by simp [Array.getElem?_append_left,hi']
    rw [e]
    exact hV.get i args[i] vs[i] (by simp [hi]) (by simp [hi'])
   ·rw [List.getElem?_eq_none hi]
    trivial
  ·show (vs.toArray ++ Array.replicate (fn.ntmps - vs.toArray.size) undef).size=fn.ntmps
   rw [Array.size_append,Array.size_replicate,List.size_toArray]
   omega
 have hgood:cx.Good:=⟨hX,hLd,hLk⟩
 refine wpIn_mono (h cx rfl rfl hgood rfl rfl (fun _ _ hh=>hh) _ w ⟨_,hs⟩) ?_
 rintro e a' w' (⟨S',h1,hE⟩ | ⟨rfl,hF⟩)
 ·obtain ⟨us,μ',r1,r2,r3,r4⟩:=ZT (fn:=fn) hgood h1 hE
  have hd:a'.defers=[]:=by obtain ⟨MF,h2⟩:=h1;exact h2.defers
  rcases hE.1 with rfl | rfl<;>(show Leaves P fn a'.tmps _ a'.defers .returning w';rw [hd];exact ⟨valOf us,r1,us,μ',rfl,r2,r3,r4⟩)
 ·obtain ⟨ad,us,μ',d1,d2,d3,d4,d5,d6,d7⟩:=hF
  show Leaves P fn a'.tmps _ a'.defers .returning w'
  rw [d1]
  refine ⟨by simp,.func L.unlock,#[],L.unlock,#[.pointer (some ad)],rfl,?_,?_⟩
  ·simp only [JM,invoke]
   have:=QH hU #[.pointer (some ad)] w'
   simpa using this
  ·refine Ze (MuLone.unlock_deferred H ad .returning w' d2 d3) ?_
   rintro e u' w'' ⟨rfl,rfl,rfl⟩
   exact ⟨valOf us,d4,us,μ',rfl,d5,d6,d7⟩
section
variable {cx:Cx} {S S1:St}
theorem QK (hg:cx.Good) {ops:Array Oper} {K:St -> Prop} {Q:Exit -> Act -> World -> Prop} {n:Nat} {l2:List Oper} (hK:∀ S a w,KH cx S a w -> K S -> wpListIn cx.fence n cx.P ops Q l2 a w) :
  ∀ (l:List Oper) (S:St) (a:Act) (w:World),KH cx S a w -> Chain cx ops l S K -> wpListIn cx.fence n cx.P ops Q (l ++ l2) a w
 | [],S,a,w,h,hc=>hK S a w h hc
 | o :: l,S,a,w,h,hc=>by
  obtain ⟨S',hs,hc⟩:=hc
  rw [List.cons_append]
  unfold wpListIn
  rcases Lr hg h hs with ⟨h1,h2⟩ | ⟨h1,h2⟩
  ·rw [if_pos h1]
   refine Oper.wpIn_mono (fun a' w' h'=>?_) (h2.wpIn h n Q)
   exact QK hg hK l S' a' w' h' hc
  ·rw [if_neg (by simp [h1])]
   exact ⟨fun _ _=>trivial,QK hg hK l S' _ w h2 hc⟩
def A0Y (P:Program) (rv:List ResultVar) (Y:qz) (i off:Nat):Exit -> St -> Prop:=fun e S =>
 e=.ret /\ ∃ t g blk,S.M t=(g,some blk) /\ blk.st=i+3 /\ blk.cells[off]?=some (.dv (.int .i32 1)) /\ aH P rv Y e ⟨S.F,upd (C9 S.M) t (g,some { blk with cells:=putCells blk.cells off [.dv (.int .i32 0)] })⟩
theorem OT {l:List Value} {off:Nat} {v:Value} (h:off < l.length):(putCells l off [v]).toArray=l.toArray.setIfInBounds off v:=by
 apply Array.ext'
 simp only [putCells,List.length_singleton,Array.toList_setIfInBounds]
 rw [List.set_eq_take_append_cons_drop,if_pos h]
 simp
def dK (f:FuncId) (x:Operand) (ts:Array TypeId) (ty:TypeId) (p:String) (af:Array Edge):Oper:=⟨none,.defer { callee:=.value (.func f),args:=#[x],argTypes:=ts },ty,p,af,none⟩
theorem kP (hg:cx.Good) {P:Program} {fn:Func} {L:MuLink} {Y:qz} (hP:cx.P=P) (hrn:cx.Lc=none) (jW:cx.dq=[]) (hfin:∀ a w,wK P L.unlock fn Y cx.w0 cx.X0 cx.Wr cx.loc a w -> cx.fin a w)
  {id:Nat} {lo:List Oper} {x:Operand} {ts:Array TypeId} {ty:TypeId} {p:String} {af:Array Edge} {rest:Code} {K:Exit -> St -> Prop} {t g off:Nat} {blk:BG}
  (hch:Chain cx (lo ++ [dK L.unlock x ts ty p af]).toArray lo S fun S'=>S'=S1)
  (hx:S1.ev x=.pt t g off) (hM:S1.M t=(g,some blk)) (h3:3 <= blk.st)
  (hk:∀ JD:Cx,JD.P=P -> JD.n=cx.n -> JD.Good -> Eu JD rest (A0Y P fn.results.toList Y (blk.st - 3) off) S1) :
  Eu cx (.seq (.region id (lo ++ [dK L.unlock x ts ty p af]).toArray false) rest) K S:=by
 subst hP
 intro a w hs
 have uN:cx.fence=Fence.wide:=by unfold Cx.fence;rw [hrn];rfl
 refine wpIn_seq ?_
 refine wpIn_region_list ?_
 refine QK hg (l2:=[dK L.unlock x ts ty p af]) (fun S' a' w' hS' hE=>?_) lo S a w hs hch
 subst hE
 obtain ⟨μ,h⟩:=hS'
 have hv:=h.ev x
 rw [hx] at hv
 simp only [AO] at hv
 obtain ⟨b,cap,hm,hv⟩:=hv.2 blk hM
 have hloc:cx.loc (blk.st - 3)=some (b,cap):=by rw [<- h.FQ t g blk hM h3];exact hm
 unfold wpListIn
 rw [if_pos (by simp [Region.wanted,dK])]
 have hrun:((dK L.unlock x ts ty p af).semAt cx.fence.round a'.eval).run cx.P w'=.ok (.defer (JM L.unlock ⟨b,off,none⟩)) w':=by
  rw [uN]
  show ((dK L.unlock x ts ty p af).semAt none a'.eval).run cx.P w'=_
  rw [Oper.semAt_none]
  unfold execOp dK
  simp only [resolve]
  have hev:a'.eval (.func L.unlock)=.func (.func L.unlock) #[] #[]:=rfl
  rw [hev]
  simp [Deferred.ofValue,JM,hv]
 refine ⟨fun _ _=>by rw [uN];trivial,?_⟩
 rw [hrun,Oper.uponIn_defer]
 let JD:Cx:={ cx with dq:=[JM L.unlock ⟨b,off,none⟩] }
 have hg':JD.Good:=hg
 have hs':KH JD S' (({ a' with defers:=JM L.unlock ⟨b,off,none⟩ :: a'.defers }:Act).put none undef) w':=by
  refine ⟨μ,h.blk,h.slot,h.place,h.uniq,h.FQ,h.below,h.size,?_⟩
  show JM L.unlock ⟨b,off,none⟩ :: a'.defers=[JM L.unlock ⟨b,off,none⟩]
  rw [h.defers,jW]
 have hrest:=hk JD rfl rfl hg' _ w' hs'
 unfold wpListIn
 refine wpIn_mono hrest ?_
 rintro e a2 w2 (⟨S2,hS2,rfl,t2,g2,Zo,k1,k2,k3,k4⟩ | ⟨rfl,hF⟩)
 rotate_left
 ·exact .inr ⟨rfl,hF⟩
 refine .inr ⟨rfl,hfin _ _ ?_⟩
 obtain ⟨MF,h2⟩:=hS2
 have A2N:3 <= Zo.st:=by omega
 have hm2:MF t2=some (b,cap):=by
  rw [h2.FQ t2 g2 Zo k1 A2N,k2,Nat.add_sub_cancel]
  exact hloc
 have hb2:=h2.blk t2 g2 Zo k1
 unfold CP at hb2
 rw [hm2] at hb2
 obtain ⟨cur,q1,q2,q3,q4,q5⟩:=hb2
 have hoff:off < Zo.cells.length:=(List.getElem?_eq_some_iff.1 k3).1
 have ZH:off < cur.size:=by omega
 have hcur:cur[off]?=some cur[off]:=by simp [ZH]
 have hval:=q3 off _ _ k3 hcur
 simp only [AO] at hval
 have hcv:cur[off]?=some (.int .i32 1):=by
  rw [hcur]
  generalize cur[off]=u at hval
  cases hval
  rfl
 have hwr:=h2.write k1 (.inr A2N) hm2 q1 off [.dv (.int .i32 0)] [.int .i32 0] rfl (fun j c u hj hu=>by
  match j,hj,hu with
  | 0,hj,hu =>
   simp only [List.getElem?_cons_zero,Option.some.injEq] at hj hu
   subst hj;subst hu
   simp only [AO]
   exact .int _ _) (by simp;omega)
 rw [OT (l:=cur.toList) (by simpa using ZH),<- setCell_eq_setRow w2 b off cur Zo.elem (0,0) (.int .i32 0) q1] at hwr
 obtain ⟨us,μ',r1,r2,r3,r4⟩:=ZT (fn:=fn) hg' ⟨_,hwr⟩ k4
 refine ⟨⟨b,off,none⟩,us,μ',h2.defers,?_,frozen_of_row w2 b off cur Zo.elem q1,r1,r2,r3,r4⟩
 simp [World.cell?,q1,hcv]
end
end Go.Ab
namespace Go.Ab
open Go.RowKit
section
variable {cx:Cx} {P:Program} {N:Nat} {ops:Array Oper} {rest:List Oper} {l:List (Nat × SV)} {m:List (Nat × Nat × Option BG)} {K:St -> Prop} {d t ty t2:Nat} {p:String} {af:Array Edge} {x:Operand}
theorem JR {e:DV} (hu:∃ u,P.underlying t=some u /\ ∀ ms,u ≠ .interface ms) (kk:Chain cx ops rest ⟨lk ((d,.dv (.iface t e)) :: l),AA m⟩ K) (hx:St.ev ⟨lk l,AA m⟩ x=.dv e:=by (simp only [St.look,St.ev,lk,AA,AV,Au,Ar,reduceIte,Nat.reduceAdd,Nat.reduceEqDiff,Nat.reduceMul]<;>rfl))
  (hP:cx.P=P:=by assumption) (hn:cx.n=N:=by assumption) (hd:d < N:=by decide):Chain cx ops (⟨some d,.makeInterface t x,ty,p,af,none⟩ :: rest) ⟨lk l,AA m⟩ K:=by
 subst hP;subst hn
 refine ⟨⟨lk ((d,.dv (.iface t e)) :: l),AA m⟩,?_,kk⟩
 show Step cx ⟨lk l,AA m⟩ _ _
 refine .sem fun hg a w ⟨μ,h⟩=>Runs.does ?_
 have hv:=h.ev x
 rw [hx] at hv
 simp only [AO] at hv
 obtain ⟨u,hu1,hu2⟩:=hu
 have ha:(⟨lk l,AA m⟩:St).apply cx.n (some d) (.val (.dv (.iface t e)))=some ⟨lk ((d,.dv (.iface t e)) :: l),AA m⟩:=by
  have:=Ip (MV (r:=.dv (.iface t e)) hd ⟨lk l,AA m⟩)
  rw [this,Ky]
 refine Ca h (v:=.iface t (a.eval x)) ?_ (by simp only [AO];exact CQ.iface _ _ _ hv) ha
 have hun:(underlying t).run cx.P w=.ok u w:=run_underlying hu1 w
 unfold execOp
 simp only [Sem.run_bind]
 have:(Instr.makeInterface t (a.eval x)).run cx.P w=.ok (.iface t (a.eval x)) w:=by
  unfold Instr.makeInterface
  simp only [Sem.run_bind,hun]
  cases u<;>first | rfl | exact absurd rfl (hu2 _)
 simp only [this]
 rfl
def XK:DV -> Option Bool
 | .nilIface=>some true
 | .iface _ _=>some false
 | _=>none
theorem mR {e:DV} {c:Bool} (hu:P.underlying t=some (.interface (P.methodsAt t))) (hc:XK e=some c) (kk:Chain cx ops rest ⟨lk ((d,.dv (.bool !c)) :: l),AA m⟩ K) (hx:St.ev ⟨lk l,AA m⟩ x=.dv e:=by (simp only [St.look,St.ev,lk,AA,AV,Au,Ar,reduceIte,Nat.reduceAdd,Nat.reduceEqDiff,Nat.reduceMul]<;>rfl))
  (hP:cx.P=P:=by assumption) (hn:cx.n=N:=by assumption) (hd:d < N:=by decide):Chain cx ops (⟨some d,.binOp .neq t x (.const .nilIface) t2,ty,p,af,none⟩ :: rest) ⟨lk l,AA m⟩ K:=by
 subst hP;subst hn
 refine ⟨⟨lk ((d,.dv (.bool !c)) :: l),AA m⟩,?_,kk⟩
 show Step cx ⟨lk l,AA m⟩ _ _
 refine .sem fun hg a w ⟨μ,h⟩=>Runs.does ?_
 have hv:=h.ev x
 rw [hx] at hv
 simp only [AO] at hv
 have ha:(⟨lk l,AA m⟩:St).apply cx.n (some d) (.val (.dv (.bool !c)))=some ⟨lk ((d,.dv (.bool !c)) :: l),AA m⟩:=by
  have:=Ip (MV (r:=.dv (.bool !c)) hd ⟨lk l,AA m⟩)
  rw [this,Ky]
 refine Ca h (v:=.bool !c) ?_ (by simp only [AO];exact CQ.bool _) ha
 unfold execOp
 simp only [Sem.run_bind]
 have key:(do eqGuard .neq t x (.const .nilIface) (a.eval x) .nilIface;binOp .neq t (a.eval x) .nilIface:Sem Value).run cx.P w=.ok (.bool !c) w:=by
  generalize a.eval x=v at hv ⊢
  unfold XK at hc
  split at hc
  ·cases hc;cases hv
   have hq:eqGuard .neq t x (.const .nilIface) .nilIface .nilIface=pure ():=by cases x<;>rfl
   rw [hq]
   show (binOp .neq t .nilIface .nilIface).run cx.P w=_
   exact run_neq_nil_nil w t hu
  ·cases hc
   cases hv with
   | iface _ _ v' _ =>
    show (binOp .neq t (.iface _ v') .nilIface).run cx.P w=_
    exact run_neq_held_nil w t _ v' hu
  ·cases hc
 simp only [Sem.run_bind] at key
 have e2:a.eval (.const .nilIface)=.nilIface:=rfl
 rw [e2]
 rw [key]
 rfl
end
end Go.Ab
namespace Go.Ab
open Go.RowKit Go.Conc.Locks
def A0W:List (Nat × BG) -> List (Nat × BG) -> Prop
 | [],[]=>True
 | (t,b) :: m,(t',b') :: m'=>t'=t /\ (b'=b \/ (3 <= b.st /\ b'={ b with st:=0 })) /\ A0W m m'
 | _,_=>False
theorem JW:∀ {m m':List (Nat × BG)},A0W m m' -> ∀ t g b',Ba m' t=(g,some b') -> ∃ b,Ba m t=(g,some b) /\ (b'=b \/ (3 <= b.st /\ b'={ b with st:=0 }))
 | [],[],_,t,g,b',h=>by simp [Ba,AA] at h
 | (k,b) :: m,(k',c) :: m',ho,t,g,b',h=>by
  obtain ⟨rfl,h1,h2⟩:=ho
  simp only [Ba,List.map_cons,AA] at h ⊢
  by_cases e:t=k'
  ·rw [if_pos e] at h ⊢
   simp only [Prod.mk.injEq,Option.some.injEq] at h
   obtain ⟨rfl,rfl⟩:=h
   exact ⟨b,rfl,h1⟩
  ·rw [if_neg e] at h ⊢
   exact JW h2 t g b' h
 | [],_ :: _,h,_,_,_,_=>h.elim
 | _ :: _,[],h,_,_,_,_=>h.elim
theorem mh:∀ {m m':List (Nat × BG)} (t:Nat),(Ba m' t).1=(Ba m t).1:=by
 have h0:∀ (l:List (Nat × BG)) (t:Nat),(Ba l t).1=0:=by
  intro l t
  induction l with
  | nil=>rfl
  | cons p l ih =>
   simp only [Ba,List.map_cons,AA]
   split
   ·rfl
   ·exact ih
 intro m m' t
 rw [h0,h0]
theorem Aw.own {P:Program} {f:FuncId} {args:List SV} {M0:Nat -> Nat × Option BG} {res:List SV} {mem mem':List (Nat × BG)} (h:Aw P f args M0 ⟨res,Ba mem⟩) (ho:A0W mem mem'):Aw P f args M0 ⟨res,Ba mem'⟩:=by
 refine ⟨h.1,fun w X0 Wr loc μ vs h1 h2 h3 h4 h5=>(h.2 w X0 Wr loc μ vs h1 h2 h3 h4 h5).mono fun e w' ⟨us,μ',e1,e2,e3,e4⟩=>?_⟩
 have ow:∀ {b b':BG},(b'=b \/ (3 <= b.st /\ b'={ b with st:=0 })) -> (Dv b'.st ↔ Dv b.st):=by
  rintro b b' (rfl | ⟨q,rfl⟩)
  ·exact Iff.rfl
  ·exact ⟨fun _=>.inr q,fun _=>.inl rfl⟩
 have hX:∀ b,(Own (Ba mem') μ' b \/ X0 b) -> (Own (Ba mem) μ' b \/ X0 b):=by
  rintro b (⟨t,g,blk,cap,q1,q2,q3⟩ | hx)
  ·obtain ⟨b0,k1,k2⟩:=JW ho t g blk q1
   exact .inl ⟨t,g,b0,cap,k1,(ow k2).1 q2,q3⟩
  ·exact .inr hx
 have mono:∀ (c:SV) (v:Value),AO w' (Ba mem) μ' (fun b=>Own (Ba mem) μ' b \/ X0 b) c v -> AO w' (Ba mem') μ' (fun b=>Own (Ba mem') μ' b \/ X0 b) c v :=
  fun c v hc=>AO.mono (Nat.le_refl _) (fun b _ hx=>⟨rfl,fun hh=>hx (hX b hh)⟩) (fun t=>Nat.le_of_eq (mh (m:=mem') (m':=mem) t)) (fun t g Ay e _=>by
   obtain ⟨b0,k1,k2⟩:=JW ho t g Ay e
   exact ⟨b0,k1,rfl,by rcases k2 with rfl | ⟨_,rfl⟩<;>rfl⟩) c v hc
 refine ⟨us,μ',e1,e2,⟨fun t g blk e=>?_,fun t g blk b cap e hm=>?_,fun t g blk t' g' Ay b cap cap' hne q1 q2 q3 m1 m2=>?_,fun t g blk e h3=>?_⟩,?_⟩
 ·obtain ⟨b0,k1,k2⟩:=JW ho t g blk e
  have hb:=e3.blk t g b0 k1
  have eq:blk.cells=b0.cells /\ blk.CS=b0.CS /\ blk.elem=b0.elem /\ blk.row=b0.row:=by rcases k2 with rfl | ⟨_,rfl⟩<;>exact ⟨rfl,rfl,rfl,rfl⟩
  obtain ⟨q1,q2,q3,q4⟩:=eq
  unfold CP at hb ⊢
  cases hm:μ' t with
  | none =>
   simp only [hm] at hb ⊢
   rw [q1,q4];exact hb
  | some p =>
   obtain ⟨b,cap⟩:=p
   simp only [hm] at hb ⊢
   obtain ⟨cur,r1,r2,r3,r4,r5⟩:=hb
   refine ⟨cur,by rw [q3];exact r1,by rw [q1];exact r2,fun j c u hj hu=>?_,by rw [q4,q2];exact r4,by rw [q4,q1];exact r5⟩
   rw [q1] at hj
   exact mono c u (r3 j c u hj hu)
 ·obtain ⟨b0,k1,_⟩:=JW ho t g blk e
  exact e3.place t g b0 b cap k1 hm
 ·obtain ⟨b0,k1,k2⟩:=JW ho t g blk q1
  obtain ⟨b1,k3,k4⟩:=JW ho t' g' Ay q2
  obtain ⟨r1,r2⟩:=e3.uniq t g b0 t' g' b1 b cap cap' hne k1 k3 ((ow k2).1 q3) m1 m2
  have c1:blk.cells=b0.cells:=by rcases k2 with rfl | ⟨_,rfl⟩<;>rfl
  rcases k4 with rfl | ⟨k5,_⟩
  ·rw [c1];exact ⟨r1,r2⟩
  ·omega
 ·obtain ⟨b0,k1,k2⟩:=JW ho t g blk e
  rcases k2 with rfl | ⟨_,rfl⟩
  ·exact e3.FQ t g blk k1 h3
  ·simp at h3
 ·have:∀ (cs:List SV) (vs:List Value),Ao w' (Ba mem) μ' (fun b=>Own (Ba mem) μ' b \/ X0 b) cs vs -> Ao w' (Ba mem') μ' (fun b=>Own (Ba mem') μ' b \/ X0 b) cs vs:=by
   intro cs
   induction cs with
   | nil=>intro vs hh;cases vs<;>simp only [Ao] at hh ⊢
   | cons c cs ih =>
    intro vs hh
    cases vs with
    | nil=>simp only [Ao] at hh
    | cons v vs=>simp only [Ao] at hh ⊢;exact ⟨mono c v hh.1,ih vs hh.2⟩
  exact this _ _ e4
section
variable {cx:Cx} {P:Program} {N:Nat} {ops:Array Oper} {rest:List Oper} {l:List (Nat × SV)} {m:List (Nat × Nat × Option BG)} {K:St -> Prop} {d t ty t2:Nat} {p:String} {af:Array Edge} {x:Operand} {gd:Option (Nat × Bool)}
theorem Yl {op:BinOp} {c:Bool} (hop:(op=.eql /\ c=false) \/ (op=.neq /\ c=true)) {bt g off:Nat} {blk:BG} (hu:Lp P t=true) (hx:St.ev ⟨lk l,AA m⟩ x=.pt bt g off) (hM:AA m bt=(g,some blk)) (hP:cx.P=P) (hn:cx.n=N) (hd:d < N) :
  Step cx ⟨lk l,AA m⟩ (⟨some d,.binOp op t x (.const (.pointer none)) t2,ty,p,af,gd⟩:Oper) ⟨lk ((d,.dv (.bool c)) :: l),AA m⟩:=by
 subst hP;subst hn
 refine .sem fun hg a w ⟨μ,h⟩=>Runs.does ?_
 have hv:=h.ev x
 rw [hx] at hv
 simp only [AO] at hv
 obtain ⟨b,cap,_,hv⟩:=hv.2 blk hM
 have ha:(⟨lk l,AA m⟩:St).apply cx.n (some d) (.val (.dv (.bool c)))=some ⟨lk ((d,.dv (.bool c)) :: l),AA m⟩:=by
  have:=Ip (MV (r:=.dv (.bool c)) hd ⟨lk l,AA m⟩)
  rw [this,Ky]
 refine Ca h (v:=.bool c) ?_ (by simp only [AO];exact CQ.bool _) ha
 have hu2:∃ e,cx.P.underlying t=some (.pointer e):=by
  unfold Lp at hu
  split at hu
  ·exact ⟨_,by assumption⟩
  ·cases hu
 obtain ⟨e,hu2⟩:=hu2
 have key:=Qh hu2 x (.const (.pointer none)) (some ⟨b,off,none⟩) w
 have e2:a.eval (.const (.pointer none))=.pointer none:=rfl
 unfold execOp
 simp only [Sem.run_bind]
 rw [e2]
 rw [<- hv] at key
 rcases hop with ⟨rfl,rfl⟩ | ⟨rfl,rfl⟩
 ·have k1:=key.1
  simp only [Sem.run_bind] at k1
  rw [k1];rfl
 ·have k1:=key.2
  simp only [Sem.run_bind] at k1
  rw [k1];rfl
theorem Yi {bt g off:Nat} {blk:BG} (hu:Lp P t=true) (kk:Chain cx ops rest ⟨lk ((d,.dv (.bool false)) :: l),AA m⟩ K) (hx:St.ev ⟨lk l,AA m⟩ x=.pt bt g off:=by (simp only [St.look,St.ev,lk,AA,AV,Au,Ar,reduceIte,Nat.reduceAdd,Nat.reduceEqDiff,Nat.reduceMul]<;>rfl))
  (hM:AA m bt=(g,some blk):=by (simp only [AA,reduceIte,Nat.reduceEqDiff]<;>rfl)) (hP:cx.P=P:=by assumption) (hn:cx.n=N:=by assumption) (hd:d < N:=by decide) (hgd:Ho ops ⟨lk l,AA m⟩ gd:=by (first | exact trivial | exact ⟨_,rfl,by (simp only [lk,reduceIte,Nat.reduceEqDiff])⟩)) :
  Chain cx ops (⟨some d,.binOp .eql t x (.const (.pointer none)) t2,ty,p,af,gd⟩ :: rest) ⟨lk l,AA m⟩ K :=
 ⟨_,Gq hgd (Yl (.inl ⟨rfl,rfl⟩) hu hx hM hP hn hd),kk⟩
theorem mP {bt g off:Nat} {blk:BG} (hu:Lp P t=true) (kk:Chain cx ops rest ⟨lk ((d,.dv (.bool true)) :: l),AA m⟩ K) (hx:St.ev ⟨lk l,AA m⟩ x=.pt bt g off:=by (simp only [St.look,St.ev,lk,AA,AV,Au,Ar,reduceIte,Nat.reduceAdd,Nat.reduceEqDiff,Nat.reduceMul]<;>rfl))
  (hM:AA m bt=(g,some blk):=by (simp only [AA,reduceIte,Nat.reduceEqDiff]<;>rfl)) (hP:cx.P=P:=by assumption) (hn:cx.n=N:=by assumption) (hd:d < N:=by decide) (hgd:Ho ops ⟨lk l,AA m⟩ gd:=by (first | exact trivial | exact ⟨_,rfl,by (simp only [lk,reduceIte,Nat.reduceEqDiff])⟩)) :
  Chain cx ops (⟨some d,.binOp .neq t x (.const (.pointer none)) t2,ty,p,af,gd⟩ :: rest) ⟨lk l,AA m⟩ K :=
 ⟨_,Gq hgd (Yl (.inr ⟨rfl,rfl⟩) hu hx hM hP hn hd),kk⟩
end
section
variable {cx:Cx} {K:Exit -> St -> Prop} {S S':St}
end
end Go.Ab
namespace Go.Ab
open Go.RowKit Go.Conc.Locks
section
variable {cx:Cx} {P:Program} {N:Nat} {ops:Array Oper} {rest:List Oper} {l:List (Nat × SV)} {m m':List (Nat × Nat × Option BG)} {K:St -> Prop} {d ty:Nat} {p:String} {af:Array Edge} {x:Operand} {ts:Array TypeId}
theorem mQ {L:MuLink} (H:MuLib P L) (hU:F8 P L.lock) {t g off:Nat} {blk:BG} (kk:Chain cx ops rest ⟨lk ((d,.FR []) :: l),AA ((t,g,some { blk with cells:=putCells blk.cells off [.dv (.int .i32 1)] }) :: m')⟩ K)
  (hx:St.ev ⟨lk l,AA m⟩ x=.pt t g off:=by (simp only [St.look,St.ev,lk,AA,AV,Au,Ar,reduceIte,Nat.reduceAdd,Nat.reduceEqDiff,Nat.reduceMul]<;>rfl))
  (hM:AA m t=(g,some blk):=by (simp only [AA,reduceIte,Nat.reduceEqDiff]<;>rfl)) (hO:Dv blk.st:=by (first | exact .inl rfl | exact .inr (Nat.le_of_ble_eq_true rfl))) (h0:blk.cells[off]?=some (.dv (.int .i32 0)):=by rfl) (hv:Px m=m':=by (simp only [Px,Od]<;>rfl)) (hP:cx.P=P:=by assumption) (hn:cx.n=N:=by assumption) (hd:d < N:=by decide) :
  Chain cx ops (⟨some d,.call { callee:=.value (.func L.lock),args:=#[x],argTypes:=ts },ty,p,af,none⟩ :: rest) ⟨lk l,AA m⟩ K:=by
 subst hP;subst hn;subst hv
 refine ⟨⟨lk ((d,.FR []) :: l),AA ((t,g,some { blk with cells:=putCells blk.cells off [.dv (.int .i32 1)] }) :: Px m)⟩,?_,kk⟩
 show Step cx ⟨lk l,AA m⟩ _ _
 refine .sem fun hg a w ⟨μ,h⟩=>?_
 have hv:=h.ev x
 rw [hx] at hv
 simp only [AO] at hv
 obtain ⟨b,cap,hm,hv⟩:=hv.2 blk hM
 have hb:=h.blk t g blk hM
 unfold CP at hb
 rw [hm] at hb
 obtain ⟨cur,q1,q2,q3,q4,q5⟩:=hb
 have hoff:off < blk.cells.length:=(List.getElem?_eq_some_iff.1 h0).1
 have ZH:off < cur.size:=by omega
 have hcur:cur[off]?=some cur[off]:=by simp [ZH]
 have hval:=q3 off _ _ h0 hcur
 simp only [AO] at hval
 have hcv:cur[off]?=some (.int .i32 0):=by
  rw [hcur]
  generalize cur[off]=u at hval
  cases hval
  rfl
 intro Q
 unfold Oper.wp
 rw [Ma (f:=L.lock) (vp:=#[]) (vc:=#[]) rfl rfl hU]
 have hargs:(#[] ++ (#[x]).map a.eval ++ #[]:Array Value)=#[.pointer (some ⟨b,off,none⟩)]:=by simp [hv]
 rw [hargs]
 refine (MuLone.lock_free H ⟨b,off,none⟩ w (by simp [World.cell?,q1,hcv]) (frozen_of_row w b off cur blk.elem q1)).mono ?_
 rintro e w' ⟨rfl,rfl⟩
 have hwr:=h.write hM hO hm q1 off [.dv (.int .i32 1)] [.int .i32 1] rfl (fun j c u hj hu=>by
  match j,hj,hu with
  | 0,hj,hu =>
   simp only [List.getElem?_cons_zero,Option.some.injEq] at hj hu
   subst hj;subst hu
   simp only [AO]
   exact .int _ _) (by simp;omega)
 rw [OT (l:=cur.toList) (by simpa using ZH),<- setCell_eq_setRow w b off cur blk.elem (0,0) (.int .i32 1) q1] at hwr
 have hs:=hwr.set hd (r:=.FR []) (v:=.tuple #[]) Uk
 refine ⟨μ,?_⟩
 have e1:(⟨upd (lk l) d (.FR []),upd (C9 (AA m)) t (g,some { blk with cells:=putCells blk.cells off [.dv (.int .i32 1)] })⟩:St)=⟨lk ((d,.FR []) :: l),AA ((t,g,some { blk with cells:=putCells blk.cells off [.dv (.int .i32 1)] }) :: Px m)⟩:=by
  rw [FB,FV,Ej]
 rw [<- e1]
 exact hs
end
end Go.Ab
