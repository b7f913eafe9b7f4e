/- BogO2, BogD1, BogAs, BogRs, Ab52, Ab54, Ab55. -/
import Derived.Test.YtjcecljhjailiaaGreatDoorBogG22
import Derived.Test.YtjcecljhjailiaaGreatDoorBogG07
import Derived.Test.YtjcecljhjailiaaGreatDoorBogG12
import Derived.Test.YtjcecljhjailiaaGreatDoorBogG15
import Derived.WalkKit
import Derived.LaidEql
import Derived.Stop.Asserts
import Derived.RowKitTokens
import Derived.Test.YtjcecljhjailiaaGreatDoorBogG12
import Derived.Test.YtjcecljhjailiaaGreatDoorBogG10
import Derived.Conc.MuLone
import Derived.Laws.Tables
import Derived.Defers
import Derived.Test.YtjcecljhjailiaaGreatDoorBogG09
import Derived.WideLaws
set_option linter.all false
namespace Go.Ab.Tryz
open Go Go.Ab Go.Proofs Go.Ab.Ck Go.Ab.Gi
open Go.Ab.Heap (Az Ap BX)
open Go.Ab.Heap (Hp GX validate)
theorem f151 (b:Bg) (h:Hp) (n:Int) (c:Cs) (s:Int) (ok:Oa b c.AU):AR Tryz.prog 151 [.Cy (rR b h n c s)] (.one (.dv (i64 (GY b c.AU c.AU.length:Nat)))):=by
 have X8:=ok.bg.n6
 have hd4:=ok.bg.d4
 have hle:=ok.len
 refine Bv Tryz.func151 rfl rfl (by rw [Tryz.ntmps151];simp) fun cx hP hn hg=>?_
 rw [Tryz.ntmps151] at hn
 rw [Br,Bq]
 simp only [List.nil_append,List.append_nil,List.cons_append,BH,Nat.reduceAdd]
 refine sg ?_
 refine qv A9 ?_
 refine sg ?_
 refine qv A9 ?_
 refine AL ?_
 refine sg ?_
 refine qv A8 ?_
 refine qv CK ?_
 first | refine qv (oP GD) ?_ | refine qv (AB GD) ?_
 first | refine qv (oP Eb) ?_ | refine qv (AB Eb) ?_
 first | refine qv (Bb Av Bz) ?_ | refine qv (AQ Av Bz) ?_
 refine qv (BD Cj) ?_
 refine qv A8 ?_
 refine BI ?_
 refine Ao (ι:=Nat) (fun i=>⟨lk [(0,.dv (.Cy (rR b h n c s))),(3,.dv (i64 (GY b c.AU i:Nat))),(11,.dv (ints (c.AU))),(12,.dv (i64 ((c.AU.length:Int)))),(13,.dv (i64 (i:Nat)))],AA []⟩) (fun i=>i <= c.AU.length) (fun i=>c.AU.length - i) 0 (by simp) (tl [] (hF:=by simp [DK,AX,lk,AA,isLive,AZ,GY]) (hM:=by simp [Cm,Ar,AX,Aa,lk,AA,isLive,AZ,BO,BN,Al,BL,BP,BS,BQ,BR,GY])) ?_
 intro i BM
 refine sg ?_
 refine qv BK ?_
 refine AL ?_
 refine cd (fun hc0=>?_) (fun hc0=>?_)
 ·try simp at hc0
  refine Af ?_
  refine AL ?_
  refine BI ?_
  refine sg ?_
  have hi:i < c.AU.length:=by omega
  have hgi:=Ap hi
  have hbi:=ok.bd i hi
  obtain ⟨k,hk⟩:∃ k:Nat,Az c.AU i=k:=⟨(Az c.AU i).toNat,by omega⟩
  rw [hk] at hgi hbi
  have hb24:=cB ok i (by omega)
  refine qv A8 ?_
  first | refine qv (BF BG Aw) ?_ | refine qv (Bf BG Aw) ?_
  refine qv (Bb Aw Bw) ?_
  iterate 2 refine qv A9 ?_
  refine sg ?_
  iterate 2 refine qv A8 ?_
  refine BI ?_
  refine Ao (ι:=Nat) (fun q=>⟨lk [(0,.dv (.Cy (rR b h n c s))),(3,.dv (i64 (GY b c.AU i ||| Nb b i q:Nat))),(4,.dv (i64 (i:Nat))),(11,.dv (ints (c.AU))),(12,.dv (i64 ((c.AU.length:Int)))),(13,.dv (i64 (i:Nat))),(18,.dv (i64 ((k:Int)))),(19,.dv (i64 (q:Nat)))],AA []⟩) (fun q=>q <= k) (fun q=>k - q) 0 (by simp) (tl [] (hF:=by simp [DK,AX,lk,AA,isLive,AZ,Nb]) (hM:=by simp [Cm,Ar,AX,Aa,lk,AA,isLive,AZ,BO,BN,Al,BL,BP,BS,BQ,BR,Nb])) ?_
  intro q IL
  refine sg ?_
  refine qv BK ?_
  refine AL ?_
  refine cd (fun hc1=>?_) (fun hc1=>?_)
  ·try simp at hc1
   refine Af ?_
   refine AL ?_
   refine BI ?_
   refine sg ?_
   have hq:q < k:=by omega
   have hc24:=VP ok.bg (k:=i) (by omega) q (by omega)
   have hs24:=Sz ok.bg (r:=q) (k:=i) (by omega) (by omega)
   have ho24:=vJ hb24 hc24
   have hqs:GY b c.AU i ||| Nb b i (q+1)=(GY b c.AU i ||| Nb b i q) ||| gX b q i:=by simp only [Nb,Nat.or_assoc]
   refine qv A8 ?_
   refine qv A9 ?_
   refine rg ?_
   iterate 4 refine qv A8 ?_
   refine CF (f90 b ok.bg h n c s q i (by omega) (by omega)) ?_
   refine qv (D9 (ha:=by omega) (hb:=by omega)) ?_
   refine qv A9 ?_
   refine rg ?_
   refine qv Aq ?_
   refine qv A8 ?_
   exact ⟨q+1,hq,(by simp only;omega),(tl [] (hF:=by simp [DK,AX,lk,AA,isLive,AZ,hqs]) (hM:=by simp [Cm,Ar,AX,Aa,lk,AA,isLive,AZ,BO,BN,Al,BL,BP,BS,BQ,BR,hqs]))⟩
  ·try simp at hc1
   obtain rfl:q=k:=by omega
   have hbs:GY b c.AU (i+1)=GY b c.AU i ||| Nb b i q:=by simp only [GY];rw [hk];rfl
   refine Ai ?_
   refine rg ?_
   refine qv Aq ?_
   refine qv A8 ?_
   exact ⟨i+1,hi,(by simp only;omega),(tl [] (hF:=by simp [DK,AX,lk,AA,isLive,AZ,hbs]) (hM:=by simp [Cm,Ar,AX,Aa,lk,AA,isLive,AZ,BO,BN,Al,BL,BP,BS,BQ,BR,hbs]))⟩
 ·try simp at hc0
  refine Ai ?_
  refine sg ?_
  refine qv A8 ?_
  refine qv A9 ?_
  refine AV ?_
  obtain rfl:i=c.AU.length:=by omega
  exact x1 (hr:=(Cc))
end Go.Ab.Tryz
namespace Go.Ab.Tryz
open Go Go.Ab Go.Proofs Go.Ab.Ck Go.Ab.Gi
open Go.Ab.Heap (Az Ap BX sm QO Ci LC Du Hp GX validate I8 VH Vq Ua MZ sO QC)
def Qn (b:Bg) (n:Int):Mn:=⟨b.dep,b.worth.length,n.toNat⟩
structure Fn (b:Bg) (h:Hp) (n:Int):Prop where
 bg:Ob b
 hv:validate h=0
 len:h.ground.length=b.worth.length
 mn:(Qn b n).Ok
 mw:PD b n=(Qn b n).w
theorem Fn.vh {b:Bg} {h:Hp} {n:Int} (F:Fn b h n):VH h:=Vq F.hv
theorem JJ {b:Bg} {h:Hp} {n:Int} (e:newE b h n=0):Fn b h n:=by
 obtain ⟨h1,h2,h3,h4⟩:=Yu e
 have ok:=U6 h1
 have hv:EX (PD b n)=true:=by
  unfold valid at h4
  split at h4
  ·assumption
  ·cases h4
 obtain ⟨q,q1,q2⟩:=UO hv
 have e1:q.r=b.dep:=by have:=congrArg Mw.rows q2;simp only [PD] at this;omega
 have e2:q.c=b.worth.length:=by have:=congrArg Mw.Xn q2;simp only [PD] at this;omega
 have e3:n=q.nd:=congrArg Mw.need q2
 have e4:Qn b n=q:=by
  unfold Qn;rw [<- e1,<- e2,e3,Int.toNat_natCast]
 exact ⟨ok,h2,h3,by rw [e4];exact q1,by rw [e4];exact q2⟩
theorem Fn.e {b:Bg} {h:Hp} {n:Int} (F:Fn b h n):newE b h n=0:=by
 unfold newE
 rw [if_neg (by simp [xq F.bg]),if_neg (by simp [F.hv]),if_neg (by simp [F.len]),F.mw]
 unfold valid
 rw [aI F.mn];rfl
theorem iX {f g:Nat -> Int} {k:Nat}:∀ {n:Nat},k < n -> (∀ i,i < n -> i ≠ k -> g i=f i) -> sm g n=sm f n+(g k - f k)
 | 0,hk,_=>by omega
 | n+1,hk,he=>by
  simp only [sm]
  by_cases h:k=n
  ·subst h
   rw [Ci (f:=g) (g:=f) fun i hi=>he i (by omega) (by omega)]
   omega
  ·rw [iX (k:=k) (n:=n) (by omega) fun i hi hik=>he i (by omega) hik,he n (by omega) (by omega)]
   omega
theorem qy {l:List Int} {k:Nat} (hk:k < l.length):sm (Az (K5 l k)) (K5 l k).length=sm (Az l) l.length+1:=by
 rw [Jm]
 unfold K5
 rw [QO rfl hk];omega
theorem gD {b:Bg} {l:List Int} {k:Nat} (hk:k < l.length) (h0:0 <= Az l k):worth b (K5 l k)=worth b l+Az (b.col k) (Az l k).toNat:=by
 unfold worth L6
 rw [Jm,iX (f:=fun i=>Na b i (Az l i).toNat) (k:=k) hk]
 ·rw [RQ hk,if_pos rfl]
  have:(Az l k+1).toNat=(Az l k).toNat+1:=by omega
  rw [this]
  unfold Na
  simp only [sm];omega
 ·intro i hi hik
  rw [RQ hk,if_neg hik]
theorem bV {b:Bg} {k:Nat}:∀ (r i:Nat),(Nb b k r).testBit i=true ↔ ∃ q,q < r /\ i=q * b.worth.length+k
 | 0,i=>by simp [Nb]
 | r+1,i=>by
  rw [Nb,Nat.testBit_or,Bool.or_eq_true,bV r i,gX,Nat.testBit_two_pow,decide_eq_true_eq]
  constructor
  ·rintro (⟨q,h1,h2⟩ | h)
   ·exact ⟨q,by omega,h2⟩
   ·exact ⟨r,by omega,h.symm⟩
  ·rintro ⟨q,h1,h2⟩
   by_cases h:q=r
   ·subst h;exact .inr h2.symm
   ·exact .inl ⟨q,by omega,h2⟩
theorem KV {b:Bg} {l:List Int}:∀ (k i:Nat),(GY b l k).testBit i=true ↔ ∃ c q,c < k /\ q < (Az l c).toNat /\ i=q * b.worth.length+c
 | 0,i=>by simp [GY]
 | k+1,i=>by
  rw [GY,Nat.testBit_or,Bool.or_eq_true,KV k i,bV]
  constructor
  ·rintro (⟨c,q,h1,h2,h3⟩ | ⟨q,h1,h2⟩)
   ·exact ⟨c,q,by omega,h2,h3⟩
   ·exact ⟨k,q,by omega,h1,h2⟩
  ·rintro ⟨c,q,h1,h2,h3⟩
   by_cases h:c=k
   ·subst h;exact .inr ⟨q,h2,h3⟩
   ·exact .inl ⟨c,q,by omega,h2,h3⟩
abbrev Nl (b:Bg) (l:List Int):Nat:=GY b l l.length
theorem nu {N r c q d:Nat} (hc:c < N) (hd:d < N) (h:r * N+c=q * N+d):r=q /\ c=d:=by
 have h1:(r * N+c) / N=r:=by rw [Nat.mul_comm,Nat.mul_add_div (by omega),Nat.div_eq_of_lt hc];omega
 have h2:(q * N+d) / N=q:=by rw [Nat.mul_comm,Nat.mul_add_div (by omega),Nat.div_eq_of_lt hd];omega
 have h3:r=q:=by rw [<- h1,<- h2,h]
 subst h3
 exact ⟨rfl,by omega⟩
theorem bq {b:Bg} {l:List Int} (ok:Oa b l) {r c:Nat} (hc:c < l.length):(Nl b l).testBit (r * b.worth.length+c)=decide (r < (Az l c).toNat):=by
 rw [Bool.eq_iff_iff,KV,decide_eq_true_eq]
 constructor
 ·rintro ⟨d,q,h1,h2,h3⟩
  obtain ⟨rfl,rfl⟩:=nu (by rw [<- ok.len];exact hc) (by rw [<- ok.len];exact h1) h3
  exact h2
 ·intro h
  exact ⟨c,r,hc,h,rfl⟩
theorem Uy {n:Mn} {v:Nat}:v <= full n ↔ ∀ i,v.testBit i=true -> i < n.r * n.c:=by
 have h1:full n+1=2 ^ (n.r * n.c):=by
  have:=Nat.two_pow_pos (n.r * n.c)
  unfold full;omega
 constructor
 ·intro h i hi
  rcases Nat.lt_or_ge i (n.r * n.c) with h2 | h2
  ·exact h2
  ·have h3:v < 2 ^ i:=Nat.lt_of_lt_of_le (by omega:v < 2 ^ (n.r * n.c)) (Nat.pow_le_pow_right (by decide) h2)
   rw [Nat.testBit_lt_two_pow h3] at hi;cases hi
 ·intro h
  have:v < 2 ^ (n.r * n.c):=by
   apply Nat.lt_pow_two_of_testBit
   intro i hi
   cases hv:v.testBit i with
   | false=>rfl
   | true=>have:=h i hv;omega
  omega
theorem U7 {b:Bg} {l:List Int} (ok:Oa b l) (n:Int):Nl b l <= full (Qn b n):=Uy.2 fun i hi=>by
 obtain ⟨c,q,h1,h2,rfl⟩:=(KV _ _).1 hi
 have h3:=ok.bd c h1
 have h4:q < b.dep:=by omega
 have h5:=ok.len
 have:(q+1) * b.worth.length <= b.dep * b.worth.length:=Nat.mul_le_mul_right _ h4
 rw [Nat.add_mul] at this
 show _ < b.dep * b.worth.length
 omega
theorem gN {b:Bg} {l m:List Int} (hl:l.length=m.length) (h:∀ i,i < l.length -> Az l i <= Az m i) {i:Nat} (hi:(Nl b l).testBit i=true):(Nl b m).testBit i=true:=by
 obtain ⟨c,q,h1,h2,h3⟩:=(KV _ _).1 hi
 have:=h c h1
 exact (KV _ _).2 ⟨c,q,by omega,by omega,h3⟩
structure C9 (b:Bg) (h:Hp) (n:Int) (c:Cs):Prop where
 hol:Oa b c.AU
 rt:Ho c.AU=true
 MV:c.Ad.length=h.ground.length
 tnn:∀ i,i < h.ground.length -> 0 <= Az c.Ad i
 calm:I8 h c.Ad
 uE:∀ i,c.Gj.testBit i=true -> (Nl b c.AU).testBit i=true
 lT:0 <= c.day
 day:c.day <= c.orders.length
 vZ:0 <= c.loaded
 cut:c.cut=sm (Az c.AU) c.AU.length
 bal:sm (Az c.Ad) c.Ad.length+c.loaded <= c.cut
 EL:c.EL=worth b c.AU+c.loaded
 ord:c.orders.length <= 100
 GL:∀ T ∈ c.orders,Es T=true
section
variable {b:Bg} {h:Hp} {n:Int} {c:Cs}
theorem C9.Gj (ok:C9 b h n c) (n:Int):c.Gj <= full (Qn b n):=Uy.2 fun i hi=>Uy.1 (U7 ok.hol n) i (ok.uE i hi)
theorem C9.qA (ok:C9 b h n c):K3 b c.AU=0:=aX ok.hol.v ok.rt
theorem C9.t30 (ok:C9 b h n c) (v:VH h):H.Nq h c.Ad:=⟨ok.MV,fun i hi=>⟨ok.tnn i hi,by have:=ok.calm i hi;have:=v.jd hi;omega⟩⟩
theorem C9.chk (ok:C9 b h n c) (F:Fn b h n):H.Da h [c.Ad]=0:=H.U0 F.hv fun j a ha=>by
 match j,ha with
 | 0,ha=>cases ha;exact H.q9 (ok.t30 F.vh)
theorem C9.lV (ok:C9 b h n c):0 <= c.cut /\ c.cut <= 24:=by
 rw [ok.cut]
 have h1:=ok.hol.bg.d4
 have h2:=ok.hol.bg.n6
 have h3:=ok.hol.len
 refine ⟨Du fun i hi=>(ok.hol.bd i hi).1,?_⟩
 have:=LC (f:=Az c.AU) (g:=fun _=>4) (n:=c.AU.length) fun i hi=>by have:=ok.hol.bd i hi;omega
 rw [Go.Ab.Heap.JA] at this
 omega
theorem C9.uU (ok:C9 b h n c):0 <= sm (Az c.Ad) c.Ad.length:=Du fun i hi=>ok.tnn i (by rw [<- ok.MV];exact hi)
theorem C9.ldb (ok:C9 b h n c):c.loaded <= 24:=by have:=ok.lV;have:=ok.bal;have:=ok.uU;omega
theorem C9.oO (ok:C9 b h n c):-2000 <= c.EL /\ c.EL <= 2000:=by
 have h1:=UN ok.hol c.AU.length (Nat.le_refl _)
 have h2:=ok.hol.len
 have h3:=ok.hol.bg.n6
 have h4:=ok.ldb
 have h5:=ok.vZ
 have h6:=ok.EL
 unfold worth at h6
 omega
end
theorem J5 {b:Bg} {h:Hp} {n:Int} (F:Fn b h n):C9 b h n (cs0 b.worth.length):=by
 have e:∀ i,Az (List.replicate b.worth.length 0) i=0:=fun i=>by
  unfold Az
  rw [List.getD_eq_getElem?_getD,List.getElem?_replicate]
  split<;>rfl
 have e0:sm (Az (List.replicate b.worth.length 0)) b.worth.length=0:=by
  rw [Ci (g:=fun _=>0) fun i _=>e i,Go.Ab.Heap.JV]
 refine ⟨⟨F.bg,by simp [cs0],fun i hi=>?_⟩,WK fun c h1 h2=>?_,?_,fun i hi=>?_,fun i hi=>?_,fun i hi=>?_,?_,?_,?_,?_,?_,?_,?_,?_⟩
 ·show 0 <= Az (List.replicate b.worth.length 0) i /\ Az (List.replicate b.worth.length 0) i <= _
  rw [e];omega
 ·show gap (List.replicate b.worth.length 0) c=true
  unfold gap;rw [e,e];rfl
 ·simp [cs0,F.len]
 ·show 0 <= Az (List.replicate b.worth.length 0) i
  rw [e];omega
 ·show Az (List.replicate b.worth.length 0) i < _
  rw [e];have:=F.vh.om hi;omega
 ·simp [cs0] at hi
 ·simp [cs0]
 ·simp [cs0]
 ·simp [cs0]
 ·simp only [cs0,List.length_replicate];rw [e0]
 ·simp only [cs0,List.length_replicate];rw [e0];omega
 ·simp only [cs0]
  unfold worth L6
  rw [List.length_replicate,Ci (g:=fun _=>0) fun i _=>by rw [e];rfl,Go.Ab.Heap.JV];rfl
 ·simp [cs0]
 ·simp [cs0]
def rC (b:Bg) (n:Int) (c:Cs):Cs:={ c with day:=c.day+1,Gj:=c.Gj ||| ((c.Gj ||| nC (Qn b n) c.Gj) &&& Nl b c.AU) }
noncomputable def ZP (b:Bg) (h:Hp) (c:Cs) (k:Nat):Cs:={ c with AU:=K5 c.AU k,Ad:=Ua h (H.bump c.Ad k),EL:=c.EL+Az (b.col k) (Az c.AU k).toNat,cut:=c.cut+1 }
def G7 (b:Bg) (c:Cs) (k:Nat):Bool:=decide (0 < Az c.AU k) && c.Gj.testBit (((Az c.AU k).toNat - 1) * b.worth.length+k)
def IU (b:Bg) (c:Cs) (k:Nat):Int:=if b.worth.length <= k then 4 else if c.shut then 8 else if !Ep b c.AU k || G7 b c k then 6 else 0
def TY (c:Cs) (i m:Nat):Cs:={ c with Ad:=c.Ad.set i (Az c.Ad i - m),loaded:=c.loaded+m,EL:=c.EL+m }
def FW (c:Cs) (i m:Nat):Int:=if c.Ad.length <= i then 4 else if m=0 then 1 else if Az c.Ad i < m then 11 else 0
def eY (b:Bg) (c:Cs) (r k:Nat):Cs:={ c with Gj:=c.Gj ||| 2 ^ (r * b.worth.length+k) }
def Iz (b:Bg) (c:Cs) (r k:Nat):Int:=if b.dep <= r \/ b.worth.length <= k then 4 else if Az c.AU k <= r then 8 else if c.Gj.testBit (r * b.worth.length+k) then 5 else 0
def ZN (b:Bg) (c:Cs) (o:Nat × List Nat):Int :=
 match o.1 with
 | 0=>0
 | 1=>IU b c (o.2.getD 0 0)
 | 2=>FW c (o.2.getD 0 0) (o.2.getD 1 0)
 | 3=>Iz b c (o.2.getD 0 0) (o.2.getD 1 0)
 | _=>if c.shut then 5 else 0
noncomputable def fQ (b:Bg) (h:Hp) (n:Int) (c:Cs) (o:Nat × List Nat):Cs :=
 match o.1 with
 | 0=>rC b n c
 | 1=>ZP b h c (o.2.getD 0 0)
 | 2=>TY c (o.2.getD 0 0) (o.2.getD 1 0)
 | 3=>eY b c (o.2.getD 0 0) (o.2.getD 1 0)
 | _=>{ c with shut:=true }
def Oz (b:Bg) (c:Cs) (T:Tx):Int :=
 match CQ T with
 | none=>2
 | some o=>if 100 <= c.orders.length then 3 else ZN b c o
noncomputable def Ns (b:Bg) (h:Hp) (n:Int) (c:Cs) (T:Tx):Cs :=
 if Oz b c T=0 then { fQ b h n c ((CQ T).getD (0,[])) with orders:=c.orders ++ [T] } else c
theorem VL {b:Bg} {h:Hp} {n:Int} {c:Cs} {T:Tx} (e:Oz b c T ≠ 0):Ns b h n c T=c:=by unfold Ns;rw [if_neg e]
theorem bU {b:Bg} {h:Hp} {n:Int} {c:Cs} {T:Tx} (e:Oz b c T=0):∃ o,CQ T=some o /\ c.orders.length < 100 /\ ZN b c o=0 /\ Ns b h n c T={ fQ b h n c o with orders:=c.orders ++ [T] }:=by
 have e0:=e
 unfold Oz at e
 split at e
 ·cases e
 ·rename_i o ho
  split at e
  ·cases e
  ·rename_i hl
   refine ⟨o,ho,by omega,e,?_⟩
   unfold Ns
   rw [if_pos e0,ho];rfl
theorem Kq {b:Bg} {h:Hp} {n:Int} {c:Cs} {T:Tx}:(Ns b h n c T).orders=if Oz b c T=0 then c.orders ++ [T] else c.orders:=by
 unfold Ns
 split<;>rfl
section
variable {b:Bg} {h:Hp} {n:Int} {c:Cs}
theorem xK (F:Fn b h n) (ok:C9 b h n c) {T:Tx} (hT:Es T=true) (hl:c.orders.length < 100):C9 b h n { rC b n c with orders:=c.orders ++ [T] }:=by
 refine { ok with uE:=fun i hi=>?_,lT:=?_,day:=?_,ord:=?_,GL:=?_ }
 ·have hi':(c.Gj ||| ((c.Gj ||| nC (Qn b n) c.Gj) &&& Nl b c.AU)).testBit i=true:=hi
  rw [Nat.testBit_or,Bool.or_eq_true,Nat.testBit_and,Bool.and_eq_true] at hi'
  rcases hi' with h1 | h1
  ·exact ok.uE i h1
  ·exact h1.2
 ·show 0 <= c.day+1
  have:=ok.lT;omega
 ·show c.day+1 <= ((c.orders ++ [T]).length:Int)
  have:=ok.day;simp;omega
 ·simp;omega
 ·intro U hU
  rcases List.mem_append.1 hU with hU | hU
  ·exact ok.GL U hU
  ·simp only [List.mem_singleton] at hU;subst hU;exact hT
theorem C9.more (ok:C9 b h n c) {T:Tx} (hT:Es T=true) (hl:c.orders.length < 100):C9 b h n { c with orders:=c.orders ++ [T] }:=by
 refine { ok with day:=?_,ord:=?_,GL:=?_ }
 ·have:=ok.day;simp;omega
 ·simp;omega
 ·intro U hU
  rcases List.mem_append.1 hU with hU | hU
  ·exact ok.GL U hU
  ·simp only [List.mem_singleton] at hU;subst hU;exact hT
theorem xI {k:Nat} (e:IU b c k=0):k < b.worth.length /\ c.shut=false /\ Ep b c.AU k=true /\ G7 b c k=false:=by
 unfold IU at e
 split at e
 ·cases e
 ·split at e
  ·cases e
  ·split at e
   ·cases e
   ·rename_i h1 h2 h3
    refine ⟨by omega,by simpa using h2,?_,?_⟩
    ·cases hq:Ep b c.AU k with
     | true=>rfl
     | false=>rw [hq] at h3;simp at h3
    ·cases hq:G7 b c k with
     | false=>rfl
     | true=>rw [hq] at h3;simp at h3
theorem xE (F:Fn b h n) (ok:C9 b h n c) {k:Nat} (e:IU b c k=0):C9 b h n (ZP b h c k):=by
 obtain ⟨h1,_,h3,_⟩:=xI e
 have hk:k < c.AU.length:=by rw [ok.hol.len];exact h1
 have hkh:k < h.ground.length:=by rw [F.len];exact h1
 have hbd:=ok.hol.bd k hk
 unfold Ep at h3
 simp only [Bool.and_eq_true,decide_eq_true_eq] at h3
 have hf:=H.Y0 (ok.t30 F.vh) hkh
 obtain ⟨I,hc⟩:=MZ F.vh hf.hpg
 have hb:sm (Az (H.bump c.Ad k)) h.ground.length=sm (Az c.Ad) h.ground.length+1:=by
  unfold H.bump
  rw [QO ok.MV hkh];omega
 have hs:=I.sum F.vh
 have hlen:(Ua h (H.bump c.Ad k)).length=h.ground.length:=H.UZ
 refine ⟨⟨F.bg,?_,fun i hi=>?_⟩,h3.2,hlen,I.c0,hc,fun i hi=>?_,ok.lT,ok.day,ok.vZ,?_,?_,?_,ok.ord,ok.GL⟩
 ·show (K5 c.AU k).length=_
  rw [Jm];exact ok.hol.len
 ·show 0 <= Az (K5 c.AU k) i /\ Az (K5 c.AU k) i <= _
  have hi':i < c.AU.length:=by
   have:i < (K5 c.AU k).length:=hi
   rwa [Jm] at this
  have:=ok.hol.bd i hi'
  rw [RQ hk]
  split<;>omega
 ·refine gN (l:=c.AU) (m:=K5 c.AU k) Jm.symm (fun j hj=>?_) (ok.uE i hi)
  rw [RQ hk]
  split
  ·rename_i e;subst e;omega
  ·exact Int.le_refl _
 ·show c.cut+1=sm (Az (K5 c.AU k)) (K5 c.AU k).length
  rw [qy hk,ok.cut]
 ·show sm (Az (Ua h (H.bump c.Ad k))) (Ua h (H.bump c.Ad k)).length+c.loaded <= c.cut+1
  have:=ok.bal
  rw [ok.MV] at this
  rw [hlen];omega
 ·show c.EL+Az (b.col k) (Az c.AU k).toNat=worth b (K5 c.AU k)+c.loaded
  rw [gD hk hbd.1,ok.EL];omega
theorem oh {i m:Nat} (e:FW c i m=0):i < c.Ad.length /\ m ≠ 0 /\ (m:Int) <= Az c.Ad i:=by
 unfold FW at e
 split at e
 ·cases e
 ·split at e
  ·cases e
  ·split at e
   ·cases e
   ·exact ⟨by omega,by assumption,by omega⟩
theorem oV (F:Fn b h n) (ok:C9 b h n c) {i m:Nat} (e:FW c i m=0):C9 b h n (TY c i m):=by
 obtain ⟨h1,h2,h3⟩:=oh e
 have hl:=ok.MV
 have ha:∀ j,Az (c.Ad.set i (Az c.Ad i - m)) j=if j=i then Az c.Ad i - m else Az c.Ad j:=fun j=>BX h1
 refine ⟨ok.hol,ok.rt,?_,fun j hj=>?_,fun j hj=>?_,ok.uE,ok.lT,ok.day,?_,ok.cut,?_,?_,ok.ord,ok.GL⟩
 ·show (c.Ad.set i _).length=_
  rw [List.length_set];exact hl
 ·show 0 <= Az (c.Ad.set i (Az c.Ad i - m)) j
  rw [ha]
  have:=ok.tnn j hj
  split<;>omega
 ·show Az (c.Ad.set i (Az c.Ad i - m)) j < _
  rw [ha]
  have:=ok.calm j hj
  split
  ·rename_i e;subst e;omega
  ·exact this
 ·show 0 <= c.loaded+m
  have:=ok.vZ;omega
 ·show sm (Az (c.Ad.set i (Az c.Ad i - m))) (c.Ad.set i (Az c.Ad i - m)).length+(c.loaded+m) <= c.cut
  rw [List.length_set,QO rfl h1]
  have:=ok.bal;omega
 ·show c.EL+m=worth b c.AU+(c.loaded+m)
  rw [ok.EL];omega
theorem vw {r k:Nat} (e:Iz b c r k=0):r < b.dep /\ k < b.worth.length /\ (r:Int) < Az c.AU k /\ c.Gj.testBit (r * b.worth.length+k)=false:=by
 unfold Iz at e
 split at e
 ·cases e
 ·split at e
  ·cases e
  ·split at e
   ·cases e
   ·rename_i h1 h2 h3
    refine ⟨by omega,by omega,by omega,by simpa using h3⟩
theorem vg (F:Fn b h n) (ok:C9 b h n c) {r k:Nat} (e:Iz b c r k=0):C9 b h n (eY b c r k):=by
 obtain ⟨h1,h2,h3,_⟩:=vw e
 refine { ok with uE:=fun i hi=>?_ }
 have hi':(c.Gj ||| 2 ^ (r * b.worth.length+k)).testBit i=true:=hi
 rw [Nat.testBit_or,Bool.or_eq_true,Nat.testBit_two_pow,decide_eq_true_eq] at hi'
 rcases hi' with h4 | h4
 ·exact ok.uE i h4
 ·subst h4
  show (Nl b c.AU).testBit _=true
  rw [bq ok.hol (by rw [ok.hol.len];exact h2),decide_eq_true_eq];omega
theorem Tq (F:Fn b h n) (ok:C9 b h n c) (T:Tx):C9 b h n (Ns b h n c T):=by
 by_cases e:Oz b c T=0
 ·obtain ⟨o,h1,h2,h3,h4⟩:=bU (h:=h) (n:=n) e
  have hT:=Yo h1
  rw [h4]
  obtain ⟨k,l⟩:=o
  match k,h3 with
  | 0,_=>exact xK F ok hT h2
  | 1,h3=>exact (xE F ok h3).more (c:=ZP b h c (l.getD 0 0)) hT h2
  | 2,h3=>exact (oV F ok h3).more (c:=TY c (l.getD 0 0) (l.getD 1 0)) hT h2
  | 3,h3=>exact (vg F ok h3).more (c:=eY b c (l.getD 0 0) (l.getD 1 0)) hT h2
  | k+4,_ =>
   have ok2:C9 b h n { c with shut:=true }:={ ok with }
   exact ok2.more (c:={ c with shut:=true }) hT h2
 ·rw [VL e];exact ok
end
noncomputable def JC (b:Bg) (h:Hp) (n:Int) (c:Cs) (l:List Tx):Cs:=l.foldl (Ns b h n) c
theorem GN {b:Bg} {h:Hp} {n:Int} {c:Cs} {l:List Tx} {i:Nat} (hi:i < l.length):JC b h n c (l.take (i+1))=Ns b h n (JC b h n c (l.take i)) l[i]:=by
 unfold JC
 rw [List.take_succ_eq_append_getElem hi,List.foldl_append];rfl
theorem o7 {b:Bg} {h:Hp} {n:Int} {c:Cs} {l m:List Tx}:JC b h n c (l ++ m)=JC b h n (JC b h n c l) m:=by unfold JC;rw [List.foldl_append]
theorem JW {b:Bg} {h:Hp} {n:Int} (F:Fn b h n):∀ (l:List Tx) {c:Cs},C9 b h n c -> C9 b h n (JC b h n c l)
 | [],_,ok=>ok
 | T :: l,c,ok=>JW F l (c:=Ns b h n c T) (Tq F ok T)
def nM (b:Bg) (h:Hp) (n:Int) (c:Cs) (l:List Tx):Prop:=∀ i (hi:i < l.length),Oz b (JC b h n c (l.take i)) l[i]=0
section
variable {b:Bg} {h:Hp} {n:Int}
theorem nM.snoc {c:Cs} {l:List Tx} {T:Tx} (o:nM b h n c l) (e:Oz b (JC b h n c l) T=0):nM b h n c (l ++ [T]):=by
 intro i hi
 rcases Nat.lt_or_ge i l.length with h1 | h1
 ·rw [List.take_append_of_le_length (by omega),List.getElem_append_left h1];exact o i h1
 ·have:i=l.length:=by simp at hi;omega
  subst this
  rw [List.take_append_of_le_length (Nat.le_refl _),List.take_length,List.getElem_append_right (Nat.le_refl _)]
  simpa using e
theorem nM.take {c:Cs} {l:List Tx} (o:nM b h n c l) (m:Nat):nM b h n c (l.take m):=by
 intro i hi
 have hi2:i < l.length:=by simp at hi;omega
 have hi3:i < m:=by simp at hi;omega
 rw [List.take_take,Nat.min_eq_left (by omega),List.getElem_take]
 exact o i hi2
theorem nM.orders {c:Cs}:∀ {l:List Tx},nM b h n c l -> ∀ m,m <= l.length -> (JC b h n c (l.take m)).orders=c.orders ++ l.take m
 | l,o,0,_=>by simp [JC]
 | l,o,m+1,hm=>by
  have ih:=nM.orders o m (by omega)
  rw [GN (by omega),Kq,if_pos (o m (by omega)),ih,List.append_assoc,<- List.take_succ_eq_append_getElem]
structure UJ (b:Bg) (h:Hp) (n:Int) (c:Cs):Prop where
 ok:nM b h n (cs0 b.worth.length) c.orders
 eq:JC b h n (cs0 b.worth.length) c.orders=c
theorem jB:UJ b h n (cs0 b.worth.length):=⟨fun i hi=>absurd hi (by simp [cs0]),rfl⟩
theorem UJ.step {c:Cs} (r:UJ b h n c) (T:Tx):UJ b h n (Ns b h n c T):=by
 by_cases e:Oz b c T=0
 ·have ho:(Ns b h n c T).orders=c.orders ++ [T]:=by rw [Kq,if_pos e]
  refine ⟨by rw [ho];exact r.ok.snoc (by rw [r.eq];exact e),?_⟩
  rw [ho,o7,r.eq];rfl
 ·rw [VL e];exact r
theorem UJ.run:∀ (l:List Tx) {c:Cs},UJ b h n c -> UJ b h n (JC b h n c l)
 | [],_,r=>r
 | T :: l,c,r=>UJ.run l (c:=Ns b h n c T) (r.step T)
theorem UJ.part {c:Cs} (r:UJ b h n c) (m:Nat):UJ b h n (JC b h n (cs0 b.worth.length) (c.orders.take m)) /\ (JC b h n (cs0 b.worth.length) (c.orders.take m)).orders=c.orders.take m:=by
 have e:(JC b h n (cs0 b.worth.length) (c.orders.take m)).orders=c.orders.take m:=by
  have:=(r.ok.take m).orders (m:=(c.orders.take m).length) (Nat.le_refl _)
  rw [List.take_length] at this
  rw [this];rfl
 exact ⟨⟨by rw [e];exact r.ok.take m,by rw [e]⟩,e⟩
end
section
variable {b:Bg} {h:Hp} {n:Int}
end
end Go.Ab.Tryz
namespace Go.Ab.Tryz
open Go Go.Ab Go.Proofs Go.RowKit Go.Extern.Stop Go.Stop Go.Extern
theorem xw (t:Value) (w:World) :
  Calls Tryz.prog 100 #[.nilIface,t] w fun e w'=>e=.returned (.bool false) /\ w'=w:=by
 go_enter Tryz.func100,Tryz.ntmps100
 go_wp2
 go_ret
 exact ⟨rfl,rfl⟩
theorem YT (t:Addr) (w:World):(ReflectliteValue.unpack (.iface 135 (.pointer (some t)))).run Tryz.prog w
 =.ok (.agg #[.pointer (some ⟨9,135,none⟩),.pointer (some ⟨w.heap.size,0,none⟩),.int .u64 150]) (w.alloc (.cells #[.pointer (some t)] 135)):=by kernel_rfl
theorem nZ (a:Addr) (w:World):(ReflectliteValue.methodAny (ReflectliteValue.valueError "reflectlite.Value.Type" 0) (fun t _ _ _=>ReflectliteType.toType t) #[.agg #[.pointer (some ⟨9,135,none⟩),.pointer (some a),.int .u64 150]]).run Tryz.prog w
 =.ok (.iface 210 (.agg #[.pointer (some ⟨9,135,none⟩)])) w:=by kernel_rfl
theorem pI (w:World):((ReflectliteType.abiMethod fun t=>(fun a:Nat=>Value.int IntKind.u8 (a:Int)) <$> Rtype.kind t) #[.pointer (some ⟨9,135,none⟩)]).run Tryz.prog w=.ok (.int .u8 22) w:=by kernel_rfl
theorem pJ (w:World):((ReflectliteType.abiMethod fun t=>(fun a:Nat=>Value.int IntKind.u8 (a:Int)) <$> Rtype.kind t) #[.pointer (some ⟨9,133,none⟩)]).run Tryz.prog w=.ok (.int .u8 25) w:=by kernel_rfl
theorem rlm (z:Sem Value) (f:TypeId -> Addr -> Nat -> Nat -> Sem Value) (v:Value) :
  ReflectliteValue.method z f #[v]=(do match <- ReflectliteValue.parts v with | none=>z | some (t,a,fl)=>f t a fl (fl % 32)):=rfl
theorem WV (a:Addr) (w:World):(ReflectliteValue.parts (.agg #[.pointer (some ⟨9,135,none⟩),.pointer (some a),.int .u64 150])).run Tryz.prog w=.ok (some (135,a,150)) w:=by kernel_rfl
theorem jl (a p:Addr) (W:World) (ha:W.cell? a=some (.pointer (some p))) :
  (ReflectliteValue.method (ReflectliteValue.valueError "reflectlite.Value.IsNil" 0) ReflectliteValue.isNil #[.agg #[.pointer (some ⟨9,135,none⟩),.pointer (some a),.int .u64 150]]).run Tryz.prog W=.ok (.bool false) W:=by
 rw [rlm]
 simp only [Sem.run_bind,WV,Result.andThen]
 simp [ReflectliteValue.isNil,loadVar,isAgg,underlying,Tryz.underlying135,ha,Result.andThen]
theorem qg (w:World):(ReflectliteType.method ReflectliteType.elem #[.agg #[.pointer (some ⟨9,135,none⟩)]]).run Tryz.prog w=.ok (.iface 210 (.agg #[.pointer (some ⟨9,133,none⟩)])) w:=by kernel_rfl
theorem SS (w:World):(ReflectliteType.relation "Implements" ReflectliteType.implements_ #[.agg #[.pointer (some ⟨9,133,none⟩)],.iface 210 (.agg #[.pointer (some ⟨9,103,none⟩)])]).run Tryz.prog w=.ok (.bool true) w:=by kernel_rfl
theorem dM (v:Value) (w:World):(ReflectliteType.typeOf #[.iface 133 v]).run Tryz.prog w=.ok (.iface 210 (.agg #[.pointer (some ⟨9,133,none⟩)])) w:=by kernel_rfl
theorem Sj (w:World):(ReflectliteType.relation "AssignableTo" ReflectliteType.assignableTo #[.agg #[.pointer (some ⟨9,133,none⟩)],.iface 210 (.agg #[.pointer (some ⟨9,133,none⟩)])]).run Tryz.prog w=.ok (.bool true) w:=by kernel_rfl
theorem YU (e:Int) (w:World):(ReflectliteValue.unpack (.iface 133 (.agg #[.int .i64 e]))).run Tryz.prog w
 =.ok (.agg #[.pointer (some ⟨9,133,none⟩),.pointer (some ⟨w.heap.size,0,none⟩),.int .u64 153]) (w.alloc (.cells #[.int .i64 e] 133)):=by kernel_rfl
theorem fq (w:World):(Rtype.elem? 135).run Tryz.prog w=.ok (some 133) w:=by kernel_rfl
theorem zN (p:Addr) (w:World):(ReflectliteValue.mk 133 p ReflectliteValue.flagAddr).run Tryz.prog w=.ok (.agg #[.pointer (some ⟨9,133,none⟩),.pointer (some p),.int .u64 409]) w:=by kernel_rfl
theorem lD (a p:Addr) (W:World) (ha:W.cell? a=some (.pointer (some p))) :
  (ReflectliteValue.method (ReflectliteValue.valueError "reflectlite.Value.Elem" 0) ReflectliteValue.elem #[.agg #[.pointer (some ⟨9,135,none⟩),.pointer (some a),.int .u64 150]]).run Tryz.prog W
  =.ok (.agg #[.pointer (some ⟨9,133,none⟩),.pointer (some p),.int .u64 409]) W:=by
 rw [rlm]
 simp only [Sem.run_bind,WV,Result.andThen]
 simp [ReflectliteValue.elem,loadVar,isAgg,underlying,Tryz.underlying135,ha,Result.andThen,fq,zN]
theorem dn (a:Addr) (w:World):(ReflectliteValue.parts (.agg #[.pointer (some ⟨9,133,none⟩),.pointer (some a),.int .u64 409])).run Tryz.prog w=.ok (some (133,a,409)) w:=by kernel_rfl
theorem jH (a:Addr) (w:World):(ReflectliteValue.parts (.agg #[.pointer (some ⟨9,133,none⟩),.pointer (some a),.int .u64 153])).run Tryz.prog w=.ok (some (133,a,153)) w:=by kernel_rfl
theorem gF (w:World):(Rtype.directlyAssignable 133 133).run Tryz.prog w=.ok true w:=by kernel_rfl
theorem rls (v x:Value):ReflectliteValue.set #[v,x]=(do
  let (some (dst,a,fl),some (src,b,_)):=(<- ReflectliteValue.parts v,<- ReflectliteValue.parts x)
   | unsupported (.noEntry "extern/(internal/reflectlite.Value).Set.zeroValue")
  if fl / ReflectliteValue.flagAddr % 2 == 0 then unsupported (.noEntry "extern/(internal/reflectlite.Value).Set.unaddressable")
  let val <- loadVar src b
  if <- Rtype.directlyAssignable dst src then storeVar dst a val
  else if <- Rtype.implements dst src then
   if (<- Rtype.kind src) == 20 then
    match val with
    | .nilIface=>unsupported (.noEntry "extern/reflectlite: a nil value of one interface type handed on as a value of another")
    | _=>storeVar dst a val
   else storeVar dst a (.iface src val)
  else panicString ("reflectlite.Set: value of type " ++ (<- Rtype.spelt src) ++ " is not assignable to type " ++ (<- Rtype.spelt dst))
  pure (.tuple #[])):=rfl
theorem uj (ta b:Addr) (e:Int) (old:Value) (W:World) (hb:W.cell? b=some (.int .i64 e)) (ht:W.cell? ta=some old) (hf:W.frozen? ta=false) :
  (ReflectliteValue.set #[.agg #[.pointer (some ⟨9,133,none⟩),.pointer (some ta),.int .u64 409],.agg #[.pointer (some ⟨9,133,none⟩),.pointer (some b),.int .u64 153]]).run Tryz.prog W
  =.ok (.tuple #[]) (W.setCell ta (.int .i64 e)):=by
 have hl:(loadVar 133 b).run Tryz.prog W=.ok (.agg #[.int .i64 e]) W:=by
  have a1:=Tryz.isAgg133
  have a2:=Tryz.sizeOf133
  simp [loadVar,a1,a2,loadCells,loadCellsFrom,hb,Result.andThen,Addr.add]
 have hs:(storeVar 133 ta (.agg #[.int .i64 e])).run Tryz.prog W=.ok () (W.setCell ta (.int .i64 e)):=by
  simp [storeVar,Value.cells,storeCells,Addr.add]
  rw [run_store Tryz.prog W ta _ _ (by rfl)]
  simp [ht,hf]
 rw [rls]
 simp only [Sem.run_bind,dn,jH,Result.andThen]
 simp [ReflectliteValue.flagAddr,hl,Result.andThen,gF,hs]
theorem Yw (h:Value) (w:World):(Go.method 406 210 (.agg #[h]) "Kind").run Tryz.prog w=.ok (253,h) w:=by kernel_rfl
theorem Yx (h:Value) (w:World):(Go.method 406 210 (.agg #[h]) "Elem").run Tryz.prog w=.ok (264,.agg #[h]) w:=by kernel_rfl
theorem OB (h:Value) (w:World):(Go.method 406 210 (.agg #[h]) "Implements").run Tryz.prog w=.ok (265,.agg #[h]) w:=by kernel_rfl
theorem Lh (h:Value) (w:World):(Go.method 406 210 (.agg #[h]) "AssignableTo").run Tryz.prog w=.ok (262,.agg #[h]) w:=by kernel_rfl
set_option maxHeartbeats 4000000 in
theorem y5 (e:Int) (t:Addr) (old:Value) (w:World) (hg:w.cell? ⟨0,0,none⟩=some (.iface 210 (.agg #[.pointer (some ⟨9,103,none⟩)]))) (ht0:w.cell? t=some old) (hf0:w.frozen? t=false) :
  Calls Tryz.prog 100 #[.iface 133 (.agg #[.int .i64 e]),.iface 135 (.pointer (some t))] w fun ev w'=>ev=.returned (.bool true) /\ w'=((((w.alloc (.cells #[.pointer (some t)] 135)).alloc (.cells #[.pointer (some ⟨9,135,none⟩),.pointer (some ⟨w.heap.size,0,none⟩),.int .u64 150] 179)).alloc (.cells #[.pointer (some ⟨9,135,none⟩),.pointer (some ⟨w.heap.size,0,none⟩),.int .u64 150] 179)).alloc (.cells #[.int .i64 e] 133)).setCell t (.int .i64 e):=by
 have h6:=@run_callFunc_extern Tryz.prog 144 _ (fun args=>ReflectliteValue.unpack (args.getD 0 (.tuple #[]))) Tryz.func144 (by kernel_rfl) (by kernel_rfl) (by kernel_rfl) (by kernel_rfl)
 have h7:=@run_callFunc_extern Tryz.prog 145 _ (ReflectliteValue.methodAny (ReflectliteValue.valueError "reflectlite.Value.Type" 0) (fun t _ _ _=>ReflectliteType.toType t)) Tryz.func145 (by kernel_rfl) (by kernel_rfl) (by kernel_rfl) (by kernel_rfl)
 have h8:=@run_callFunc_extern Tryz.prog 146 _ (ReflectliteValue.method (ReflectliteValue.valueError "reflectlite.Value.IsNil" 0) ReflectliteValue.isNil) Tryz.func146 (by kernel_rfl) (by kernel_rfl) (by kernel_rfl) (by kernel_rfl)
 have h27:=@run_callFunc_extern Tryz.prog 253 _ (ReflectliteType.abiMethod fun t=>do pure (.int .u8 (<- Rtype.kind t))) Tryz.func253 (by kernel_rfl) (by kernel_rfl) (by kernel_rfl) (by kernel_rfl)
 have h37:=@run_callFunc_extern Tryz.prog 264 _ (ReflectliteType.method ReflectliteType.elem) Tryz.func264 (by kernel_rfl) (by kernel_rfl) (by kernel_rfl) (by kernel_rfl)
 have h38:=@run_callFunc_extern Tryz.prog 265 _ (ReflectliteType.relation "Implements" ReflectliteType.implements_) Tryz.func265 (by kernel_rfl) (by kernel_rfl) (by kernel_rfl) (by kernel_rfl)
 have h10:=@run_callFunc_extern Tryz.prog 175 _ ReflectliteType.typeOf Tryz.func175 (by kernel_rfl) (by kernel_rfl) (by kernel_rfl) (by kernel_rfl)
 have h35:=@run_callFunc_extern Tryz.prog 262 _ (ReflectliteType.relation "AssignableTo" ReflectliteType.assignableTo) Tryz.func262 (by kernel_rfl) (by kernel_rfl) (by kernel_rfl) (by kernel_rfl)
 have h11:=@run_callFunc_extern Tryz.prog 176 _ (ReflectliteValue.method (ReflectliteValue.valueError "reflectlite.Value.Elem" 0) ReflectliteValue.elem) Tryz.func176 (by kernel_rfl) (by kernel_rfl) (by kernel_rfl) (by kernel_rfl)
 have h12:=@run_callFunc_extern Tryz.prog 177 _ ReflectliteValue.set Tryz.func177 (by kernel_rfl) (by kernel_rfl) (by kernel_rfl) (by kernel_rfl)
 have tO:=dM
 have mA:=Lh
 have a25:=Sj
 have v25:=YU
 have f6:=YT
 have f7:=nZ
 have mK:=Yw
 have mE:=Yx
 have mI:=OB
 have k27:=pI
 have k25:=pJ
 have e27:=qg
 have i25:=SS
 have n8:=jl ⟨w.heap.size,0,none⟩ t ((w.alloc (.cells #[.pointer (some t)] 135)).alloc (.cells #[.pointer (some ⟨9,135,none⟩),.pointer (some ⟨w.heap.size,0,none⟩),.int .u64 150] 179)) (by simp)
 have hlt:0 < w.heap.size:=by
  rcases Nat.eq_zero_or_pos w.heap.size with h0 | h
  ·simp [World.cell?,h0] at hg
  ·exact h
 have hg2:((w.alloc (.cells #[.pointer (some t)] 135)).alloc (.cells #[.pointer (some ⟨9,135,none⟩),.pointer (some ⟨w.heap.size,0,none⟩),.int .u64 150] 179)).cell? ⟨0,0,none⟩=some (.iface 210 (.agg #[.pointer (some ⟨9,103,none⟩)])):=by
  rw [World.cell?_alloc_lt _ _ ⟨0,0,none⟩ (by simp),World.cell?_alloc_lt _ _ ⟨0,0,none⟩ hlt];exact hg
 have htl:t.block < w.heap.size:=by
  rcases Nat.lt_or_ge t.block w.heap.size with h | h
  ·exact h
  ·simp [World.cell?,Array.getElem?_eq_none h] at ht0
 have el:=lD ⟨w.heap.size,0,none⟩ t (((w.alloc (.cells #[.pointer (some t)] 135)).alloc (.cells #[.pointer (some ⟨9,135,none⟩),.pointer (some ⟨w.heap.size,0,none⟩),.int .u64 150] 179)).alloc (.cells #[.pointer (some ⟨9,135,none⟩),.pointer (some ⟨w.heap.size,0,none⟩),.int .u64 150] 179)) (by rw [World.cell?_alloc_lt _ _ ⟨w.heap.size,0,none⟩ (by simp;omega)];simp)
 have st:=uj t ⟨w.heap.size+1+1+1,0,none⟩ e old ((((w.alloc (.cells #[.pointer (some t)] 135)).alloc (.cells #[.pointer (some ⟨9,135,none⟩),.pointer (some ⟨w.heap.size,0,none⟩),.int .u64 150] 179)).alloc (.cells #[.pointer (some ⟨9,135,none⟩),.pointer (some ⟨w.heap.size,0,none⟩),.int .u64 150] 179)).alloc (.cells #[.int .i64 e] 133))
  (by rw [World.cell?_alloc_at _ _ _ _ (by simp)];rfl)
  (by rw [World.cell?_alloc_lt _ _ t (by simp;omega),World.cell?_alloc_lt _ _ t (by simp;omega),World.cell?_alloc_lt _ _ t (by simp;omega),World.cell?_alloc_lt _ _ t htl];exact ht0)
  (by rw [World.frozen?_alloc_old _ _ t (by simp;omega),World.frozen?_alloc_old _ _ t (by simp;omega),World.frozen?_alloc_old _ _ t (by simp;omega),World.frozen?_alloc_old _ _ t (Nat.ne_of_lt htl)];exact hf0)
 go_enter Tryz.func100,Tryz.ntmps100
 go_wp2
 refine wp_loop_rounds 1 ?_
 rw [rounds_succ]
 go_wp2
 go_ret
 exact ⟨rfl,rfl⟩
end Go.Ab.Tryz
namespace Go.Ab.Tryz
open Go Go.Ab Go.Proofs Go.RowKit
def Gt (e:Int):DV:=if e=0 then .nilIface else .iface 133 (.agg [.int .i64 e])
theorem en64:ES Tryz.prog 64:=⟨_,Tryz.func64,rfl,rfl⟩
set_option maxHeartbeats 4000000 in
theorem Yl (w:World):Calls Tryz.prog 64 #[.nilIface] w fun e w'=>e=.returned (.int .i64 0) /\ Below w.heap.size w w':=by
 have e100:∀ args w,(callFunc 100 args).run Tryz.prog w=.ok (.enter 100 args) w:=enters_of Tryz.func100 (by kernel_rfl) rfl
 have t133:=Tryz.underlying133;have a133:=Tryz.isAgg133;have z133:=Tryz.sizeOf133;have v133:=Tryz.zeroValue133;have u133:=run_underlying Tryz.underlying133
 have t135:=Tryz.underlying135;have u135:=run_underlying Tryz.underlying135
 go_enter Tryz.func64,Tryz.ntmps64
 go_wp2_with (go_at_call 100;refine (xw _ _).mono ?_;rintro e w' ⟨rfl,rfl⟩)
 go_ret
 exact ⟨rfl,(Below.refl w.heap.size w).alloc (Nat.le_refl _) _⟩
set_option maxHeartbeats 4000000 in
theorem Ym (c:Int) (w:World) (hl:Laid w):Calls Tryz.prog 64 #[.iface 133 (.agg #[.int .i64 c])] w fun e w'=>e=.returned (.int .i64 c) /\ Below w.heap.size w w':=by
 have hg0:w.cell? ⟨0,0,none⟩=some (.iface 210 (.agg #[.pointer (some ⟨9,103,none⟩)])):=by
  obtain ⟨v,h1,h2⟩:=(hl _ (by simp [FC]:(0,[fun v=>v=Value.iface 210 (.agg #[.pointer (some ⟨9,103,none⟩)])]) ∈ FC)).2 0 _ rfl
  rw [h1,h2]
 have hlt:0 < w.heap.size:=hl.lt ⟨(0,[fun v=>v=Value.iface 210 (.agg #[.pointer (some ⟨9,103,none⟩)])]),by simp [FC],rfl⟩
 have hgA:(w.alloc (.cells #[.int .i64 0] 133)).cell? ⟨0,0,none⟩=some (.iface 210 (.agg #[.pointer (some ⟨9,103,none⟩)])):=by
  rw [World.cell?_alloc_lt _ _ ⟨0,0,none⟩ hlt];exact hg0
 have htA:(w.alloc (.cells #[.int .i64 0] 133)).cell? ⟨w.heap.size,0,none⟩=some (.int .i64 0):=by simp
 have hfA:(w.alloc (.cells #[.int .i64 0] 133)).frozen? ⟨w.heap.size,0,none⟩=false:=by simp
 have e100:∀ args w,(callFunc 100 args).run Tryz.prog w=.ok (.enter 100 args) w:=enters_of Tryz.func100 (by kernel_rfl) rfl
 have t133:=Tryz.underlying133;have a133:=Tryz.isAgg133;have z133:=Tryz.sizeOf133;have v133:=Tryz.zeroValue133;have u133:=run_underlying Tryz.underlying133
 have t135:=Tryz.underlying135;have u135:=run_underlying Tryz.underlying135
 have t39:=Tryz.underlying39;have a39:=Tryz.isAgg39;have z39:=Tryz.sizeOf39
 go_enter Tryz.func64,Tryz.ntmps64
 go_wp2_with (go_at_call 100;refine (y5 c _ (.int .i64 0) _ hgA htA hfA).mono ?_;rintro e w' ⟨rfl,rfl⟩)
 go_ret
 refine ⟨rfl,?_⟩
 refine Below.alloc ?_ (by simp<;>omega) _
 refine Below.alloc ?_ (by simp<;>omega) _
 refine Below.alloc ?_ (by simp<;>omega) _
 refine Below.alloc ?_ (by simp<;>omega) _
 exact (Below.refl w.heap.size w).alloc (Nat.le_refl _) _
theorem f64 (c:Int):AR Tryz.prog 64 [Gt c] (.one (.dv (i64 c))):=by
 refine ⟨en64,fun w vs hl ha=>?_⟩
 obtain ⟨hs,hv⟩:=ha
 have h0:=hv 0 _ rfl
 obtain ⟨v,rfl⟩:∃ v,vs=#[v]:=by
  cases vs with
  | mk l =>
   simp at hs
   match l,hs with
   | [v],_=>exact ⟨v,rfl⟩
 simp only [Array.getD_eq_getD_getElem?] at h0
 have h0':Bn w (fun _=>False) (Gt c) v:=h0
 clear h0
 unfold Gt at h0'
 by_cases hc:c=0
 ·subst hc
  rw [if_pos rfl] at h0'
  cases h0'
  exact (Yl w).mono fun e w' ⟨he,hb⟩=>⟨_,he,hb,La (.int _ _)⟩
 ·rw [if_neg hc] at h0'
  cases h0' with
  | iface t d v' h1 =>
   cases h1 with
   | agg cs a hsz hh =>
    have h2:=hh 0 _ rfl
    obtain ⟨u,rfl⟩:∃ u,a=#[u]:=by
     cases a with
     | mk l =>
      simp at hsz
      match l,hsz with
      | [u],_=>exact ⟨u,rfl⟩
    have h3:u=.int .i64 c:=Un (by simpa using h2)
    subst h3
    exact (Ym c w hl).mono fun e w' ⟨he,hb⟩=>⟨_,he,hb,La (.int _ _)⟩
end Go.Ab.Tryz
namespace Go.Ab
open Go.RowKit Go.Conc.Locks
def IX (f:FuncId) (ad:Addr):Deferred:={ target:=.fn (.func f) #[],args:=#[.pointer (some ad)] }
def sQ (P:Program) (fU:FuncId) (fn:Func) (Y:nL) (w0:World) (X0 Wr:Nat -> Prop) (loc:Nat -> Option (Nat × Nat)) (a:Act) (w:World):Prop :=
 ∃ (ad:Addr) (us:List Value) (μ':Nat -> Option (Nat × Nat)),a.defers=[IX fU ad] /\ w.cell? ad=some (.int .i32 1) /\ w.frozen? ad=false ∧
  (results fn a.tmps).run P (w.setCell ad (.int .i32 0))=.ok (valOf us) (w.setCell ad (.int .i32 0)) /\ Dg Wr w0 (w.setCell ad (.int .i32 0)) ∧
  YK (w.setCell ad (.int .i32 0)) (fun b=>Own Y.mem μ' b \/ X0 b) (fun b=>w0.heap.size <= b \/ Wr b) loc Y.mem μ' /\ Ac (w.setCell ad (.int .i32 0)) Y.mem μ' (fun b=>Own Y.mem μ' b \/ X0 b) Y.res us
theorem Xw {P:Program} {f:FuncId} {args:Array Value} {u:FrameMode} {w:World} {R R':Ending -> FrameMode -> World -> Prop} (h:CallsD P f args u w R) (hr:∀ e u' w',R e u' w' -> R' e u' w'):CallsD P f args u w R':=by
 intro c cs hu
 obtain ⟨e,u',w',fr,h1,h2⟩:=h c cs hu
 exact ⟨e,u',w',fr,hr _ _ _ h1,h2⟩
theorem Xk {cx:Cx} {S:St} {a:Act} {w:World} {fn:Func} {Y:nL} {e:Exit} (hgood:cx.Good) (hs:JQ cx S a w) (hE:YL cx.P fn.results.toList Y e S) :
  ∃ (us:List Value) (μ':Nat -> Option (Nat × Nat)),(results fn a.tmps).run cx.P w=.ok (valOf us) w /\ Dg cx.Wr cx.w0 w ∧
   YK w (fun b=>Own Y.mem μ' b \/ cx.X0 b) (fun b=>cx.w0.heap.size <= b \/ cx.Wr b) cx.loc Y.mem μ' /\ Ac w Y.mem μ' (fun b=>Own Y.mem μ' b \/ cx.X0 b) Y.res us:=by
 obtain ⟨he,ss,e1,τ,e2,e3,e4⟩:=hE
 obtain ⟨UK,h1⟩:=hs
 obtain ⟨us,r1,r2⟩:=KF (fn:=fn) h1 e1
 have h2:=O6 (S':=⟨fun _=>.dead,Y.mem⟩) hgood h1 (τ:=τ) (fun i=>by simp only [AX]) e3 e4
 have hX2:∀ b,XX cx Y.mem (BU τ UK) b -> XX cx S.M UK b:=by
  rintro b (⟨t',g',b',cap,f1,f2,f3⟩ | hx)
  ·have hb:=e3 t' g' b' f1
   unfold Ar at hb
   unfold BU at f3
   cases SX:τ t' with
   | none=>rw [SX] at f3;cases f3
   | some t =>
    rw [SX] at hb f3
    obtain ⟨blk,q1,q2,q3,q4,q5⟩:=hb
    exact .inl ⟨t,(S.M t).1,blk,cap,by rw [<- q1],by rw [<- q4];exact f2,f3⟩
  ·exact .inr hx
 have r3:=Fw hgood h1 (M':=Y.mem) (Kv e3) (X':=XX cx Y.mem (BU τ UK)) hX2 _ _ _ e2 r2
 exact ⟨us,BU τ UK,r1,h1.below,⟨h2.blk,h2.place,h2.uniq,h2.Ei⟩,r3⟩
theorem Ra {P:Program} {L:MuLink} (H:MuLib P L) (hU:ES P L.unlock) {f:FuncId} {fn:Func} {c:Code} {args:List SV} {M0:Nat -> Nat × Option Au} {Y:nL} (hf:P.funcs[f]?=some fn) (hb:fn.body=some c) (hname:(fn.name == "runtime.NumGoroutine")=false) (hn:args.length <= fn.ntmps)
  (h:∀ cx:Cx,cx.P=P -> cx.n=fn.ntmps -> cx.Good -> cx.KC=none -> cx.dq=[] -> (∀ a w,sQ P L.unlock fn Y cx.w0 cx.X0 cx.Wr cx.loc a w -> cx.fin a w) -> EF cx c (YL P fn.results.toList Y) ⟨lk (Nt 0 args),M0⟩):BA P f args M0 Y:=by
 refine ⟨H9 hf hb hname,fun w X0 Wr loc μ vs hX hLd hLk hM hV=>calls_of_wp_defers hf hb (wpIn_wide (n:=0).1 ?_)⟩
 have hl:=hV.length
 let cx:Cx:={ P:=P,w0:=w,n:=fn.ntmps,Wr:=Wr,X0:=X0,loc:=loc,fin:=sQ P L.unlock fn Y w X0 Wr loc }
 have hs:BJ cx ⟨lk (Nt 0 args),M0⟩ { tmps:=vs.toArray ++ Array.replicate (fn.ntmps - vs.toArray.size) undef,defers:=[] } w μ:=by
  refine ⟨hM.blk,fun i=>?_,fun t g blk b cap e hm=>⟨.inr (hM.place t g blk b cap e hm).1,(hM.place t g blk b cap e hm).2⟩,hM.uniq,hM.Ei,Dg.refl _ _,?_,rfl⟩
  ·show AJ w (M0) μ _ (lk (Nt 0 args) i) _
   rw [Pz]
   simp only [Nat.zero_le,if_true,Nat.sub_zero]
   rcases Nat.lt_or_ge i args.length with hi | hi
   ·have hi':i < vs.length:=by omega
    rw [List.getElem?_eq_getElem hi]
    have e:(vs.toArray ++ Array.replicate (fn.ntmps - vs.toArray.size) undef).getD i undef=vs[i]:=by simp [Array.getElem?_append_left,hi']
    rw [e]
    exact hV.get i args[i] vs[i] (by simp [hi]) (by simp [hi'])
   ·rw [List.getElem?_eq_none hi]
    trivial
  ·show (vs.toArray ++ Array.replicate (fn.ntmps - vs.toArray.size) undef).size=fn.ntmps
   rw [Array.size_append,Array.size_replicate,List.size_toArray]
   omega
 have hgood:cx.Good:=⟨hX,hLd,hLk⟩
 refine wpIn_mono (h cx rfl rfl hgood rfl rfl (fun _ _ hh=>hh) _ w ⟨_,hs⟩) ?_
 rintro e a' w' (⟨S',h1,hE⟩ | ⟨rfl,hF⟩)
 ·obtain ⟨us,μ',r1,r2,r3,r4⟩:=Xk (fn:=fn) hgood h1 hE
  have hd:a'.defers=[]:=by obtain ⟨KZ,h2⟩:=h1;exact h2.defers
  rcases hE.1 with rfl | rfl<;>(show Leaves P fn a'.tmps _ a'.defers .returning w';rw [hd];exact ⟨valOf us,r1,us,μ',rfl,r2,r3,r4⟩)
 ·obtain ⟨ad,us,μ',d1,d2,d3,d4,d5,d6,d7⟩:=hF
  show Leaves P fn a'.tmps _ a'.defers .returning w'
  rw [d1]
  refine ⟨by simp,.func L.unlock,#[],L.unlock,#[.pointer (some ad)],rfl,?_,?_⟩
  ·simp only [IX,invoke]
   have:=OW hU #[.pointer (some ad)] w'
   simpa using this
  ·refine Xw (MuLone.unlock_deferred H ad .returning w' d2 d3) ?_
   rintro e u' w'' ⟨rfl,rfl,rfl⟩
   exact ⟨valOf us,d4,us,μ',rfl,d5,d6,d7⟩
section
variable {cx:Cx} {S S1:St}
theorem OX (hg:cx.Good) {ops:Array Oper} {K:St -> Prop} {Q:Exit -> Act -> World -> Prop} {n:Nat} {l2:List Oper} (hK:∀ S a w,JQ cx S a w -> K S -> wpListIn cx.fence n cx.P ops Q l2 a w) :
  ∀ (l:List Oper) (S:St) (a:Act) (w:World),JQ cx S a w -> Chain cx ops l S K -> wpListIn cx.fence n cx.P ops Q (l ++ l2) a w
 | [],S,a,w,h,hc=>hK S a w h hc
 | o :: l,S,a,w,h,hc=>by
  obtain ⟨S',hs,hc⟩:=hc
  rw [List.cons_append]
  unfold wpListIn
  rcases KP hg h hs with ⟨h1,h2⟩ | ⟨h1,h2⟩
  ·rw [if_pos h1]
   refine Oper.wpIn_mono (fun a' w' h'=>?_) (h2.wpIn h n Q)
   exact OX hg hK l S' a' w' h' hc
  ·rw [if_neg (by simp [h1])]
   exact ⟨fun _ _=>trivial,OX hg hK l S' _ w h2 hc⟩
def yC (P:Program) (rv:List ResultVar) (Y:nL) (i off:Nat):Exit -> St -> Prop:=fun e S =>
 e=.ret /\ ∃ t g blk,S.M t=(g,some blk) /\ blk.st=i+3 /\ blk.cells[off]?=some (.dv (.int .i32 1)) /\ YL P rv Y e ⟨S.F,upd (Bd S.M) t (g,some { blk with cells:=putCells blk.cells off [.dv (.int .i32 0)] })⟩
theorem Mr {l:List Value} {off:Nat} {v:Value} (h:off < l.length):(putCells l off [v]).toArray=l.toArray.setIfInBounds off v:=by
 apply Array.ext'
 simp only [putCells,List.length_singleton,Array.toList_setIfInBounds]
 rw [List.set_eq_take_append_cons_drop,if_pos h]
 simp
def ZQ (f:FuncId) (x:Operand) (ts:Array TypeId) (ty:TypeId) (p:String) (af:Array Edge):Oper:=⟨none,.defer { callee:=.value (.func f),args:=#[x],argTypes:=ts },ty,p,af,none⟩
theorem gU (hg:cx.Good) {P:Program} {fn:Func} {L:MuLink} {Y:nL} (hP:cx.P=P) (hrn:cx.KC=none) (fF:cx.dq=[]) (hfin:∀ a w,sQ P L.unlock fn Y cx.w0 cx.X0 cx.Wr cx.loc a w -> cx.fin a w)
  {id:Nat} {lo:List Oper} {x:Operand} {ts:Array TypeId} {ty:TypeId} {p:String} {af:Array Edge} {rest:Code} {K:Exit -> St -> Prop} {t g off:Nat} {blk:Au}
  (hch:Chain cx (lo ++ [ZQ L.unlock x ts ty p af]).toArray lo S fun S'=>S'=S1)
  (hx:S1.ev x=.pt t g off) (hM:S1.M t=(g,some blk)) (h3:3 <= blk.st)
  (hk:∀ I7:Cx,I7.P=P -> I7.n=cx.n -> I7.Good -> EF I7 rest (yC P fn.results.toList Y (blk.st - 3) off) S1) :
  EF cx (.seq (.region id (lo ++ [ZQ L.unlock x ts ty p af]).toArray false) rest) K S:=by
 subst hP
 intro a w hs
 have qG:cx.fence=Fence.wide:=by unfold Cx.fence;rw [hrn];rfl
 refine wpIn_seq ?_
 refine wpIn_region_list ?_
 refine OX hg (l2:=[ZQ L.unlock x ts ty p af]) (fun S' a' w' hS' hE=>?_) lo S a w hs hch
 subst hE
 obtain ⟨μ,h⟩:=hS'
 have hv:=h.ev x
 rw [hx] at hv
 simp only [AJ] at hv
 obtain ⟨b,cap,hm,hv⟩:=hv.2 blk hM
 have hloc:cx.loc (blk.st - 3)=some (b,cap):=by rw [<- h.Ei t g blk hM h3];exact hm
 unfold wpListIn
 rw [if_pos (by simp [Region.wanted,ZQ])]
 have hrun:((ZQ L.unlock x ts ty p af).semAt cx.fence.round a'.eval).run cx.P w'=.ok (.defer (IX L.unlock ⟨b,off,none⟩)) w':=by
  rw [qG]
  show ((ZQ L.unlock x ts ty p af).semAt none a'.eval).run cx.P w'=_
  rw [Oper.semAt_none]
  unfold execOp ZQ
  simp only [resolve]
  have hev:a'.eval (.func L.unlock)=.func (.func L.unlock) #[] #[]:=rfl
  rw [hev]
  simp [Deferred.ofValue,IX,hv]
 refine ⟨fun _ _=>by rw [qG];trivial,?_⟩
 rw [hrun,Oper.uponIn_defer]
 let I7:Cx:={ cx with dq:=[IX L.unlock ⟨b,off,none⟩] }
 have hg':I7.Good:=hg
 have hs':JQ I7 S' (({ a' with defers:=IX L.unlock ⟨b,off,none⟩ :: a'.defers }:Act).put none undef) w':=by
  refine ⟨μ,h.blk,h.slot,h.place,h.uniq,h.Ei,h.below,h.size,?_⟩
  show IX L.unlock ⟨b,off,none⟩ :: a'.defers=[IX L.unlock ⟨b,off,none⟩]
  rw [h.defers,fF]
 have hrest:=hk I7 rfl rfl hg' _ w' hs'
 unfold wpListIn
 refine wpIn_mono hrest ?_
 rintro e a2 w2 (⟨S2,hS2,rfl,t2,g2,Y6,k1,k2,k3,k4⟩ | ⟨rfl,hF⟩)
 rotate_left
 ·exact .inr ⟨rfl,hF⟩
 refine .inr ⟨rfl,hfin _ _ ?_⟩
 obtain ⟨KZ,h2⟩:=hS2
 have za:3 <= Y6.st:=by omega
 have hm2:KZ t2=some (b,cap):=by
  rw [h2.Ei t2 g2 Y6 k1 za,k2,Nat.add_sub_cancel]
  exact hloc
 have hb2:=h2.blk t2 g2 Y6 k1
 unfold Bt at hb2
 rw [hm2] at hb2
 obtain ⟨cur,q1,q2,q3,q4,q5⟩:=hb2
 have hoff:off < Y6.cells.length:=(List.getElem?_eq_some_iff.1 k3).1
 have X7:off < cur.size:=by omega
 have hcur:cur[off]?=some cur[off]:=by simp [X7]
 have hval:=q3 off _ _ k3 hcur
 simp only [AJ] at hval
 have hcv:cur[off]?=some (.int .i32 1):=by
  rw [hcur]
  generalize cur[off]=u at hval
  cases hval
  rfl
 have hwr:=h2.write k1 (.inr za) hm2 q1 off [.dv (.int .i32 0)] [.int .i32 0] rfl (fun j c u hj hu=>by
  match j,hj,hu with
  | 0,hj,hu =>
   simp only [List.getElem?_cons_zero,Option.some.injEq] at hj hu
   subst hj;subst hu
   simp only [AJ]
   exact .int _ _) (by simp;omega)
 rw [Mr (l:=cur.toList) (by simpa using X7),<- setCell_eq_setRow w2 b off cur Y6.elem (0,0) (.int .i32 0) q1] at hwr
 obtain ⟨us,μ',r1,r2,r3,r4⟩:=Xk (fn:=fn) hg' ⟨_,hwr⟩ k4
 refine ⟨⟨b,off,none⟩,us,μ',h2.defers,?_,frozen_of_row w2 b off cur Y6.elem q1,r1,r2,r3,r4⟩
 simp [World.cell?,q1,hcv]
end
end Go.Ab
namespace Go.Ab
open Go.RowKit
section
variable {cx:Cx} {P:Program} {N:Nat} {ops:Array Oper} {rest:List Oper} {l:List (Nat × SV)} {m:List (Nat × Nat × Option Au)} {K:St -> Prop} {d t ty t2:Nat} {p:String} {af:Array Edge} {x:Operand}
theorem Ia {e:DV} (hu:∃ u,P.underlying t=some u /\ ∀ ms,u ≠ .interface ms) (kk:Chain cx ops rest ⟨lk ((d,.dv (.iface t e)) :: l),AA m⟩ K) (hx:St.ev ⟨lk l,AA m⟩ x=.dv e:=by (simp only [St.look,St.ev,lk,AA,AO,Ah,Ag,reduceIte,Nat.reduceAdd,Nat.reduceEqDiff,Nat.reduceMul]<;>rfl))
  (hP:cx.P=P:=by assumption) (hn:cx.n=N:=by assumption) (hd:d < N:=by decide):Chain cx ops (⟨some d,.makeInterface t x,ty,p,af,none⟩ :: rest) ⟨lk l,AA m⟩ K:=by
 subst hP;subst hn
 refine ⟨⟨lk ((d,.dv (.iface t e)) :: l),AA m⟩,?_,kk⟩
 show Step cx ⟨lk l,AA m⟩ _ _
 refine .sem fun hg a w ⟨μ,h⟩=>Runs.does ?_
 have hv:=h.ev x
 rw [hx] at hv
 simp only [AJ] at hv
 obtain ⟨u,hu1,hu2⟩:=hu
 have ha:(⟨lk l,AA m⟩:St).apply cx.n (some d) (.val (.dv (.iface t e)))=some ⟨lk ((d,.dv (.iface t e)) :: l),AA m⟩:=by
  have:=HY (Ko (r:=.dv (.iface t e)) hd ⟨lk l,AA m⟩)
  rw [this,Jp]
 refine CX h (v:=.iface t (a.eval x)) ?_ (by simp only [AJ];exact Bn.iface _ _ _ hv) ha
 have hun:(underlying t).run cx.P w=.ok u w:=run_underlying hu1 w
 unfold execOp
 simp only [Sem.run_bind]
 have:(Instr.makeInterface t (a.eval x)).run cx.P w=.ok (.iface t (a.eval x)) w:=by
  unfold Instr.makeInterface
  simp only [Sem.run_bind,hun]
  cases u<;>first | rfl | exact absurd rfl (hu2 _)
 simp only [this]
 rfl
def V5:DV -> Option Bool
 | .nilIface=>some true
 | .iface _ _=>some false
 | _=>none
theorem jE {e:DV} {c:Bool} (hu:P.underlying t=some (.interface (P.methodsAt t))) (hc:V5 e=some c) (kk:Chain cx ops rest ⟨lk ((d,.dv (.bool !c)) :: l),AA m⟩ K) (hx:St.ev ⟨lk l,AA m⟩ x=.dv e:=by (simp only [St.look,St.ev,lk,AA,AO,Ah,Ag,reduceIte,Nat.reduceAdd,Nat.reduceEqDiff,Nat.reduceMul]<;>rfl))
  (hP:cx.P=P:=by assumption) (hn:cx.n=N:=by assumption) (hd:d < N:=by decide):Chain cx ops (⟨some d,.binOp .neq t x (.const .nilIface) t2,ty,p,af,none⟩ :: rest) ⟨lk l,AA m⟩ K:=by
 subst hP;subst hn
 refine ⟨⟨lk ((d,.dv (.bool !c)) :: l),AA m⟩,?_,kk⟩
 show Step cx ⟨lk l,AA m⟩ _ _
 refine .sem fun hg a w ⟨μ,h⟩=>Runs.does ?_
 have hv:=h.ev x
 rw [hx] at hv
 simp only [AJ] at hv
 have ha:(⟨lk l,AA m⟩:St).apply cx.n (some d) (.val (.dv (.bool !c)))=some ⟨lk ((d,.dv (.bool !c)) :: l),AA m⟩:=by
  have:=HY (Ko (r:=.dv (.bool !c)) hd ⟨lk l,AA m⟩)
  rw [this,Jp]
 refine CX h (v:=.bool !c) ?_ (by simp only [AJ];exact Bn.bool _) ha
 unfold execOp
 simp only [Sem.run_bind]
 have key:(do eqGuard .neq t x (.const .nilIface) (a.eval x) .nilIface;binOp .neq t (a.eval x) .nilIface:Sem Value).run cx.P w=.ok (.bool !c) w:=by
  generalize a.eval x=v at hv ⊢
  unfold V5 at hc
  split at hc
  ·cases hc;cases hv
   have hq:eqGuard .neq t x (.const .nilIface) .nilIface .nilIface=pure ():=by cases x<;>rfl
   rw [hq]
   show (binOp .neq t .nilIface .nilIface).run cx.P w=_
   exact run_neq_nil_nil w t hu
  ·cases hc
   cases hv with
   | iface _ _ v' _ =>
    show (binOp .neq t (.iface _ v') .nilIface).run cx.P w=_
    exact run_neq_held_nil w t _ v' hu
  ·cases hc
 simp only [Sem.run_bind] at key
 have e2:a.eval (.const .nilIface)=.nilIface:=rfl
 rw [e2]
 rw [key]
 rfl
end
end Go.Ab
namespace Go.Ab
open Go.RowKit Go.Conc.Locks
def yA:List (Nat × Au) -> List (Nat × Au) -> Prop
 | [],[]=>True
 | (t,b) :: m,(t',b') :: m'=>t'=t /\ (b'=b \/ (3 <= b.st /\ b'={ b with st:=0 })) /\ yA m m'
 | _,_=>False
theorem Ic:∀ {m m':List (Nat × Au)},yA m m' -> ∀ t g b',Bj m' t=(g,some b') -> ∃ b,Bj m t=(g,some b) /\ (b'=b \/ (3 <= b.st /\ b'={ b with st:=0 }))
 | [],[],_,t,g,b',h=>by simp [Bj,AA] at h
 | (k,b) :: m,(k',c) :: m',ho,t,g,b',h=>by
  obtain ⟨rfl,h1,h2⟩:=ho
  simp only [Bj,List.map_cons,AA] at h ⊢
  by_cases e:t=k'
  ·rw [if_pos e] at h ⊢
   simp only [Prod.mk.injEq,Option.some.injEq] at h
   obtain ⟨rfl,rfl⟩:=h
   exact ⟨b,rfl,h1⟩
  ·rw [if_neg e] at h ⊢
   exact Ic h2 t g b' h
 | [],_ :: _,h,_,_,_,_=>h.elim
 | _ :: _,[],h,_,_,_,_=>h.elim
theorem jI:∀ {m m':List (Nat × Au)} (t:Nat),(Bj m' t).1=(Bj m t).1:=by
 have h0:∀ (l:List (Nat × Au)) (t:Nat),(Bj l t).1=0:=by
  intro l t
  induction l with
  | nil=>rfl
  | cons p l ih =>
   simp only [Bj,List.map_cons,AA]
   split
   ·rfl
   ·exact ih
 intro m m' t
 rw [h0,h0]
theorem BA.own {P:Program} {f:FuncId} {args:List SV} {M0:Nat -> Nat × Option Au} {res:List SV} {mem mem':List (Nat × Au)} (h:BA P f args M0 ⟨res,Bj mem⟩) (ho:yA mem mem'):BA P f args M0 ⟨res,Bj mem'⟩:=by
 refine ⟨h.1,fun w X0 Wr loc μ vs h1 h2 h3 h4 h5=>(h.2 w X0 Wr loc μ vs h1 h2 h3 h4 h5).mono fun e w' ⟨us,μ',e1,e2,e3,e4⟩=>?_⟩
 have ow:∀ {b b':Au},(b'=b \/ (3 <= b.st /\ b'={ b with st:=0 })) -> (ED b'.st ↔ ED b.st):=by
  rintro b b' (rfl | ⟨q,rfl⟩)
  ·exact Iff.rfl
  ·exact ⟨fun _=>.inr q,fun _=>.inl rfl⟩
 have hX:∀ b,(Own (Bj mem') μ' b \/ X0 b) -> (Own (Bj mem) μ' b \/ X0 b):=by
  rintro b (⟨t,g,blk,cap,q1,q2,q3⟩ | hx)
  ·obtain ⟨b0,k1,k2⟩:=Ic ho t g blk q1
   exact .inl ⟨t,g,b0,cap,k1,(ow k2).1 q2,q3⟩
  ·exact .inr hx
 have mono:∀ (c:SV) (v:Value),AJ w' (Bj mem) μ' (fun b=>Own (Bj mem) μ' b \/ X0 b) c v -> AJ w' (Bj mem') μ' (fun b=>Own (Bj mem') μ' b \/ X0 b) c v :=
  fun c v hc=>AJ.mono (Nat.le_refl _) (fun b _ hx=>⟨rfl,fun hh=>hx (hX b hh)⟩) (fun t=>Nat.le_of_eq (jI (m:=mem') (m':=mem) t)) (fun t g Aj e _=>by
   obtain ⟨b0,k1,k2⟩:=Ic ho t g Aj e
   exact ⟨b0,k1,rfl,by rcases k2 with rfl | ⟨_,rfl⟩<;>rfl⟩) c v hc
 refine ⟨us,μ',e1,e2,⟨fun t g blk e=>?_,fun t g blk b cap e hm=>?_,fun t g blk t' g' Aj b cap cap' hne q1 q2 q3 m1 m2=>?_,fun t g blk e h3=>?_⟩,?_⟩
 ·obtain ⟨b0,k1,k2⟩:=Ic ho t g blk e
  have hb:=e3.blk t g b0 k1
  have eq:blk.cells=b0.cells /\ blk.C8=b0.C8 /\ blk.elem=b0.elem /\ blk.row=b0.row:=by rcases k2 with rfl | ⟨_,rfl⟩<;>exact ⟨rfl,rfl,rfl,rfl⟩
  obtain ⟨q1,q2,q3,q4⟩:=eq
  unfold Bt at hb ⊢
  cases hm:μ' t with
  | none =>
   simp only [hm] at hb ⊢
   rw [q1,q4];exact hb
  | some p =>
   obtain ⟨b,cap⟩:=p
   simp only [hm] at hb ⊢
   obtain ⟨cur,r1,r2,r3,r4,r5⟩:=hb
   refine ⟨cur,by rw [q3];exact r1,by rw [q1];exact r2,fun j c u hj hu=>?_,by rw [q4,q2];exact r4,by rw [q4,q1];exact r5⟩
   rw [q1] at hj
   exact mono c u (r3 j c u hj hu)
 ·obtain ⟨b0,k1,_⟩:=Ic ho t g blk e
  exact e3.place t g b0 b cap k1 hm
 ·obtain ⟨b0,k1,k2⟩:=Ic ho t g blk q1
  obtain ⟨b1,k3,k4⟩:=Ic ho t' g' Aj q2
  obtain ⟨r1,r2⟩:=e3.uniq t g b0 t' g' b1 b cap cap' hne k1 k3 ((ow k2).1 q3) m1 m2
  have c1:blk.cells=b0.cells:=by rcases k2 with rfl | ⟨_,rfl⟩<;>rfl
  rcases k4 with rfl | ⟨k5,_⟩
  ·rw [c1];exact ⟨r1,r2⟩
  ·omega
 ·obtain ⟨b0,k1,k2⟩:=Ic ho t g blk e
  rcases k2 with rfl | ⟨_,rfl⟩
  ·exact e3.Ei t g blk k1 h3
  ·simp at h3
 ·have:∀ (cs:List SV) (vs:List Value),Ac w' (Bj mem) μ' (fun b=>Own (Bj mem) μ' b \/ X0 b) cs vs -> Ac w' (Bj mem') μ' (fun b=>Own (Bj mem') μ' b \/ X0 b) cs vs:=by
   intro cs
   induction cs with
   | nil=>intro vs hh;cases vs<;>simp only [Ac] at hh ⊢
   | cons c cs ih =>
    intro vs hh
    cases vs with
    | nil=>simp only [Ac] at hh
    | cons v vs=>simp only [Ac] at hh ⊢;exact ⟨mono c v hh.1,ih vs hh.2⟩
  exact this _ _ e4
section
variable {cx:Cx} {P:Program} {N:Nat} {ops:Array Oper} {rest:List Oper} {l:List (Nat × SV)} {m:List (Nat × Nat × Option Au)} {K:St -> Prop} {d t ty t2:Nat} {p:String} {af:Array Edge} {x:Operand} {gd:Option (Nat × Bool)}
theorem WU {op:BinOp} {c:Bool} (hop:(op=.eql /\ c=false) \/ (op=.neq /\ c=true)) {bt g off:Nat} {blk:Au} (hu:Lm P t=true) (hx:St.ev ⟨lk l,AA m⟩ x=.pt bt g off) (hM:AA m bt=(g,some blk)) (hP:cx.P=P) (hn:cx.n=N) (hd:d < N) :
  Step cx ⟨lk l,AA m⟩ (⟨some d,.binOp op t x (.const (.pointer none)) t2,ty,p,af,gd⟩:Oper) ⟨lk ((d,.dv (.bool c)) :: l),AA m⟩:=by
 subst hP;subst hn
 refine .sem fun hg a w ⟨μ,h⟩=>Runs.does ?_
 have hv:=h.ev x
 rw [hx] at hv
 simp only [AJ] at hv
 obtain ⟨b,cap,_,hv⟩:=hv.2 blk hM
 have ha:(⟨lk l,AA m⟩:St).apply cx.n (some d) (.val (.dv (.bool c)))=some ⟨lk ((d,.dv (.bool c)) :: l),AA m⟩:=by
  have:=HY (Ko (r:=.dv (.bool c)) hd ⟨lk l,AA m⟩)
  rw [this,Jp]
 refine CX h (v:=.bool c) ?_ (by simp only [AJ];exact Bn.bool _) ha
 have hu2:∃ e,cx.P.underlying t=some (.pointer e):=by
  unfold Lm at hu
  split at hu
  ·exact ⟨_,by assumption⟩
  ·cases hu
 obtain ⟨e,hu2⟩:=hu2
 have key:=Oi hu2 x (.const (.pointer none)) (some ⟨b,off,none⟩) w
 have e2:a.eval (.const (.pointer none))=.pointer none:=rfl
 unfold execOp
 simp only [Sem.run_bind]
 rw [e2]
 rw [<- hv] at key
 rcases hop with ⟨rfl,rfl⟩ | ⟨rfl,rfl⟩
 ·have k1:=key.1
  simp only [Sem.run_bind] at k1
  rw [k1];rfl
 ·have k1:=key.2
  simp only [Sem.run_bind] at k1
  rw [k1];rfl
theorem KG {bt g off:Nat} {blk:Au} (hu:Lm P t=true) (kk:Chain cx ops rest ⟨lk ((d,.dv (.bool false)) :: l),AA m⟩ K) (hx:St.ev ⟨lk l,AA m⟩ x=.pt bt g off:=by (simp only [St.look,St.ev,lk,AA,AO,Ah,Ag,reduceIte,Nat.reduceAdd,Nat.reduceEqDiff,Nat.reduceMul]<;>rfl))
  (hM:AA m bt=(g,some blk):=by (simp only [AA,reduceIte,Nat.reduceEqDiff]<;>rfl)) (hP:cx.P=P:=by assumption) (hn:cx.n=N:=by assumption) (hd:d < N:=by decide) (hgd:G8 ops ⟨lk l,AA m⟩ gd:=by (first | exact trivial | exact ⟨_,rfl,by (simp only [lk,reduceIte,Nat.reduceEqDiff])⟩)) :
  Chain cx ops (⟨some d,.binOp .eql t x (.const (.pointer none)) t2,ty,p,af,gd⟩ :: rest) ⟨lk l,AA m⟩ K :=
 ⟨_,Fe hgd (WU (.inl ⟨rfl,rfl⟩) hu hx hM hP hn hd),kk⟩
theorem zG {bt g off:Nat} {blk:Au} (hu:Lm P t=true) (kk:Chain cx ops rest ⟨lk ((d,.dv (.bool true)) :: l),AA m⟩ K) (hx:St.ev ⟨lk l,AA m⟩ x=.pt bt g off:=by (simp only [St.look,St.ev,lk,AA,AO,Ah,Ag,reduceIte,Nat.reduceAdd,Nat.reduceEqDiff,Nat.reduceMul]<;>rfl))
  (hM:AA m bt=(g,some blk):=by (simp only [AA,reduceIte,Nat.reduceEqDiff]<;>rfl)) (hP:cx.P=P:=by assumption) (hn:cx.n=N:=by assumption) (hd:d < N:=by decide) (hgd:G8 ops ⟨lk l,AA m⟩ gd:=by (first | exact trivial | exact ⟨_,rfl,by (simp only [lk,reduceIte,Nat.reduceEqDiff])⟩)) :
  Chain cx ops (⟨some d,.binOp .neq t x (.const (.pointer none)) t2,ty,p,af,gd⟩ :: rest) ⟨lk l,AA m⟩ K :=
 ⟨_,Fe hgd (WU (.inr ⟨rfl,rfl⟩) hu hx hM hP hn hd),kk⟩
end
section
variable {cx:Cx} {K:Exit -> St -> Prop} {S S':St}
end
end Go.Ab
namespace Go.Ab
open Go.RowKit Go.Conc.Locks
section
variable {cx:Cx} {P:Program} {N:Nat} {ops:Array Oper} {rest:List Oper} {l:List (Nat × SV)} {m m':List (Nat × Nat × Option Au)} {K:St -> Prop} {d ty:Nat} {p:String} {af:Array Edge} {x:Operand} {ts:Array TypeId}
theorem jD {L:MuLink} (H:MuLib P L) (hU:ES P L.lock) {t g off:Nat} {blk:Au} (kk:Chain cx ops rest ⟨lk ((d,.Em []) :: l),AA ((t,g,some { blk with cells:=putCells blk.cells off [.dv (.int .i32 1)] }) :: m')⟩ K)
  (hx:St.ev ⟨lk l,AA m⟩ x=.pt t g off:=by (simp only [St.look,St.ev,lk,AA,AO,Ah,Ag,reduceIte,Nat.reduceAdd,Nat.reduceEqDiff,Nat.reduceMul]<;>rfl))
  (hM:AA m t=(g,some blk):=by (simp only [AA,reduceIte,Nat.reduceEqDiff]<;>rfl)) (hO:ED blk.st:=by (first | exact .inl rfl | exact .inr (Nat.le_of_ble_eq_true rfl))) (h0:blk.cells[off]?=some (.dv (.int .i32 0)):=by rfl) (hv:OA m=m':=by (simp only [OA,NH]<;>rfl)) (hP:cx.P=P:=by assumption) (hn:cx.n=N:=by assumption) (hd:d < N:=by decide) :
  Chain cx ops (⟨some d,.call { callee:=.value (.func L.lock),args:=#[x],argTypes:=ts },ty,p,af,none⟩ :: rest) ⟨lk l,AA m⟩ K:=by
 subst hP;subst hn;subst hv
 refine ⟨⟨lk ((d,.Em []) :: l),AA ((t,g,some { blk with cells:=putCells blk.cells off [.dv (.int .i32 1)] }) :: OA m)⟩,?_,kk⟩
 show Step cx ⟨lk l,AA m⟩ _ _
 refine .sem fun hg a w ⟨μ,h⟩=>?_
 have hv:=h.ev x
 rw [hx] at hv
 simp only [AJ] at hv
 obtain ⟨b,cap,hm,hv⟩:=hv.2 blk hM
 have hb:=h.blk t g blk hM
 unfold Bt at hb
 rw [hm] at hb
 obtain ⟨cur,q1,q2,q3,q4,q5⟩:=hb
 have hoff:off < blk.cells.length:=(List.getElem?_eq_some_iff.1 h0).1
 have X7:off < cur.size:=by omega
 have hcur:cur[off]?=some cur[off]:=by simp [X7]
 have hval:=q3 off _ _ h0 hcur
 simp only [AJ] at hval
 have hcv:cur[off]?=some (.int .i32 0):=by
  rw [hcur]
  generalize cur[off]=u at hval
  cases hval
  rfl
 intro Q
 unfold Oper.wp
 rw [Kr (f:=L.lock) (vp:=#[]) (vc:=#[]) rfl rfl hU]
 have hargs:(#[] ++ (#[x]).map a.eval ++ #[]:Array Value)=#[.pointer (some ⟨b,off,none⟩)]:=by simp [hv]
 rw [hargs]
 refine (MuLone.lock_free H ⟨b,off,none⟩ w (by simp [World.cell?,q1,hcv]) (frozen_of_row w b off cur blk.elem q1)).mono ?_
 rintro e w' ⟨rfl,rfl⟩
 have hwr:=h.write hM hO hm q1 off [.dv (.int .i32 1)] [.int .i32 1] rfl (fun j c u hj hu=>by
  match j,hj,hu with
  | 0,hj,hu =>
   simp only [List.getElem?_cons_zero,Option.some.injEq] at hj hu
   subst hj;subst hu
   simp only [AJ]
   exact .int _ _) (by simp;omega)
 rw [Mr (l:=cur.toList) (by simpa using X7),<- setCell_eq_setRow w b off cur blk.elem (0,0) (.int .i32 1) q1] at hwr
 have hs:=hwr.set hd (r:=.Em []) (v:=.tuple #[]) Rv
 refine ⟨μ,?_⟩
 have e1:(⟨upd (lk l) d (.Em []),upd (Bd (AA m)) t (g,some { blk with cells:=putCells blk.cells off [.dv (.int .i32 1)] })⟩:St)=⟨lk ((d,.Em []) :: l),AA ((t,g,some { blk with cells:=putCells blk.cells off [.dv (.int .i32 1)] }) :: OA m)⟩:=by
  rw [EY,Er,EM]
 rw [<- e1]
 exact hs
end
end Go.Ab
