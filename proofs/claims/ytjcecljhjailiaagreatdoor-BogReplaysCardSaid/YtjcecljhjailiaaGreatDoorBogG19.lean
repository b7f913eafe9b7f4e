/- BogH6, HeapT2, BogH7, BogH8, BogC1. -/
import Derived.Test.YtjcecljhjailiaaGreatDoorBogG18
import Derived.Test.YtjcecljhjailiaaGreatDoorBogG07
import Derived.Test.YtjcecljhjailiaaGreatDoorBogG16
import Derived.Test.YtjcecljhjailiaaGreatDoorBogG15
set_option linter.all false
namespace Go.Ab.Tryz.H
open Go Go.Ab Go.Ab.Tryz Go.Proofs Go.Ab.Heap
theorem NC {a l:Int} (ha:0 <= a) (hl:1 <= l):0 <= a.tdiv l /\ a.tdiv l * l <= a /\ a.tdiv l <= a /\ (l <= a -> 1 <= a.tdiv l) /\ (a < l -> a.tdiv l=0):=by
 rw [Int.tdiv_eq_ediv_of_nonneg ha]
 have h1:=Int.ediv_nonneg ha (show 0 <= l by omega)
 have h2:=Int.ediv_mul_le a (show l ≠ 0 by omega)
 have h3:=Int.mul_nonneg h1 (show 0 <= l - 1 by omega)
 rw [Int.mul_sub,Int.mul_one] at h3
 refine ⟨h1,h2,by omega,fun h=>?_,fun h=>Int.ediv_eq_zero_of_lt ha h⟩
 exact Int.le_ediv_of_mul_le (by omega) (by omega)
structure Fit (h:Hp) (a:List Int):Prop where
 hpg:wI h a
 bd:∀ j,j < h.ground.length -> Az a j <= 200000
theorem Fit.sum {h:Hp} (v:VH h) {a:List Int} (f:Fit h a):sm (Az a) h.ground.length <= 1000000:=by
 have h1:=La (f:=Az a) (g:=fun _=>200000) (n:=h.ground.length) f.bd
 rw [Iz] at h1
 have:=v.n5;omega
theorem Fit.cb {h:Hp} (v:VH h) {a c t:List Int} (f:Fit h a) (I:GN h a c t):(∀ j,j < h.ground.length -> 0 <= Az c j /\ Az c j <= 1000000) /\ ∀ j,j < h.ground.length -> 0 <= Az t j /\ Az t j <= 5000000:=by
 have hs:=f.sum v
 refine ⟨I.cb v hs,fun j hj=>?_⟩
 have h1:=I.bd v f.hpg.nn hs j hj
 have:=v.n5
 have h2:(h.ground.length:Int) * 1000000 <= 5000000:=by omega
 omega
theorem Fit.yN {h:Hp} {a:List Int} (x:PV h a):Fit h a:=⟨x.hpg,fun j hj=>by have:=x.bd j hj;omega⟩
set_option maxHeartbeats 4000000 in
theorem f215 (h:Hp) (v:VH h) (a:List Int) (f:Fit h a):AR Tryz.prog 215 [Et h,ints a] (.many [rI (LJ h a),rI (Jr h a)]):=by
 have h5:=v.n5
 have hal:=f.hpg.len
 refine Bu Tryz.func215 rfl rfl (by rw [Tryz.ntmps215];simp) fun cx hP hn hg=>?_
 rw [Tryz.ntmps215] at hn
 rw [Bq,Bp]
 simp only [List.nil_append,List.append_nil,List.cons_append,BF,Nat.reduceAdd]
 refine sg ?_
 refine qp BX ?_
 iterate 2 refine qv A9 ?_
 refine RJ (ι:=List Int × List Int) 0 (fun q=>⟨lk [(2,.pt 2 0 0),(4,.sl 4 0 0 h.ground.length),(5,.sl 5 0 0 h.ground.length)],AA [(2,0,some ⟨[.dv (.list (h.links.map ints)),.dv (ints h.ground)],0,27,0,false⟩),(4,0,some (Jv q.1)),(5,0,some (Jv q.2))]⟩) (fun q=>GN h a q.1 q.2) (fun q=>L6 h a q.2) rfl ?_ (fun q QD=>?_)
 ·skip
  refine sg ?_
  refine qv A8 ?_
  refine Bo (f214 a (by omega)) ?_
  refine qv A9 ?_
  refine sg ?_
  refine qv A8 ?_
  refine qv (BH CZ) ?_
  refine qr (TA Ap Jq Ak U7) ?_
  refine qv A9 ?_
  refine AJ ?_
  refine kN ?_
  refine Eu.le (S0:=(fun q:List Int × List Int=>(⟨lk [(2,.pt 2 0 0),(4,.sl 4 0 0 h.ground.length),(5,.sl 5 0 0 h.ground.length)],AA [(2,0,some ⟨[.dv (.list (h.links.map ints)),.dv (ints h.ground)],0,27,0,false⟩),(4,0,some (Jv q.1)),(5,0,some (Jv q.2))]⟩:St)) (a,List.replicate h.ground.length 0)) (tl [(2,2),(4,9),(5,12)] (hF:=by simp [Ck,Aa,lk,AA,isLive,Ac,hal]) (hM:=by simp [CV,Al,Aa,Ae,lk,AA,isLive,Ac,BK,BJ,Af,BI,BL,BO,BM,BN,hal])) ((fun H:∀ q:List Int × List Int,(GN h a q.1 q.2) -> Eu cx _ _ (⟨lk [(2,.pt 2 0 0),(4,.sl 4 0 0 h.ground.length),(5,.sl 5 0 0 h.ground.length)],AA [(2,0,some ⟨[.dv (.list (h.links.map ints)),.dv (ints h.ground)],0,27,0,false⟩),(4,0,some (Jv q.1)),(5,0,some (Jv q.2))]⟩:St)=>H _ (GN.start f.hpg.len f.hpg.nn)) (fun q QD=>?_))
  have hcb:=f.cb v QD
  have hcl:=QD.lc
  have htl:=QD.lt
  refine AJ ?_
  refine sg ?_
  refine qv (AQ Cq Cr) ?_
  refine qv A8 ?_
  refine Bo (f130 h v q.1 hcl) ?_ (ha:=(CG Bh (CG (BS (L:=q.1) (by simp only [AA,reduceIte,Nat.reduceEqDiff]<;>rfl) trivial (by first | rfl | omega | (simp;done) | (simp;omega)) rfl rfl (fun _=>trivial)) EH)))
  refine qv A9 ?_
  refine sg ?_
  refine qv A8 ?_
  refine qv Df ?_
  refine cd (fun hc0=>?_) (fun hc0=>?_)
  ·skip
   rcases J9 h q.1 with ⟨e,_⟩ | ⟨i,hi,e,hp⟩
   ·exact absurd hc0 (by rw [e];simp)
   rw [e]
   have hgi:=Ah (a:=q.1) (i:=i) (by omega)
   have hgt:=Ah (a:=q.2) (i:=i) (by omega)
   have hbi:=hcb.1 i hi
   have hbt:=hcb.2 i hi
   have hL1:=v.jR hi
   have gL:=NC hbi.1 hL1
   refine AJ ?_
   refine rd mixed ?_
   iterate 2 refine zv A8 ?_
   refine zv (CB Ap Ak) ?_
   refine zv (EG Ak Br (hq:=hgi)) ?_
   refine zv (AQ Cq Cr) ?_
   refine zv A8 ?_
   refine GA (R:=[]) (f166 h v i hi) ?_
   refine zv nO ?_
   refine zv A9 ?_
   refine ⟨by rfl,?_⟩
   refine AJ ?_
   obtain ⟨k,hke⟩:∃ k,k=(Az q.1 i).tdiv (h.sp.lim i):=⟨_,rfl⟩
   rw [<- hke]
   rw [<- hke] at gL
   have hk:=gL
   have hk1:=gL.2.2.2.1 hp
   have hms:=LY v QD f.hpg.nn hi hk1 gL.2.1
   refine rg ?_
   refine qv (AQ Cq Cr) ?_
   iterate 3 refine qv A8 ?_
   refine Dx (f233 h v q.1 i k hcl hi (fun j hj=>by have:=hcb.1 j hj;omega) (by omega)) [] [(100000,4)] [4] ?_
   refine sg ?_
   iterate 2 refine qv A8 ?_
   refine qv (CB Ap Ak) ?_
   refine qv (EG Ak Br (hq:=hgt)) ?_
   refine qv A8 ?_
   refine qv Am ?_
   refine qv (CB Ap Ak) ?_
   first | refine qs (Gp Ak) ?_ | refine qs (CK Ak) ?_
   refine Zr ?_
   exact ⟨rfl,(Mi h q.1 i k,q.2.set i (Az q.2 i+k)),QD.step v hi hk.1 hk.2.1,(tl [(2,2),(4,4),(5,5)] (hF:=by simp [Ck,Aa,lk,AA,isLive,Ac,hal]) (hM:=by simp [CV,Al,Aa,Ae,lk,AA,isLive,Ac,BK,BJ,Af,BI,BL,BO,BM,BN,hal]))⟩
  ·skip
   have hcalm:H6 h q.1:=by
    rcases J9 h q.1 with ⟨_,e⟩ | ⟨i,hi,e,hp⟩
    ·exact e
    ·exact absurd hc0 (by rw [e];simp)
   have hdn:=QD.done hcalm
   refine AY ?_
   refine sg ?_
   iterate 2 refine qv A8 ?_
   iterate 2 refine qv A9 ?_
   refine AP ?_
   exact x2 (hr:=(eu (by rw [hdn.1]) (hl:=by omega))) (hr':=(eu (by rw [hdn.2]) (hl:=by omega)))
 ·skip
  have hcb:=f.cb v QD
  have hcl:=QD.lc
  have htl:=QD.lt
  refine AJ ?_
  refine AY ?_
  refine AJ ?_
  refine sg ?_
  refine qv (AQ Cq Cr) ?_
  refine qv A8 ?_
  refine Bo (f130 h v q.1 hcl) ?_ (ha:=(CG Bh (CG (BS (L:=q.1) (by simp only [AA,reduceIte,Nat.reduceEqDiff]<;>rfl) trivial (by first | rfl | omega | (simp;done) | (simp;omega)) rfl rfl (fun _=>trivial)) EH)))
  refine qv A9 ?_
  refine sg ?_
  refine qv A8 ?_
  refine qv Df ?_
  refine cd (fun hc0=>?_) (fun hc0=>?_)
  ·skip
   rcases J9 h q.1 with ⟨e,_⟩ | ⟨i,hi,e,hp⟩
   ·exact absurd hc0 (by rw [e];simp)
   rw [e]
   have hgi:=Ah (a:=q.1) (i:=i) (by omega)
   have hgt:=Ah (a:=q.2) (i:=i) (by omega)
   have hbi:=hcb.1 i hi
   have hbt:=hcb.2 i hi
   have hL1:=v.jR hi
   have gL:=NC hbi.1 hL1
   refine AJ ?_
   refine rd mixed ?_
   iterate 2 refine zv A8 ?_
   refine zv (CB Ap Ak) ?_
   refine zv (EG Ak Br (hq:=hgi)) ?_
   refine zv (AQ Cq Cr) ?_
   refine zv A8 ?_
   refine GA (R:=[]) (f166 h v i hi) ?_
   refine zv nO ?_
   refine zv A9 ?_
   refine ⟨by rfl,?_⟩
   refine AJ ?_
   obtain ⟨k,hke⟩:∃ k,k=(Az q.1 i).tdiv (h.sp.lim i):=⟨_,rfl⟩
   rw [<- hke]
   rw [<- hke] at gL
   have hk:=gL
   have hk1:=gL.2.2.2.1 hp
   have hms:=LY v QD f.hpg.nn hi hk1 gL.2.1
   refine rg ?_
   refine qv (AQ Cq Cr) ?_
   iterate 3 refine qv A8 ?_
   refine Dx (f233 h v q.1 i k hcl hi (fun j hj=>by have:=hcb.1 j hj;omega) (by omega)) [] [(100000,4)] [4] ?_
   refine sg ?_
   iterate 2 refine qv A8 ?_
   refine qv (CB Ap Ak) ?_
   refine qv (EG Ak Br (hq:=hgt)) ?_
   refine qv A8 ?_
   refine qv Am ?_
   refine qv (CB Ap Ak) ?_
   first | refine qs (Gp Ak) ?_ | refine qs (CK Ak) ?_
   refine Zr ?_
   exact ⟨rfl,(Mi h q.1 i k,q.2.set i (Az q.2 i+k)),⟨QD.step v hi hk.1 hk.2.1,hms⟩,(tl [(2,2),(4,4),(5,5)] (hF:=by simp [Ck,Aa,lk,AA,isLive,Ac,hal]) (hM:=by simp [CV,Al,Aa,Ae,lk,AA,isLive,Ac,BK,BJ,Af,BI,BL,BO,BM,BN,hal]))⟩
  ·skip
   have hcalm:H6 h q.1:=by
    rcases J9 h q.1 with ⟨_,e⟩ | ⟨i,hi,e,hp⟩
    ·exact e
    ·exact absurd hc0 (by rw [e];simp)
   have hdn:=QD.done hcalm
   refine AY ?_
   refine sg ?_
   iterate 2 refine qv A8 ?_
   iterate 2 refine qv A9 ?_
   refine AP ?_
   exact x2 (hr:=(eu (by rw [hdn.1]) (hl:=by omega))) (hr':=(eu (by rw [hdn.2]) (hl:=by omega)))
theorem set_self {t:List Int} {i:Nat} (hi:i < t.length):t.set i (Az t i+0)=t:=by
 refine Y7 (n:=t.length) (by simp) rfl fun j _=>?_
 rw [BZ hi]
 split
 ·rename_i e;subst e;omega
 ·rfl
theorem iZ {h:Hp} {c:List Int} {i:Nat} (hc:c.length=h.ground.length):Mi h c i 0=c:=by
 refine Y7 (n:=h.ground.length) O4 hc fun j hj=>?_
 rw [Wo hj];simp
def Swp (h:Hp) (a:List Int) (s q:List Int × List Int) (p:Nat):Prop:=L6 h a q.2 < L6 h a s.2 \/ q=s /\ ∃ i,i < p /\ i < h.ground.length /\ h.sp.lim i <= Az s.1 i
theorem iq {h:Hp} {a:List Int} {s:List Int × List Int} (hc:¬ H6 h s.1):Swp h a s s h.ground.length:=by
 simp only [H6,Classical.not_forall] at hc
 obtain ⟨i,hi,h2⟩:=hc
 exact .inr ⟨rfl,i,hi,hi,by omega⟩
theorem lS {h:Hp} (v:VH h) {a c t:List Int} (I:GN h a c t) (h0:∀ i,i < h.ground.length -> 0 <= Az a i) {i:Nat} (hi:i < h.ground.length) {k:Int} (h1:0 <= k) (hk:k * h.sp.lim i <= Az c i):L6 h a (t.set i (Az t i+k)) <= L6 h a t:=by
 by_cases e:1 <= k
 ·exact Nat.le_of_lt (LY v I h0 hi e hk)
 ·have:k=0:=by omega
  subst this
  rw [set_self (by rw [I.lt];exact hi)];exact Nat.le_refl _
theorem lC {h:Hp} (v:VH h) {a:List Int} {s q:List Int × List Int} {p:Nat} (hp:p < h.ground.length) (I:GN h a q.1 q.2) (h0:∀ i,i < h.ground.length -> 0 <= Az a i) (w:Swp h a s q (p+1)) {k:Int} (hk:0 <= k /\ k * h.sp.lim p <= Az q.1 p /\ k <= Az q.1 p /\ (h.sp.lim p <= Az q.1 p -> 1 <= k) /\ (Az q.1 p < h.sp.lim p -> k=0)) :
  Swp h a s (Mi h q.1 p k,q.2.set p (Az q.2 p+k)) p:=by
 have hle:=lS v I h0 hp hk.1 hk.2.1
 rcases w with w | ⟨rfl,i,h1,h2,h3⟩
 ·exact .inl (Nat.lt_of_le_of_lt hle w)
 ·by_cases e:h.sp.lim p <= Az q.1 p
  ·exact .inl (LY v I h0 hp (hk.2.2.2.1 e) hk.2.1)
  ·have hz:=hk.2.2.2.2 (by omega)
   subst hz
   rw [iZ I.lc,set_self (by rw [I.lt];exact hp)]
   refine .inr ⟨rfl,i,?_,h2,h3⟩
   by_cases ei:i=p
   ·subst ei;exact absurd h3 e
   ·omega
theorem rW {h:Hp} {a:List Int} {s q:List Int × List Int} (w:Swp h a s q 0):L6 h a q.2 < L6 h a s.2:=by
 rcases w with w | ⟨_,i,h1,_⟩
 ·exact w
 ·omega
def grd (h:Hp) (t:List Int):Int:=sm (fun i=>LH h i * Az t i) h.ground.length
theorem uR {h:Hp} {t:List Int} {p:Nat} {k:Int} (hp:p < h.ground.length) (ht:t.length=h.ground.length):grd h (t.set p (Az t p+k))=grd h t+k * LH h p:=by
 unfold grd
 have:∀ m,m <= h.ground.length -> sm (fun i=>LH h i * Az (t.set p (Az t p+k)) i) m=sm (fun i=>LH h i * Az t i) m+if p < m then k * LH h p else 0:=by
  intro m
  induction m with
  | zero=>intro _;simp [sm]
  | succ m ih =>
   intro hm
   simp only [sm]
   rw [ih (by omega),BZ (by omega)]
   by_cases e:m=p
   ·subst e;rw [if_pos rfl,if_neg (by omega),if_pos (by omega),Int.mul_add,Int.mul_comm k];omega
   ·rw [if_neg e]
    by_cases e2:p < m
    ·rw [if_pos e2,if_pos (by omega)];omega
    ·rw [if_neg e2,if_neg (by omega)];omega
 rw [this _ (Nat.le_refl _),if_pos hp]
theorem oU (h:Hp):grd h (List.replicate h.ground.length 0)=0:=by
 unfold grd
 rw [Ct (g:=fun _=>0) fun i hi=>by rw [Ue hi];simp,JN]
theorem zN {h:Hp} (v:VH h) {t:List Int} (ht:∀ j,j < h.ground.length -> 0 <= Az t j /\ Az t j <= 5000000):0 <= grd h t /\ grd h t <= 50000000:=by
 have h5:=v.n5
 have b:∀ j,j < h.ground.length -> 0 <= LH h j * Az t j /\ LH h j * Az t j <= 10000000:=fun j hj=>by
  have h1:=v.gb j hj
  have h2:=ht j hj
  have h3:=Int.mul_nonneg h1.1 h2.1
  have h4:=Int.mul_nonneg (show 0 <= 2 - LH h j by omega) h2.1
  rw [Int.sub_mul] at h4
  omega
 unfold grd
 have h1:=La (f:=fun i=>LH h i * Az t i) (g:=fun _=>10000000) (n:=h.ground.length) fun j hj=>(b j hj).2
 rw [Iz] at h1
 exact ⟨Dk fun j hj=>(b j hj).1,by omega⟩
set_option maxHeartbeats 4000000 in
theorem f160 (h:Hp) (v:VH h) (a:List Int) (f:Fit h a):AR Tryz.prog 160 [Et h,ints a] (.many [rI (LJ h a),rI (Jr h a),.dv (i64 (grd h (Jr h a)))]):=by
 have h5:=v.n5
 have hal:=f.hpg.len
 have hg0:=oU h
 refine Bu Tryz.func160 rfl rfl (by rw [Tryz.ntmps160];simp) fun cx hP hn hg=>?_
 rw [Tryz.ntmps160] at hn
 rw [Bq,Bp]
 simp only [List.nil_append,List.append_nil,List.cons_append,BF,Nat.reduceAdd]
 refine sg ?_
 refine qp BX ?_
 iterate 3 refine qv A9 ?_
 refine sg ?_
 refine qr (D7 Ap Jq Ak) ?_
 refine qv A8 ?_
 refine Qg (DK Ap Ap Jq Ak U7) ?_
 refine qv A9 ?_
 refine sg ?_
 refine qv A8 ?_
 refine qv (Cg CZ) ?_
 refine qr (TA Ap Jq Ak U7) ?_
 refine qv A9 ?_
 refine sg ?_
 refine qv A9 ?_
 refine AJ ?_
 refine BD ?_
 refine Ag (ι:=List Int × List Int) (fun s=>⟨lk [(2,.pt 2 0 0),(7,.sl 7 0 0 h.ground.length),(8,.sl 8 0 0 h.ground.length),(9,.dv (i64 (grd h s.2)))],AA [(2,0,some ⟨[.dv (.list ((h.links).map ints)),.dv (ints (h.ground))],0,27,0,false⟩),(7,0,some (Jv s.1)),(8,0,some (Jv s.2))]⟩) (fun s=>GN h a s.1 s.2) (fun s=>L6 h a s.2) (a,List.replicate h.ground.length 0) (GN.start f.hpg.len f.hpg.nn) (tl [(2,2),(7,14),(8,17)] (hF:=by simp [Ck,Aa,lk,AA,isLive,Ac,hal,hg0]) (hM:=by simp [CV,Al,Aa,Ae,lk,AA,isLive,Ac,BK,BJ,Af,BI,BL,BO,BM,BN,hal,hg0])) ?_
 intro s Aj
 have hcb:=f.cb v Aj
 have hcl:=Aj.lc
 have htl:=Aj.lt
 refine AJ ?_
 refine sg ?_
 refine qv (AQ Cq Cr) ?_
 refine qv A8 ?_
 refine Bo (f67 h v s.1 hcl) ?_ (ha:=(CG Bh (CG (BS (L:=s.1) (by simp only [AA,reduceIte,Nat.reduceEqDiff]<;>rfl) trivial (by first | rfl | omega | (simp;done) | (simp;omega)) rfl rfl (fun _=>trivial)) EH)))
 refine qv Bn ?_
 refine cd (fun hc0=>?_) (fun hc0=>?_)
 ·skip
  have hnc:¬ H6 h s.1:=fun hh=>by rw [MZ hh] at hc0;cases hc0
  refine AY ?_
  refine BD ?_
  refine sg ?_
  refine qv A8 ?_
  refine qv (Cg CZ) ?_
  refine qv FW ?_
  refine qv A9 ?_
  refine BD ?_
  refine Ag (ι:=(List Int × List Int) × Nat) (fun q=>⟨lk [(2,.pt 2 0 0),(7,.sl 7 0 0 h.ground.length),(8,.sl 8 0 0 h.ground.length),(9,.dv (i64 (grd h q.1.2))),(10,.dv (i64 ((q.2:Int) - 1)))],AA [(2,0,some ⟨[.dv (.list ((h.links).map ints)),.dv (ints (h.ground))],0,27,0,false⟩),(7,0,some (Jv q.1.1)),(8,0,some (Jv q.1.2))]⟩) (fun q=>q.2 <= h.ground.length /\ GN h a q.1.1 q.1.2 /\ Swp h a s q.1 q.2) (fun q=>q.2) (s,h.ground.length) ⟨Nat.le_refl _,Aj,iq hnc⟩ (tl [(2,2),(7,7),(8,8)]) ?_
  intro ⟨q,p⟩ Es
  dsimp only at Es ⊢
  have hcb:=f.cb v Es.2.1
  have hcl:=Es.2.1.lc
  have htl:=Es.2.1.lt
  refine AJ ?_
  refine sg ?_
  refine qv A8 ?_
  refine qv Df ?_
  refine cd (fun hc1=>?_) (fun hc1=>?_)
  ·try simp at hc1
   obtain ⟨p,rfl⟩:∃ p',p=p'+1:=⟨p - 1,by omega⟩
   have hp:p < h.ground.length:=by omega
   have hpe:((p+1:Nat):Int) - 1=(p:Int):=by omega
   rw [hpe]
   have hgi:=Ah (a:=q.1) (i:=p) (by omega)
   have hgt:=Ah (a:=q.2) (i:=p) (by omega)
   have hgg:=Kh hp
   have hbi:=hcb.1 p hp
   have hbt:=hcb.2 p hp
   have hL1:=v.jR hp
   have hmx:(if (0:Int) > Az q.1 p then 0 else Az q.1 p)=Az q.1 p:=by rw [if_neg (by omega)]
   have gL:=NC hbi.1 hL1
   obtain ⟨k,hke⟩:∃ k,k=(Az q.1 p).tdiv (h.sp.lim p):=⟨_,rfl⟩
   rw [<- hke] at gL
   have hsw:=lC v hp Es.2.1 f.hpg.nn Es.2.2 gL
   have hgs:=uR (k:=k) hp htl
   have hgb:=zN v hcb.2
   have hgp:=v.gb p hp
   have hkg:=MO (k:=k) (K:=1000000) (l:=LH h p) (by omega) (by omega) (by omega) (by omega)
   refine AY ?_
   refine AJ ?_
   refine BD ?_
   refine AJ ?_
   refine rd mixed ?_
   iterate 2 refine zv A8 ?_
   refine zv (CB Ap Ak) ?_
   refine zv (EG Ak Br (hq:=hgi)) ?_
   refine zv A2D ?_
   rw [hmx]
   refine zv (AQ Cq Cr) ?_
   refine zv A8 ?_
   refine GA (R:=[]) (f104 h v p hp) ?_
   refine zv nO ?_
   refine zv A9 ?_
   refine ⟨by rfl,?_⟩
   refine sg ?_
   rw [<- hke]
   refine qv (AQ Cq Cr) ?_
   iterate 3 refine qv A8 ?_
   refine Bo (f189 h v q.1 p k hcl hp (fun j hj=>by have:=hcb.1 j hj;omega) (by omega)) ?_ (ha:=(CG Bh (CG (BS (L:=q.1) (by simp only [AA,reduceIte,Nat.reduceEqDiff]<;>rfl) trivial (by first | rfl | omega | (simp;done) | (simp;omega)) rfl rfl (fun _=>trivial)) (CG Bh (CG Bh EH)))))
   refine qv A9 ?_
   refine sg ?_
   iterate 2 refine qv A8 ?_
   refine qv (CB Ap Ak) ?_
   refine qv (EG Ak Br (hq:=hgt)) ?_
   refine qv A8 ?_
   refine qv Am ?_
   refine qv (CB Ap Ak) ?_
   first | refine qs (Gp Ak) ?_ | refine qs (CK Ak) ?_
   refine rg ?_
   iterate 2 refine qv A8 ?_
   refine qv (AB F6) ?_
   refine qv (AL Av Bl) ?_
   refine qv A8 ?_
   first | refine qv (BA Ap Ak) ?_ | refine qv (Bd Ap Ak) ?_
   refine qv (Bb Ak Br) ?_
   refine qv Mq ?_
   refine qv Am ?_
   refine qv A9 ?_
   refine rg ?_
   refine qv A8 ?_
   refine qv FW ?_
   refine qv A9 ?_
   exact ⟨((Mi h q.1 p k,q.2.set p (Az q.2 p+k)),p),⟨by omega,Es.2.1.step v hp gL.1 gL.2.1,hsw⟩,(by simp only;omega),(tl [(2,2),(7,42),(8,8)] (hF:=by simp [Ck,Aa,lk,AA,isLive,Ac,hgs,O4]) (hM:=by simp [CV,Al,Aa,Ae,lk,AA,isLive,Ac,BK,BJ,Af,BI,BL,BO,BM,BN,hgs,O4]))⟩
  ·try simp at hc1
   obtain rfl:p=0:=by omega
   refine Ad ?_
   exact ⟨q,Es.2.1,(rW Es.2.2),(tl [(2,2),(7,7),(8,8)] (hF:=by simp [Ck,Aa,lk,AA,isLive,Ac,hal,hg0]) (hM:=by simp [CV,Al,Aa,Ae,lk,AA,isLive,Ac,BK,BJ,Af,BI,BL,BO,BM,BN,hal,hg0]))⟩
 ·skip
  have hdn:=Aj.done (QL.1 (by simpa using hc0))
  refine Ad ?_
  refine sg ?_
  iterate 3 refine qv A8 ?_
  iterate 3 refine qv A9 ?_
  refine AP ?_
  exact x3 (hr:=(eu (by rw [hdn.1]) (hl:=by omega))) (hr':=(eu (by rw [hdn.2]) (hl:=by omega))) (XM:=(CW (by rw [hdn.2])))
end Go.Ab.Tryz.H
namespace Go.Ab.Heap
open Go Go.Ab
section
variable {l:List (Nat × SV)} {m:List (Nat × Nat × Option BG)} {d d2 g g2:Nat} {k:IntKind} {e:TypeId} {L L2:List Int} {x y:DV}
theorem yE (hd:d+1000=d2) (hg:(AA m d).1=g) (hg2:(AA m d2).1=g2):(CU d ⟨lk l,AA m⟩ (.many [rK k e L,rK k e L2])).app ⟨lk l,AA m⟩=⟨lk ((d,.FR [.sl d (g+1) 0 L.length,.sl d2 (g2+1) 0 L2.length]) :: l),AA ((d2,g2+1,some (OG k e L2)) :: (d,g+1,some (OG k e L)) :: m)⟩:=by
 subst hd;subst hg;subst hg2
 simp only [rK,CU,Eff.app,ER,DN,OP,IG,Dl,FB,Ej,Nat.mul_zero,Nat.add_zero,Nat.mul_one,Nat.zero_add,List.map_map]
 simp [OG,Function.comp_def,AA]
 rfl
theorem sJ (hd:d+1000=d2) (hg:(AA m d).1=g) (hg2:(AA m d2).1=g2):(CU d ⟨lk l,AA m⟩ (.many [rK k e L,rK k e L2,.dv x])).app ⟨lk l,AA m⟩=⟨lk ((d,.FR [.sl d (g+1) 0 L.length,.sl d2 (g2+1) 0 L2.length,.dv x]) :: l),AA ((d2,g2+1,some (OG k e L2)) :: (d,g+1,some (OG k e L)) :: m)⟩:=by
 subst hd;subst hg;subst hg2
 simp only [rK,CU,Eff.app,ER,DN,OP,IG,Dl,FB,Ej,Nat.mul_zero,Nat.add_zero,Nat.mul_one,Nat.zero_add,List.map_map]
 simp [OG,Function.comp_def,AA]
 rfl
end
end Go.Ab.Heap
namespace Go.Ab.Tryz.H
open Go Go.Ab Go.Ab.Tryz Go.Proofs Go.Ab.Heap
abbrev Uu (L:List (List Int)):BG:=⟨L.map fun r=>.dv (ints r),1,25,0,true⟩
theorem Ed {ok:Nat -> Prop} {Db:DV -> Prop} {M:Nat -> Nat × Option BG} {t g n:Nat} {L:List (List Int)} (hM:M t=(g,some (Uu L))) (hst:ok 0) (hl:L.length=n) (hd:∀ l,Db (ints l)):Data ok Db M (.sl t g 0 n) (.list (L.map ints)):=by
 refine Ni (blk:=Uu L) hM hst (by simpa using hl) (fun d h=>by obtain ⟨s,_,rfl⟩:=List.mem_map.1 h;rfl) ?_
 have:flat (L.map ints)=L.map ints:=II fun _=>rfl
 rw [this]
 show Cm (Data ok Db M) (L.map fun r=>.dv (ints r)) (L.map ints)
 clear hM hl this
 induction L with
 | nil=>exact EH
 | cons r L ih=>exact CG (.dv _ (hd r)) ih
theorem Xo {h:Hp} {a:List Int} (e:Cu h [a]=0):VH h /\ PV h a:=⟨(U1 e).1,(U1 e).2 a (by simp)⟩
theorem yL {h:Hp} {i:Int} {l:List (List Int)} (e:K3 h i l=0):Cu h l=0 /\ ∃ k:Nat,k < h.ground.length /\ i=(k:Int):=by
 unfold K3 at e
 split at e
 ·rename_i hc;exact absurd e hc
 ·rename_i hc
  split at e
  ·rename_i hi
   simp only [KI,Bool.and_eq_true,decide_eq_true_eq] at hi
   exact ⟨by simpa using hc,i.toNat,by omega,by omega⟩
  ·cases e
theorem nC {h:Hp} {l:List (List Int)} {k:Nat} (e:Cu h l=0) (hk:k < h.ground.length):K3 h (k:Int) l=0:=by
 unfold K3
 rw [if_neg (by simp [e]),if_pos]
 simp only [KI,Bool.and_eq_true,decide_eq_true_eq];omega
theorem sW {h:Hp} {i:Int} {l:List (List Int)} (e:Cu h l ≠ 0):K3 h i l=Cu h l:=by unfold K3;rw [if_pos e]
theorem nD {h:Hp} {i:Int} {l:List (List Int)} (e:Cu h l=0) (hi:KI i 0 ((h.ground.length:Int) - 1)=false):K3 h i l=4:=by unfold K3;rw [if_neg (by simp [e]),if_neg (by simp [hi])]
theorem eD {h:Hp} (v:VH h) {a:List Int} (f:Fit h a):(∀ j,j < h.ground.length -> 0 <= Az (LJ h a) j /\ Az (LJ h a) j <= 12) /\ ∀ j,j < h.ground.length -> 0 <= Az (Jr h a) j /\ Az (Jr h a) j <= 5000000:=by
 obtain ⟨I,hc⟩:=LX v f.hpg
 exact ⟨fun j hj=>⟨I.c0 j hj,by have:=hc j hj;have:=v.Z8 hj;omega⟩,(f.cb v I).2⟩
theorem O8 {h:Hp} {a:List Int}:(LJ h a).length=h.ground.length:=by simp [LJ]
theorem YV {h:Hp} (v:VH h) {a:List Int} (ha:wI h a):(Jr h a).length=h.ground.length:=(LX v ha).1.lt
def bump (a:List Int) (k:Nat):List Int:=a.set k (Az a k+1)
theorem P8 {h:Hp} {a:List Int} {k:Nat} (x:PV h a) (hk:k < h.ground.length):Fit h (bump a k):=by
 have e:∀ j,j < h.ground.length -> 0 <= Az (bump a k) j /\ Az (bump a k) j <= 31:=fun j hj=>by
  unfold bump
  rw [BZ (by rw [x.len];exact hk)]
  have:=x.bd j hj
  have:=x.bd k hk
  split<;>omega
 exact ⟨⟨by simp [bump,x.len],fun j hj=>(e j hj).1⟩,fun j hj=>by have:=e j hj;omega⟩
noncomputable def M5 (h:Hp) (a:List Int) (i:Int):List Int × Int × Int:=if K3 h i [a] ≠ 0 then ([],0,K3 h i [a]) else (LJ h (bump a i.toNat),sm (Az (Jr h (bump a i.toNat))) h.ground.length,0)
theorem Gu {h:Hp} {a:List Int} {i:Int} (e:K3 h i [a] ≠ 0):M5 h a i=([],0,K3 h i [a]):=by unfold M5;rw [if_pos e]
theorem Ko {h:Hp} {a:List Int} {k:Nat} (e:K3 h (k:Int) [a]=0):M5 h a (k:Int)=(LJ h (bump a k),sm (Az (Jr h (bump a k))) h.ground.length,0):=by unfold M5;rw [if_neg (by simp [e])];rfl
structure Half (h:Hp) (a:List Int):Prop where
 hpg:wI h a
 bd:∀ j,j < h.ground.length -> Az a j <= 100000
theorem Half.add {h:Hp} {a b:List Int} (x:Half h a) (y:Half h b):Fit h (wE h a b):=⟨qd x.hpg y.hpg,fun j hj=>by rw [iO hj];have:=x.bd j hj;have:=y.bd j hj;omega⟩
def Qv (h:Hp) (a:List Int):Bool × Int:=if Cu h [a] ≠ 0 then (false,Cu h [a]) else (Qw h a,0)
theorem P6 {h:Hp} {a:List Int} (e:Cu h [a] ≠ 0):Qv h a=(false,Cu h [a]):=by unfold Qv;rw [if_pos e]
theorem MX {h:Hp} {a:List Int} (e:Cu h [a]=0):Qv h a=(Qw h a,0):=by unfold Qv;rw [if_neg (by simp [e])]
theorem f88 (h:Hp) (a:List Int):AR Tryz.prog 88 [Et h,ints a] (.many [.dv (.bool (Qv h a).1),.dv (i64 (Qv h a).2)]):=by
 refine Bu Tryz.func88 rfl rfl (by rw [Tryz.ntmps88];simp) fun cx hP hn hg=>?_
 rw [Tryz.ntmps88] at hn
 rw [Bq,Bp]
 simp only [List.nil_append,List.append_nil,List.cons_append,BF,Nat.reduceAdd]
 refine sg ?_
 refine qp BX ?_
 iterate 2 refine qv A9 ?_
 refine AJ ?_
 refine sg ?_
 refine qv (AQ Cq Cr) ?_
 refine qv A8 ?_
 refine qr (D7 CO Ry Av) ?_
 refine Bo (f129 h [a] (by simp)) ?_ (ha:=(CG Bh (CG (Ed (L:=[a]) (by simp only [AA,reduceIte,Nat.reduceEqDiff]<;>rfl) trivial rfl (fun _=>trivial)) EH)))
 refine qv A9 ?_
 refine sg ?_
 refine qv A8 ?_
 refine qv BP ?_
 refine cd (fun hc0=>?_) (fun hc0=>?_)
 ·skip
  have he0:Cu h [a] ≠ 0:=by simpa using hc0
  refine sg ?_
  refine qv A8 ?_
  iterate 2 refine qv A9 ?_
  refine AP ?_
  exact x2 (hr:=(DX (by rw [P6 he0]))) (hr':=(CW (by rw [P6 he0])))
 ·skip
  have he0:Cu h [a]=0:=by simpa using hc0
  obtain ⟨v,Oh⟩:=Xo he0
  have h5:=v.n5
  have hal:=Oh.len
  have f:=Fit.yN Oh
  refine AY ?_
  refine sg ?_
  refine qv (AQ Cq Cr) ?_
  refine qv A8 ?_
  refine Bo (f130 h v a hal) ?_
  refine qv BQ ?_
  iterate 2 refine qv A9 ?_
  refine AP ?_
  exact x2 (hr:=(DX (by rw [MX he0];rfl))) (hr':=(CW (by rw [MX he0])))
theorem f25 (h:Hp) (a:List Int):AR Tryz.prog 25 [Et h,ints a] (.many [.dv (.bool (Qv h a).1),.dv (i64 (Qv h a).2)]):=by
 refine Bu Tryz.func25 rfl rfl (by rw [Tryz.ntmps25];simp) fun cx hP hn hg=>?_
 rw [Tryz.ntmps25] at hn
 rw [Bq,Bp]
 simp only [List.nil_append,List.append_nil,List.cons_append,BF,Nat.reduceAdd]
 refine sg ?_
 refine qp BX ?_
 iterate 2 refine qv A9 ?_
 refine sg ?_
 refine qv (AQ Cq Cr) ?_
 refine qv A8 ?_
 refine qr (D7 CO Ry Av) ?_
 refine Bo (f66 h [a] (by simp)) ?_ (ha:=(CG Bh (CG (Ed (L:=[a]) (by simp only [AA,reduceIte,Nat.reduceEqDiff]<;>rfl) trivial rfl (fun _=>trivial)) EH)))
 refine qv A9 ?_
 refine AJ ?_
 refine sg ?_
 refine qv A8 ?_
 refine qv BP ?_
 refine cd (fun hc0=>?_) (fun hc0=>?_)
 ·skip
  have he0:Cu h [a] ≠ 0:=by simpa using hc0
  refine sg ?_
  refine qv A8 ?_
  iterate 2 refine qv A9 ?_
  refine AP ?_
  exact x2 (hr:=(DX (by rw [P6 he0]))) (hr':=(CW (by rw [P6 he0])))
 ·skip
  have he0:Cu h [a]=0:=by simpa using hc0
  obtain ⟨v,Oh⟩:=Xo he0
  have h5:=v.n5
  have hal:=Oh.len
  have f:=Fit.yN Oh
  refine AY ?_
  refine sg ?_
  refine qv (AQ Cq Cr) ?_
  refine qv A8 ?_
  refine Bo (f67 h v a hal) ?_
  iterate 2 refine qv A9 ?_
  refine AP ?_
  exact x2 (hr:=(DX (by rw [MX he0]))) (hr':=(CW (by rw [MX he0])))
end Go.Ab.Tryz.H
namespace Go.Ab.Tryz.H
open Go Go.Ab Go.Ab.Tryz Go.Proofs Go.Ab.Heap
theorem Zg {a:List Int} {k:Nat}:(bump a k).length=a.length:=by simp [bump]
theorem yj {i:Int} {n:Nat} (e:KI i 0 ((n:Int) - 1)=true):∃ k:Nat,k < n /\ i=(k:Int):=by
 simp only [KI,Bool.and_eq_true,decide_eq_true_eq] at e
 exact ⟨i.toNat,by omega,by omega⟩
theorem aY {n:Nat} {f:Nat -> Int} (hn:n <= 5) (hf:∀ i,i < n -> 0 <= f i /\ f i <= 5000000):0 <= sm f n /\ sm f n <= 25000000:=by
 have h1:=Dk fun i hi=>(hf i hi).1
 have h2:=La (f:=f) (g:=fun _=>5000000) (n:=n) fun i hi=>(hf i hi).2
 rw [Iz] at h2
 exact ⟨h1,by omega⟩
set_option maxHeartbeats 4000000 in
theorem f185 (h:Hp) (a:List Int) (i:Int):AR Tryz.prog 185 [Et h,ints a,i64 i] (.many [rI (M5 h a i).1,.dv (i64 (M5 h a i).2.1),.dv (i64 (M5 h a i).2.2)]):=by
 refine Bu Tryz.func185 rfl rfl (by rw [Tryz.ntmps185];simp) fun cx hP hn hg=>?_
 rw [Tryz.ntmps185] at hn
 rw [Bq,Bp]
 simp only [List.nil_append,List.append_nil,List.cons_append,BF,Nat.reduceAdd]
 refine sg ?_
 refine qp BX ?_
 iterate 3 refine qv A9 ?_
 refine AJ ?_
 refine sg ?_
 refine qv (AQ Cq Cr) ?_
 iterate 2 refine qv A8 ?_
 refine qr (D7 CO Ry Av) ?_
 refine Bo (f213 h i [a] (by simp)) ?_ (ha:=(CG Bh (CG Bh (CG (Ed (L:=[a]) (by simp only [AA,reduceIte,Nat.reduceEqDiff]<;>rfl) trivial rfl (fun _=>trivial)) EH))))
 refine qv A9 ?_
 refine sg ?_
 refine qv A8 ?_
 refine qv BP ?_
 refine cd (fun hc0=>?_) (fun hc0=>?_)
 ·skip
  have he0:K3 h i [a] ≠ 0:=by simpa using hc0
  refine sg ?_
  refine qv A8 ?_
  iterate 3 refine qv A9 ?_
  refine AP ?_
  exact x3 (hr:=(rN_ (by rw [Gu he0]))) (hr':=(CW (by rw [Gu he0]))) (XM:=(CW (by rw [Gu he0])))
 ·skip
  have he0:K3 h i [a]=0:=by simpa using hc0
  obtain ⟨he1,k,hk,rfl⟩:=yL he0
  obtain ⟨v,Oh⟩:=Xo he1
  have h5:=v.n5
  have hal:=Oh.len
  have hgk:=Ah (a:=a) (i:=k) (by omega)
  have hbk:=Oh.bd k hk
  have hbf:=P8 Oh hk
  have hbl:=Zg (a:=a) (k:=k)
  have hbs:a.set k (Az a k+1)=bump a k:=rfl
  have hsb:=eD v hbf
  have hsl:=O8 (h:=h) (a:=bump a k)
  have htl:=YV v hbf.hpg
  have hss:=aY h5 hsb.2
  refine AY ?_
  refine sg ?_
  refine qv A8 ?_
  refine Bo (f214 a (by omega)) ?_
  refine qv A9 ?_
  refine sg ?_
  iterate 2 refine qv A8 ?_
  refine qv (CB Ap Ak) ?_
  refine qv (EG Ak Br (hq:=hgk)) ?_
  refine qv Am ?_
  refine qv (CB Ap Ak) ?_
  refine qs (Gp Ak) ?_
  refine AJ ?_
  rw [hbs]
  refine rg ?_
  refine qv (AQ Cq Cr) ?_
  refine qv A8 ?_
  refine Bo (f215 h v (bump a k) hbf) ?_ (ha:=(CG Bh (CG (BS (L:=bump a k) (by simp only [AA,reduceIte,Nat.reduceEqDiff]<;>rfl) trivial (by first | exact hbl | rfl | omega | (simp;done) | (simp;omega)) rfl rfl (fun _=>trivial)) EH))) (hS:=(yE (d2:=1031) rfl (by (simp only [AA,reduceIte,Nat.reduceEqDiff]<;>rfl)) (by (simp only [AA,reduceIte,Nat.reduceEqDiff]<;>rfl))))
  refine qv A8 ?_
  iterate 2 refine qv Bf ?_
  iterate 2 refine qv A9 ?_
  refine sg ?_
  iterate 2 refine qv A8 ?_
  refine Bo (f216 (Jr h (bump a k)) (by omega) (fun j hj=>by have:=hsb.2 j (by omega);omega)) ?_ (ha:=(CG (BS (L:=Jr h (bump a k)) (by simp only [AA,reduceIte,Nat.reduceEqDiff]<;>rfl) trivial (by first | rfl | omega | (simp;done) | (simp;omega)) rfl rfl (fun _=>trivial)) EH))
  iterate 3 refine qv A9 ?_
  refine AP ?_
  exact x3 (hr:=(eu (by rw [Ko he0]) (hl:=by (try dsimp only)<;>omega))) (hr':=(CW (by rw [Ko he0,htl]))) (XM:=(CW (by rw [Ko he0])))
set_option maxHeartbeats 4000000 in
theorem f120 (h:Hp) (a:List Int) (i:Int):AR Tryz.prog 120 [Et h,ints a,i64 i] (.many [rI (M5 h a i).1,.dv (i64 (M5 h a i).2.1),.dv (i64 (M5 h a i).2.2)]):=by
 refine Bu Tryz.func120 rfl rfl (by rw [Tryz.ntmps120];simp) fun cx hP hn hg=>?_
 rw [Tryz.ntmps120] at hn
 rw [Bq,Bp]
 simp only [List.nil_append,List.append_nil,List.cons_append,BF,Nat.reduceAdd]
 refine sg ?_
 refine qp BX ?_
 iterate 3 refine qv A9 ?_
 refine sg ?_
 refine qv (AQ Cq Cr) ?_
 refine qv A8 ?_
 refine qr (D7 CO Ry Av) ?_
 refine Bo (f66 h [a] (by simp)) ?_ (ha:=(CG Bh (CG (Ed (L:=[a]) (by simp only [AA,reduceIte,Nat.reduceEqDiff]<;>rfl) trivial rfl (fun _=>trivial)) EH)))
 refine qv A9 ?_
 refine AJ ?_
 refine sg ?_
 refine qv A8 ?_
 refine qv BP ?_
 refine cd (fun hc0=>?_) (fun hc0=>?_)
 ·skip
  have he0:Cu h [a] ≠ 0:=by simpa using hc0
  have heb:=sW (i:=i) he0
  have zL:K3 h i [a] ≠ 0:=by rw [heb];exact he0
  refine sg ?_
  refine qv A8 ?_
  iterate 3 refine qv A9 ?_
  refine AP ?_
  exact x3 (hr:=(rN_ (by rw [Gu zL]))) (hr':=(CW (by rw [Gu zL]))) (XM:=(CW (by rw [Gu zL,heb])))
 ·skip
  have he0:Cu h [a]=0:=by simpa using hc0
  obtain ⟨v,Oh⟩:=Xo he0
  have h5:=v.n5
  have hal:=Oh.len
  have f:=Fit.yN Oh
  refine AY ?_
  refine AJ ?_
  refine sg ?_
  iterate 2 refine qv A8 ?_
  refine qv (BH CZ) ?_
  refine qv FW ?_
  refine Bo (f121 i 0 ((a.length:Int) - 1)) ?_
  refine qv Bn ?_
  refine cd (fun hc1=>?_) (fun hc1=>?_)
  ·skip
   have hno:=nD (l:=[a]) he0 (by rw [<- hal];simpa using hc1)
   refine sg ?_
   iterate 3 refine qv A9 ?_
   refine AP ?_
   exact x3 (hr:=(rN_ (by rw [Gu (by rw [hno];decide)]))) (hr':=(CW (by rw [Gu (by rw [hno];decide)]))) (XM:=(CW (by rw [Gu (by rw [hno];decide),hno])))
  ·skip
   obtain ⟨k,hk,rfl⟩:=yj (n:=h.ground.length) (by rw [<- hal];simpa using hc1)
   have zL:=nC (l:=[a]) he0 hk
   have hgk:=Ah (a:=a) (i:=k) (by omega)
   have hbk:=Oh.bd k hk
   have hbf:=P8 Oh hk
   have hbl:=Zg (a:=a) (k:=k)
   have hbs:a.set k (Az a k+1)=bump a k:=rfl
   have hsb:=eD v hbf
   have hsl:=O8 (h:=h) (a:=bump a k)
   have htl:=YV v hbf.hpg
   have hss:=aY h5 hsb.2
   refine AY ?_
   refine sg ?_
   refine qr (D7 Ap Jq Ak) ?_
   refine qv A8 ?_
   refine Qg (DK Ap Ap Jq Ak U7) ?_
   refine qv A9 ?_
   refine sg ?_
   iterate 2 refine qv A8 ?_
   refine qv (CB Ap Ak) ?_
   refine qv (EG Ak Br (hq:=hgk)) ?_
   refine qv Am ?_
   refine qv (CB Ap Ak) ?_
   refine qs (Gp Ak) ?_
   refine AJ ?_
   rw [hbs]
   refine rg ?_
   refine qv (AQ Cq Cr) ?_
   refine qv A8 ?_
   refine Bo (f160 h v (bump a k) hbf) ?_ (ha:=(CG Bh (CG (BS (L:=bump a k) (by simp only [AA,reduceIte,Nat.reduceEqDiff]<;>rfl) trivial (by first | exact hbl | rfl | omega | (simp;done) | (simp;omega)) rfl rfl (fun _=>trivial)) EH))) (hS:=(sJ (d2:=1041) rfl (by (simp only [AA,reduceIte,Nat.reduceEqDiff]<;>rfl)) (by (simp only [AA,reduceIte,Nat.reduceEqDiff]<;>rfl))))
   refine qv A8 ?_
   iterate 3 refine qv Bf ?_
   iterate 3 refine qv A9 ?_
   refine sg ?_
   refine qv A9 ?_
   refine AJ ?_
   refine sg ?_
   refine qv A9 ?_
   refine BD ?_
   refine Ag (ι:=Nat) (fun q=>⟨lk [(11,.sl 11 0 0 h.ground.length),(12,.sl 12 0 0 h.ground.length),(14,.dv (i64 (sm (Az (Jr h (bump a k))) q))),(15,.dv (i64 (q:Nat)))],AA [(11,0,some (Jv (LJ h (bump a k)))),(12,0,some (Jv (Jr h (bump a k))))]⟩) (fun q=>q <= h.ground.length) (fun q=>h.ground.length - q) 0 (by simp) (tl [(11,41),(12,1041)] (hF:=by simp [Ck,Aa,lk,AA,isLive,Ac,sm,hsl,htl]) (hM:=by simp [CV,Al,Aa,Ae,lk,AA,isLive,Ac,BK,BJ,Af,BI,BL,BO,BM,BN,sm,hsl,htl])) ?_
   intro q Aj
   refine AJ ?_
   refine sg ?_
   iterate 2 refine qv A8 ?_
   refine qv (Cg CZ) ?_
   refine qv BQ ?_
   refine cd (fun hc2=>?_) (fun hc2=>?_)
   ·try simp at hc2
    have hq:q < h.ground.length:=by omega
    have hgq:=Ah (a:=Jr h (bump a k)) (i:=q) (by omega)
    have hb2:=hsb.2 q hq
    have hsq:=aY (n:=q) (by omega) (fun i hi=>hsb.2 i (by omega))
    refine AY ?_
    refine AJ ?_
    refine BD ?_
    refine rg ?_
    iterate 3 refine qv A8 ?_
    refine qv (CB Ap Ak) ?_
    refine qv (EG Ak Br (hq:=hgq)) ?_
    refine qv Am ?_
    refine qv A9 ?_
    refine rg ?_
    refine qv A8 ?_
    refine qv Am ?_
    refine qv A9 ?_
    exact ⟨q+1,hq,(by simp only;omega),(tl [(11,11),(12,12)] (hF:=by simp [Ck,Aa,lk,AA,isLive,Ac,sm,hsl,htl]) (hM:=by simp [CV,Al,Aa,Ae,lk,AA,isLive,Ac,BK,BJ,Af,BI,BL,BO,BM,BN,sm,hsl,htl]))⟩
   ·try simp at hc2
    obtain rfl:q=h.ground.length:=by omega
    refine Ad ?_
    refine sg ?_
    iterate 2 refine qv A8 ?_
    iterate 3 refine qv A9 ?_
    refine AP ?_
    exact x3 (hr:=(eu (by rw [Ko zL]) (hl:=by (try dsimp only)<;>omega))) (hr':=(CW (by rw [Ko zL]))) (XM:=(CW (by rw [Ko zL])))
end Go.Ab.Tryz.H
namespace Go.Ab.Tryz
open Go Go.Ab Go.Proofs Go.Ab.Ci
open Go.Ab.Heap (Az Ah BZ)
structure Bg where
 worth:List (List Int)
abbrev KJ (b:Bg):DV:=.agg [.list (b.worth.map ints)]
def Bg.col (b:Bg) (i:Nat):List Int:=b.worth.getD i []
def Bg.dep (b:Bg):Nat:=(b.col 0).length
def Gb (d:Nat) (c:List Int):Bool:=(c.length == d) && !(c.any fun w=>!CX w (-50) 50)
def Ua (b:Bg):Bool:=CX (b.worth.length:Int) 1 6 && CX (b.dep:Int) 1 4 && b.worth.all (Gb b.dep)
def Nr (b:Bg):Int:=if Ua b then 0 else 1
def Z5 (b:Bg) (l:List Int):Bool:=(l.length == b.worth.length) && !(l.any fun n=>!CX n 0 (b.dep:Int))
def He (b:Bg) (l:List Int):Int:=if Ua b && Z5 b l then 0 else 1
def gap (l:List Int) (c:Nat):Bool:=CX (Az l c - Az l (c - 1)) (-1) 1
def IL (l:List Int):Bool:=(List.range l.length).all fun c=>decide (c=0) || gap l c
def JJ (b:Bg) (l:List Int):Int:=if He b l ≠ 0 then 1 else if IL l then 0 else 6
theorem Ef {b:Bg} {i:Nat} (h:i < b.worth.length):b.worth[i]?=some (b.col i):=by
 unfold Bg.col;rw [List.getD_eq_getElem?_getD,List.getElem?_eq_getElem h];rfl
theorem DY {n lo hi:Int}:CX n lo hi=true ↔ lo <= n /\ n <= hi:=by unfold CX;simp
theorem A0O {b:Bg} (h:CX (b.worth.length:Int) 1 6=true):0 < b.worth.length /\ b.worth.length <= 6:=by have:=DY.1 h;omega
theorem A0P {b:Bg} (h:CX (b.dep:Int) 1 4=true):0 < b.dep /\ b.dep <= 4:=by have:=DY.1 h;omega
structure PW (b:Bg):Prop where
 n0:0 < b.worth.length
 n6:b.worth.length <= 6
 d0:0 < b.dep
 d4:b.dep <= 4
 len:∀ i,i < b.worth.length -> (b.col i).length=b.dep
 bd:∀ i,i < b.worth.length -> ∀ x ∈ b.col i,-50 <= x /\ x <= 50
theorem PN {b:Bg}:Ua b=true ↔ PW b:=by
 unfold Ua
 simp only [Bool.and_eq_true]
 refine ⟨fun ⟨⟨h1,h2⟩,h3⟩=>?_,fun h=>⟨⟨DY.2 ⟨by have:=h.n0;omega,by have:=h.n6;omega⟩,DY.2 ⟨by have:=h.d0;omega,by have:=h.d4;omega⟩⟩,?_⟩⟩
 ·have h4:∀ i,i < b.worth.length -> Gb b.dep (b.col i)=true:=fun i hi=>List.all_eq_true.1 h3 _ (List.mem_of_getElem? (Ef hi))
  refine ⟨(A0O h1).1,(A0O h1).2,(A0P h2).1,(A0P h2).2,fun i hi=>?_,fun i hi x hx=>?_⟩
  ·have:=h4 i hi;unfold Gb at this;simp only [Bool.and_eq_true,beq_iff_eq] at this;exact this.1
  ·have:=h4 i hi;unfold Gb at this;simp only [Bool.and_eq_true,Bool.not_eq_true',List.any_eq_false] at this
   have h5:=this.2 x hx
   simp only [Bool.not_eq_true',Bool.not_eq_false] at h5
   exact DY.1 h5
 ·rw [List.all_eq_true]
  intro c hc
  obtain ⟨i,hi,rfl⟩:=List.getElem_of_mem hc
  have e:b.col i=b.worth[i]:=Option.some.inj ((Ef hi).symm.trans (List.getElem?_eq_getElem hi))
  rw [<- e]
  unfold Gb
  simp only [Bool.and_eq_true,beq_iff_eq,Bool.not_eq_true',List.any_eq_false]
  refine ⟨h.len i hi,fun x hx=>?_⟩
  simp only [Bool.not_eq_true',Bool.not_eq_false]
  exact DY.2 (h.bd i hi x hx)
theorem Y5 {b:Bg} (h:Ua b=false):Nr b=1:=by unfold Nr;rw [h];rfl
theorem A0Q {b:Bg} (h:PW b):Nr b=0:=by unfold Nr;rw [PN.2 h];rfl
theorem Y4 {b:Bg} (h:CX (b.worth.length:Int) 1 6=false):Nr b=1:=Y5 (by unfold Ua;rw [h];rfl)
theorem Y3 {b:Bg} (h:CX (b.dep:Int) 1 4=false):Nr b=1:=Y5 (by unfold Ua;rw [h,Bool.and_false];rfl)
theorem PL {b:Bg} {i:Nat} (hi:i < b.worth.length) (h:Gb b.dep (b.col i)=false):Nr b=1:=Y5 (by
 unfold Ua
 have:b.worth.all (Gb b.dep)=false:=List.all_eq_false.2 ⟨_,List.mem_of_getElem? (Ef hi),by simp [h]⟩
 rw [this,Bool.and_false])
theorem iE {b:Bg} (h1:CX (b.worth.length:Int) 1 6=true) (h2:CX (b.dep:Int) 1 4=true) (h3:∀ i,i < b.worth.length -> Gb b.dep (b.col i)=true):Nr b=0:=by
 unfold Nr Ua
 have:b.worth.all (Gb b.dep)=true:=List.all_eq_true.2 fun c hc=>by
  obtain ⟨i,hi,rfl⟩:=List.getElem_of_mem hc
  have e:b.col i=b.worth[i]:=Option.some.inj ((Ef hi).symm.trans (List.getElem?_eq_getElem hi))
  rw [<- e];exact h3 i hi
 rw [h1,h2,this];rfl
theorem UZ {b:Bg} (h:Nr b=0):PW b:=by
 refine PN.1 ?_
 unfold Nr at h
 split at h
 ·assumption
 ·cases h
theorem A4E {b:Bg} (h:¬ Nr b=0):Ua b=false:=by
 cases e:Ua b with
 | false=>rfl
 | true=>exact absurd (by unfold Nr;rw [e];rfl) h
theorem Ob {b:Bg} {l:List Int} (h:¬ Nr b=0):He b l=1 /\ Nr b=1:=by
 have:=A4E h
 unfold He Nr;rw [this];exact ⟨rfl,rfl⟩
theorem TH {b:Bg} {l:List Int} (h:l.length ≠ b.worth.length):He b l=1:=by
 unfold He Z5
 have:(l.length == b.worth.length)=false:=by simpa using h
 rw [this,Bool.false_and,Bool.and_false];rfl
theorem TG {b:Bg} {l:List Int} (h:(l.any fun n=>!CX n 0 (b.dep:Int))=true):He b l=1:=by
 unfold He Z5
 rw [h,Bool.not_true,Bool.and_false,Bool.and_false];rfl
theorem Z0 {b:Bg} {l:List Int} (h0:PW b) (h:l.length=b.worth.length) (h2:(l.any fun n=>!CX n 0 (b.dep:Int))=false):He b l=0:=by
 unfold He Z5
 rw [PN.2 h0,h2];simp [h]
structure Nu (b:Bg) (l:List Int):Prop where
 bg:PW b
 len:l.length=b.worth.length
 bd:∀ i,i < l.length -> 0 <= Az l i /\ Az l i <= b.dep
theorem nR {b:Bg} {l:List Int} (h:He b l=0):Nu b l:=by
 unfold He at h
 split at h
 ·rename_i hc
  simp only [Bool.and_eq_true] at hc
  obtain ⟨h1,h2⟩:=hc
  unfold Z5 at h2
  simp only [Bool.and_eq_true,beq_iff_eq,Bool.not_eq_true',List.any_eq_false,Bool.not_eq_false] at h2
  refine ⟨PN.1 h1,h2.1,fun i hi=>?_⟩
  have:=h2.2 _ (List.mem_of_getElem? (Ah hi))
  exact DY.1 this
 ·cases h
theorem Nu.v {b:Bg} {l:List Int} (h:Nu b l):He b l=0:=by
 refine Z0 h.bg h.len ?_
 rw [List.any_eq_false]
 intro x hx
 obtain ⟨i,hi,rfl⟩:=List.getElem_of_mem hx
 have h1:=h.bd i hi
 have h2:=Ah hi
 rw [List.getElem?_eq_getElem hi] at h2
 rw [Option.some.inj h2]
 simp only [Bool.not_eq_true',Bool.not_eq_false]
 exact DY.2 h1
theorem A2F {b:Bg} {l:List Int} (h:¬ He b l=0):He b l=1:=by
 unfold He at h ⊢
 split
 ·rename_i hc;rw [if_pos hc] at h;exact absurd rfl h
 ·rfl
theorem Po {l:List Int} {c:Nat} (h1:1 <= c) (h2:c < l.length) (h:gap l c=false):IL l=false:=by
 unfold IL
 exact List.all_eq_false.2 ⟨c,List.mem_range.2 h2,by simp [h];omega⟩
theorem SX {l:List Int} (h:∀ c,1 <= c -> c < l.length -> gap l c=true):IL l=true:=by
 unfold IL
 refine List.all_eq_true.2 fun c hc=>?_
 have:=List.mem_range.1 hc
 by_cases h0:c=0
 ·simp [h0]
 ·simp [h0,h c (by omega) this]
theorem Rh {b:Bg} {l:List Int} (h:¬ He b l=0):JJ b l=1 /\ He b l=1:=by unfold JJ;rw [if_pos h];exact ⟨rfl,A2F h⟩
theorem ny {b:Bg} {l:List Int} (h:He b l=0) (hr:IL l=false):JJ b l=6:=by unfold JJ;rw [if_neg (by simp [h]),hr];rfl
theorem XQ {b:Bg} {l:List Int} (h:He b l=0) (hr:IL l=true):JJ b l=0:=by unfold JJ;rw [if_neg (by simp [h]),hr];rfl
theorem o7 {b:Bg} {l:List Int} (h:JJ b l=0):Nu b l /\ IL l=true:=by
 unfold JJ at h
 split at h
 ·cases h
 ·rename_i hc
  split at h
  ·rename_i hr;exact ⟨nR (by simpa using hc),hr⟩
  ·cases h
theorem oW {l:List Int} {c:Nat} (hb:∀ i,i < l.length -> 0 <= Az l i /\ Az l i <= 5) (h1:1 <= c) (h2:c < l.length):-5 <= Az l c - Az l (c - 1) /\ Az l c - Az l (c - 1) <= 5:=by
 have:=hb c h2;have:=hb (c - 1) (by omega);omega
theorem f108 (n lo hi:Int):AR Tryz.prog 108 [i64 n,i64 lo,i64 hi] (.one (.dv (.bool (CX n lo hi)))):=by
 refine Bu Tryz.func108 rfl rfl (by rw [Tryz.ntmps108];simp) fun cx hP hn hg=>?_
 rw [Tryz.ntmps108] at hn
 rw [Bq,Bp]
 simp only [List.nil_append,List.append_nil,List.cons_append,BF,Nat.reduceAdd]
 refine sg ?_
 refine qv A9 ?_
 refine sg ?_
 iterate 2 refine qv A8 ?_
 refine qv IU ?_
 refine qx A8 (fun Gh=>?_) (fun Gh=>?_)
 ·try simp at Gh
  iterate 2 refine qv A8 ?_
  refine qv IU ?_
  refine qv Ai ?_
  refine qv A9 ?_
  refine AP ?_
  exact x1 (hr:=(DX (by first | (simp_all [CX];done) | (simp_all [CX];omega))))
 ·try simp at Gh
  iterate 3 refine qk ?_
  refine qv Ai ?_
  refine qv A9 ?_
  refine AP ?_
  exact x1 (hr:=(DX (by first | (simp_all [CX];done) | (simp_all [CX];omega))))
theorem f109 (b:Bg) (h0:0 < b.worth.length):AR Tryz.prog 109 [KJ b] (.one (.dv (i64 (b.dep:Int)))):=by
 have hg0:=Ef h0
 refine Bu Tryz.func109 rfl rfl (by rw [Tryz.ntmps109];simp) fun cx hP hn hg=>?_
 rw [Tryz.ntmps109] at hn
 rw [Bq,Bp]
 simp only [List.nil_append,List.append_nil,List.cons_append,BF,Nat.reduceAdd]
 refine sg ?_
 refine qp BX ?_
 refine qv A9 ?_
 refine sg ?_
 refine qv (AB Cb) ?_
 refine qv (AL DF Da) ?_
 first | refine qv (BA CO Av) ?_ | refine qv (Bd CO Av) ?_
 refine qv (Bb Av Bl) ?_
 refine qv (BH CZ) ?_
 refine qv A9 ?_
 refine AP ?_
 exact x1 (hr:=(CW))
theorem f156 (b:Bg) (h0:0 < b.worth.length):AR Tryz.prog 156 [KJ b] (.one (.dv (i64 (b.dep:Int)))):=by
 have hg0:=Ef h0
 refine Bu Tryz.func156 rfl rfl (by rw [Tryz.ntmps156];simp) fun cx hP hn hg=>?_
 rw [Tryz.ntmps156] at hn
 rw [Bq,Bp]
 simp only [List.nil_append,List.append_nil,List.cons_append,BF,Nat.reduceAdd]
 refine sg ?_
 refine qp BX ?_
 refine qv A9 ?_
 refine sg ?_
 refine qv (AB Cb) ?_
 refine qv (AL DF Da) ?_
 first | refine qv (BA CO Av) ?_ | refine qv (Bd CO Av) ?_
 refine qv (Bb Av Bl) ?_
 refine qv (BH CZ) ?_
 refine qv A9 ?_
 refine AP ?_
 exact x1 (hr:=(CW))
theorem f132 (x:Int):AR Tryz.prog 132 [i64 x] (.one (.dv (.bool (!CX x (-50) 50)))):=by
 refine Bu Tryz.func132 rfl rfl (by rw [Tryz.ntmps132];simp) fun cx hP hn hg=>?_
 rw [Tryz.ntmps132] at hn
 rw [Bq,Bp]
 simp only [List.nil_append,List.append_nil,List.cons_append,BF,Nat.reduceAdd]
 refine sg ?_
 refine qv A9 ?_
 refine sg ?_
 refine qv A8 ?_
 refine Bo (f108 x (-50) 50) ?_
 refine qv Bn ?_
 refine qv A9 ?_
 refine AP ?_
 exact x1 (hr:=(DX))
theorem f93 (b:Bg):AR Tryz.prog 93 [KJ b] (.one (.dv (i64 (Nr b)))):=by
 refine Bu Tryz.func93 rfl rfl (by rw [Tryz.ntmps93];simp) fun cx hP hn hg=>?_
 rw [Tryz.ntmps93] at hn
 rw [Bq,Bp]
 simp only [List.nil_append,List.append_nil,List.cons_append,BF,Nat.reduceAdd]
 refine sg ?_
 refine qp BX ?_
 refine qv A9 ?_
 refine AJ ?_
 refine sg ?_
 refine qv (AB Cb) ?_
 refine qv (AL DF Da) ?_
 refine qv (BH Ka) ?_
 refine Bo (f108 (b.worth.length) 1 6) ?_
 refine qv Bn ?_
 refine qx A8 (fun Gh=>?_) (fun Gh=>?_)
 ·try simp at Gh
  iterate 4 refine qk ?_
  refine qv Ai ?_
  refine Dw (hb:=by first | rfl | simp | simp_all) (ht:=?_)
  refine sg ?_
  refine qv A9 ?_
  refine AP ?_
  exact x1 (hr:=(CW (by first | rw [Y3 hdn] | rw [Y4 (by simpa using Gh)])))
 ·try simp at Gh
  have h06:=A0O (b:=b) (by simpa using Gh)
  refine qv (AQ D9 DW) ?_
  refine Bo (f109 b h06.1) ?_
  refine Bo (f108 b.dep 1 4) ?_
  refine qv Bn ?_
  refine qv Ai ?_
  refine cd (fun hc0=>?_) (fun hc0=>?_)
  ·skip
   have hdn:CX (b.dep:Int) 1 4=false:=by simpa using hc0
   refine sg ?_
   refine qv A9 ?_
   refine AP ?_
   exact x1 (hr:=(CW (by first | rw [Y3 hdn] | rw [Y4 (by simpa using Gh)])))
  ·skip
   have hd4:=A0P (b:=b) (by simpa using hc0)
   have h6:CX (b.worth.length:Int) 1 6=true:=by simpa using Gh
   have hd:CX (b.dep:Int) 1 4=true:=by simpa using hc0
   refine AY ?_
   refine AJ ?_
   refine sg ?_
   refine qv (AB Cb) ?_
   refine qv (AL DF Da) ?_
   refine qv (BH Ka) ?_
   refine qv A8 ?_
   refine BD ?_
   refine Ag (ι:=Nat) (fun i=>⟨lk [(1,.pt 1 0 0),(17,.dv (.list ((b.worth).map ints))),(18,.dv (i64 ((b.worth.length:Int)))),(19,.dv (i64 (i:Nat)))],AA [(1,0,some ⟨[.dv (.list ((b.worth).map ints))],0,24,0,false⟩)]⟩) (fun i=>i <= b.worth.length /\ ∀ j,j < i -> Gb b.dep (b.col j)=true) (fun i=>b.worth.length - i) 0 (by simp) (tl [(1,1)]) ?_
   intro i Aj
   refine sg ?_
   refine qv BQ ?_
   refine AJ ?_
   refine cd (fun hc1=>?_) (fun hc1=>?_)
   ·try simp at hc1
    refine AY ?_
    refine AJ ?_
    refine BD ?_
    refine sg ?_
    have hi:i < b.worth.length:=by omega
    have hgc:=Ef hi
    first | refine qv (BA CO Av) ?_ | refine qv (Bd CO Av) ?_
    refine qv (Bb Av Bl) ?_
    refine qv A9 ?_
    refine sg ?_
    refine qv A8 ?_
    refine qv (BH CZ) ?_
    refine qv (AQ D9 DW) ?_
    refine Bo (f109 b h06.1) ?_
    refine qv BP ?_
    refine qx A8 (fun bZ=>?_) (fun bZ=>?_)
    ·try simp at bZ
     iterate 2 refine qk ?_
     refine qv Ai ?_
     refine Dw (hb:=by first | rfl | simp | simp_all) (ht:=?_)
     refine sg ?_
     refine qv A9 ?_
     refine AP ?_
     exact x1 (hr:=(CW (by rw [PL hi (by unfold Gb;first | (rw [show ((b.col i).length == b.dep)=false by simp;intro e;exact bZ (by exact_mod_cast e)];rfl) | (simp [hc2]))])))
    ·try simp at bZ
     have hle:(b.col i).length=b.dep:=by exact_mod_cast bZ
     refine qv A8 ?_
     refine Bo (f106 (b.col i) 132 [] [] (fun x=>!CX x (-50) 50) (fun x _=>f132 x) (by omega)) ?_
     refine qv Ai ?_
     refine cd (fun hc2=>?_) (fun hc2=>?_)
     ·try simp at hc2
      refine sg ?_
      refine qv A9 ?_
      refine AP ?_
      exact x1 (hr:=(CW (by rw [PL hi (by unfold Gb;first | (rw [show ((b.col i).length == b.dep)=false by simp;intro e;exact bZ (by exact_mod_cast e)];rfl) | (simp [hc2]))])))
     ·try simp at hc2
      refine AY ?_
      refine rg ?_
      refine qv Am ?_
      refine qv A8 ?_
      refine ⟨i+1,?_,(by simp only;omega),(tl [(1,1)])⟩
      refine ⟨by omega,fun j hj=>?_⟩
      rcases Nat.lt_or_ge j i with h1 | h1
      ·exact Aj.2 j h1
      ·obtain rfl:j=i:=by omega
       unfold Gb
       rw [show (b.col j).length=b.dep by exact_mod_cast bZ]
       simpa using hc2
   ·try simp at hc1
    refine Ad ?_
    refine sg ?_
    refine qv A9 ?_
    refine AP ?_
    exact x1 (hr:=(CW (by rw [iE h6 hd fun j hj=>Aj.2 j (by omega)])))
theorem f107 (b:Bg) (h0:0 < b.worth.length) (x:Int):AR Tryz.prog 107 [i64 x,.DU [.list (b.worth.map ints)]] (.one (.dv (.bool (!CX x 0 (b.dep:Int))))):=by
 refine Bu Tryz.func107 rfl rfl (by rw [Tryz.ntmps107];simp) fun cx hP hn hg=>?_
 rw [Tryz.ntmps107] at hn
 rw [Bq,Bp]
 simp only [List.nil_append,List.append_nil,List.cons_append,BF,Nat.reduceAdd]
 refine sg ?_
 refine qv A9 ?_
 refine sg ?_
 refine qv A8 ?_
 refine qv (A2E D9 DW) ?_
 refine Bo (f109 b h0) ?_
 refine Bo (f108 x 0 (b.dep:Int)) ?_
 refine qv Bn ?_
 refine qv A9 ?_
 refine AP ?_
 exact x1 (hr:=(DX))
theorem f69 (b:Bg) (l:List Int):AR Tryz.prog 69 [KJ b,ints l] (.one (.dv (i64 (He b l)))):=by
 refine Bu Tryz.func69 rfl rfl (by rw [Tryz.ntmps69];simp) fun cx hP hn hg=>?_
 rw [Tryz.ntmps69] at hn
 rw [Bq,Bp]
 simp only [List.nil_append,List.append_nil,List.cons_append,BF,Nat.reduceAdd]
 refine sg ?_
 refine qp BX ?_
 refine qv A9 ?_
 refine AJ ?_
 refine sg ?_
 refine qv (AQ D9 DW) ?_
 refine Bo (f93 b) ?_
 refine qv A9 ?_
 refine sg ?_
 refine qv A8 ?_
 refine qv BP ?_
 refine cd (fun hc0=>?_) (fun hc0=>?_)
 ·skip
  have hv0:¬ Nr b=0:=by simpa using hc0
  refine sg ?_
  refine qv A8 ?_
  refine qv A9 ?_
  refine AP ?_
  exact x1 (hr:=(CW (by rw [(Ob (l:=l) hv0).1,(Ob (l:=l) hv0).2])))
 ·skip
  have hv0:Nr b=0:=by simpa using hc0
  have ok:=UZ hv0
  have hn0:=ok.n0
  have Uz:=ok.n6
  refine AY ?_
  refine AJ ?_
  refine sg ?_
  refine qv A8 ?_
  refine qv (BH CZ) ?_
  refine qv (AB Cb) ?_
  refine qv (AL DF Da) ?_
  refine qv (BH Ka) ?_
  refine qv BP ?_
  refine qx A8 (fun QE=>?_) (fun QE=>?_)
  ·try simp at QE
   iterate 3 refine qk ?_
   refine qv Ai ?_
   refine Dw (hb:=by first | rfl | simp | simp_all) (ht:=?_)
   refine sg ?_
   refine qv A9 ?_
   refine AP ?_
   exact x1 (hr:=(CW (by first | rw [TG (by simpa using hc1)] | rw [TH (by intro e;exact QE (by exact_mod_cast e))])))
  ·try simp at QE
   have hle:l.length=b.worth.length:=by exact_mod_cast QE
   refine qv A8 ?_
   refine qfn ?_
   refine Bo (f106 l 107 [] [.DU [.list (b.worth.map ints)]] (fun n=>!CX n 0 (b.dep:Int)) (fun x _=>f107 b hn0 x) (by omega)) ?_
   refine qv Ai ?_
   refine cd (fun hc1=>?_) (fun hc1=>?_)
   ·try simp at hc1
    refine sg ?_
    refine qv A9 ?_
    refine AP ?_
    exact x1 (hr:=(CW (by first | rw [TG (by simpa using hc1)] | rw [TH (by intro e;exact QE (by exact_mod_cast e))])))
   ·try simp at hc1
    refine AY ?_
    refine sg ?_
    refine qv A9 ?_
    refine AP ?_
    exact x1 (hr:=(CW (by rw [Z0 ok hle (by simpa using hc1)])))
theorem f70 (l:List Int) (hl:l.length < 2000000) (hb:∀ i,i < l.length -> 0 <= Az l i /\ Az l i <= 5):AR Tryz.prog 70 [ints l] (.one (.dv (.bool (IL l)))):=by
 refine Bu Tryz.func70 rfl rfl (by rw [Tryz.ntmps70];simp) fun cx hP hn hg=>?_
 rw [Tryz.ntmps70] at hn
 rw [Bq,Bp]
 simp only [List.nil_append,List.append_nil,List.cons_append,BF,Nat.reduceAdd]
 refine sg ?_
 refine qv A9 ?_
 refine AJ ?_
 refine sg ?_
 refine qv A9 ?_
 refine BD ?_
 refine Ag (ι:=Nat) (fun c=>⟨lk [(0,.dv (ints (l))),(3,.dv (i64 (c:Nat)))],AA []⟩) (fun c=>(1 <= c) /\ (∀ j,1 <= j -> j < l.length -> j < c -> gap l j=true)) (fun c=>l.length - c) 1 ⟨Nat.le_refl _,fun j h1 h2 h3=>absurd h3 (by omega)⟩ (tl []) ?_
 intro c Aj
 refine AJ ?_
 refine sg ?_
 iterate 2 refine qv A8 ?_
 refine qv (BH CZ) ?_
 refine qv BQ ?_
 refine cd (fun hc0=>?_) (fun hc0=>?_)
 ·try simp at hc0
  refine AY ?_
  refine AJ ?_
  refine BD ?_
  refine AJ ?_
  have hc:c < l.length:=by omega
  have hgc:=Ah hc
  have hgd:=Ah (a:=l) (i:=c - 1) (by omega)
  have hgp:=oW hb Aj.1 hc
  have hcast:((c:Nat):Int) - 1=((c - 1:Nat):Int):=by omega
  refine rd mixed ?_
  iterate 2 refine zv A8 ?_
  first | refine zv (BA Ap Ak) ?_ | refine zv (Bd Ap Ak) ?_
  refine zv (Bb Ak Br) ?_
  iterate 2 refine zv A8 ?_
  refine zv FW ?_
  rw [hcast]
  first | refine zv (BA Ap Ak) ?_ | refine zv (Bd Ap Ak) ?_
  refine zv (Bb Ak Br) ?_
  refine zv FW ?_
  refine GA (R:=[]) (f108 (Az l c - Az l (c - 1)) (-1) 1) ?_
  refine zv Bn ?_
  refine ⟨by rfl,?_⟩
  refine cd (fun hc1=>?_) (fun hc1=>?_)
  ·try simp at hc1
   refine sg ?_
   refine qv A9 ?_
   refine AP ?_
   exact x1 (hr:=(DX (by rw [Po Aj.1 hc (by simpa [gap] using hc1)])))
  ·try simp at hc1
   refine AY ?_
   refine rg ?_
   refine qv A8 ?_
   refine qv Am ?_
   refine qv A9 ?_
   exact ⟨c+1,⟨by omega,fun j h1 h2 h3=>by
    rcases Nat.lt_or_ge j c with h4 | h4
    ·exact Aj.2 j h1 h2 h4
    ·obtain rfl:j=c:=by omega
     unfold gap;simpa using hc1⟩,(by simp only;omega),(tl [])⟩
 ·try simp at hc0
  refine Ad ?_
  refine sg ?_
  refine qv A9 ?_
  refine AP ?_
  exact x1 (hr:=(DX (by rw [SX fun j h1 h2=>Aj.2 j h1 h2 (by omega)])))
theorem f27 (b:Bg) (l:List Int):AR Tryz.prog 27 [KJ b,ints l] (.one (.dv (i64 (JJ b l)))):=by
 refine Bu Tryz.func27 rfl rfl (by rw [Tryz.ntmps27];simp) fun cx hP hn hg=>?_
 rw [Tryz.ntmps27] at hn
 rw [Bq,Bp]
 simp only [List.nil_append,List.append_nil,List.cons_append,BF,Nat.reduceAdd]
 refine sg ?_
 refine qp BX ?_
 refine qv A9 ?_
 refine AJ ?_
 refine sg ?_
 refine qv (AQ D9 DW) ?_
 refine qv A8 ?_
 refine Bo (f69 b l) ?_
 refine qv A9 ?_
 refine sg ?_
 refine qv A8 ?_
 refine qv BP ?_
 refine cd (fun hc0=>?_) (fun hc0=>?_)
 ·skip
  have hv0:¬ He b l=0:=by simpa using hc0
  refine sg ?_
  refine qv A8 ?_
  refine qv A9 ?_
  refine AP ?_
  exact x1 (hr:=(CW (by rw [(Rh hv0).1,(Rh hv0).2])))
 ·skip
  have hv0:He b l=0:=by simpa using hc0
  have ok:=nR hv0
  have Uz:=ok.bg.n6
  have hd4:=ok.bg.d4
  have hle:=ok.len
  refine AY ?_
  refine AJ ?_
  refine sg ?_
  refine qv A8 ?_
  refine Bo (f70 l (by omega) (fun i hi=>by have:=ok.bd i hi;omega)) ?_
  refine qv Bn ?_
  refine cd (fun hc1=>?_) (fun hc1=>?_)
  ·try simp at hc1
   refine sg ?_
   refine qv A9 ?_
   refine AP ?_
   exact x1 (hr:=(CW (by rw [ny hv0 (by simpa using hc1)])))
  ·try simp at hc1
   refine AY ?_
   refine sg ?_
   refine qv A9 ?_
   refine AP ?_
   exact x1 (hr:=(CW (by rw [XQ hv0 (by simpa using hc1)])))
end Go.Ab.Tryz
