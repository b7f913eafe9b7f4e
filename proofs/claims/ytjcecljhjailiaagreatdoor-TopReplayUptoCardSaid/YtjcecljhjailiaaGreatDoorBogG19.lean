/- BogH6, HeapT2, BogH7, BogH8, BogC1. -/
import Derived.Test.YtjcecljhjailiaaGreatDoorBogG18
import Derived.Test.YtjcecljhjailiaaGreatDoorBogG07
import Derived.Test.YtjcecljhjailiaaGreatDoorBogG16
import Derived.Test.YtjcecljhjailiaaGreatDoorBogG15
set_option linter.all false
namespace Go.Ab.Tryz.H
open Go Go.Ab Go.Ab.Tryz Go.Proofs Go.Ab.Heap
theorem QK {a l:Int} (ha:0 <= a) (hl:1 <= l):0 <= a.tdiv l /\ a.tdiv l * l <= a /\ a.tdiv l <= a /\ (l <= a -> 1 <= a.tdiv l) /\ (a < l -> a.tdiv l=0):=by
 rw [Int.tdiv_eq_ediv_of_nonneg ha]
 have h1:=Int.ediv_nonneg ha (show 0 <= l by omega)
 have h2:=Int.ediv_mul_le a (show l ≠ 0 by omega)
 have h3:=Int.mul_nonneg h1 (show 0 <= l - 1 by omega)
 rw [Int.mul_sub,Int.mul_one] at h3
 refine ⟨h1,h2,by omega,fun h=>?_,fun h=>Int.ediv_eq_zero_of_lt ha h⟩
 exact Int.le_ediv_of_mul_le (by omega) (by omega)
structure Fit (h:Hp) (a:List Int):Prop where
 hpg:sO h a
 bd:∀ j,j < h.ground.length -> Az a j <= 200000
theorem Fit.sum {h:Hp} (v:VH h) {a:List Int} (f:Fit h a):sm (Az a) h.ground.length <= 1000000:=by
 have h1:=LC (f:=Az a) (g:=fun _=>200000) (n:=h.ground.length) f.bd
 rw [JA] at h1
 have:=v.n5;omega
theorem Fit.cb {h:Hp} (v:VH h) {a c t:List Int} (f:Fit h a) (I:GZ h a c t):(∀ j,j < h.ground.length -> 0 <= Az c j /\ Az c j <= 1000000) /\ ∀ j,j < h.ground.length -> 0 <= Az t j /\ Az t j <= 5000000:=by
 have hs:=f.sum v
 refine ⟨I.cb v hs,fun j hj=>?_⟩
 have h1:=I.bd v f.hpg.nn hs j hj
 have:=v.n5
 have h2:(h.ground.length:Int) * 1000000 <= 5000000:=by omega
 omega
theorem Fit.of30 {h:Hp} {a:List Int} (x:Nq h a):Fit h a:=⟨x.hpg,fun j hj=>by have:=x.bd j hj;omega⟩
set_option maxHeartbeats 4000000 in
theorem f215 (h:Hp) (v:VH h) (a:List Int) (f:Fit h a):AR Tryz.prog 215 [GX h,ints a] (.many [rI (Ua h a),rI (LY h a)]):=by
 have h5:=v.n5
 have hal:=f.hpg.len
 refine Bv Tryz.func215 rfl rfl (by rw [Tryz.ntmps215];simp) fun cx hP hn hg=>?_
 rw [Tryz.ntmps215] at hn
 rw [Br,Bq]
 simp only [List.nil_append,List.append_nil,List.cons_append,BH,Nat.reduceAdd]
 refine sg ?_
 refine qp Bu ?_
 iterate 2 refine qv A9 ?_
 refine PN (ι:=List Int × List Int) 0 (fun q=>⟨lk [(2,.pt 2 0 0),(4,.sl 4 0 0 h.ground.length),(5,.sl 5 0 0 h.ground.length)],AA [(2,0,some ⟨[.dv (.list (h.links.map ints)),.dv (ints h.ground)],0,27,0,false⟩),(4,0,some (SK q.1)),(5,0,some (SK q.2))]⟩) (fun q=>GZ h a q.1 q.2) (fun q=>WC h a q.2) rfl ?_ (fun q OM=>?_)
 ·skip
  refine sg ?_
  refine qv A8 ?_
  refine CF (f214 a (by omega)) ?_
  refine qv A9 ?_
  refine sg ?_
  refine qv A8 ?_
  refine qv (BD Cj) ?_
  refine qr (TW BG Nu Aw ZY) ?_
  refine qv A9 ?_
  refine AL ?_
  refine gT ?_
  refine EF.le (S0:=(fun q:List Int × List Int=>(⟨lk [(2,.pt 2 0 0),(4,.sl 4 0 0 h.ground.length),(5,.sl 5 0 0 h.ground.length)],AA [(2,0,some ⟨[.dv (.list (h.links.map ints)),.dv (ints h.ground)],0,27,0,false⟩),(4,0,some (SK q.1)),(5,0,some (SK q.2))]⟩:St)) (a,List.replicate h.ground.length 0)) (tl [(2,2),(4,9),(5,12)] (hF:=by simp [DK,AX,lk,AA,isLive,AZ,hal]) (hM:=by simp [Cm,Ar,AX,Aa,lk,AA,isLive,AZ,BO,BN,Al,BL,BP,BS,BQ,BR,hal])) ((fun H:∀ q:List Int × List Int,(GZ h a q.1 q.2) -> EF cx _ _ (⟨lk [(2,.pt 2 0 0),(4,.sl 4 0 0 h.ground.length),(5,.sl 5 0 0 h.ground.length)],AA [(2,0,some ⟨[.dv (.list (h.links.map ints)),.dv (ints h.ground)],0,27,0,false⟩),(4,0,some (SK q.1)),(5,0,some (SK q.2))]⟩:St)=>H _ (GZ.start f.hpg.len f.hpg.nn)) (fun q OM=>?_))
  have hcb:=f.cb v OM
  have hcl:=OM.lc
  have htl:=OM.lt
  refine AL ?_
  refine sg ?_
  refine qv (AY Dp Dt) ?_
  refine qv A8 ?_
  refine CF (f130 h v q.1 hcl) ?_ (ha:=(CV Bo (CV (Bc (L:=q.1) (by simp only [AA,reduceIte,Nat.reduceEqDiff]<;>rfl) trivial (by first | rfl | omega | (simp;done) | (simp;omega)) rfl rfl (fun _=>trivial)) FI)))
  refine qv A9 ?_
  refine sg ?_
  refine qv A8 ?_
  refine qv FT ?_
  refine cd (fun hc0=>?_) (fun hc0=>?_)
  ·skip
   rcases I4 h q.1 with ⟨e,_⟩ | ⟨i,hi,e,hp⟩
   ·exact absurd hc0 (by rw [e];simp)
   rw [e]
   have hgi:=Ap (a:=q.1) (i:=i) (by omega)
   have hgt:=Ap (a:=q.2) (i:=i) (by omega)
   have hbi:=hcb.1 i hi
   have hbt:=hcb.2 i hi
   have hL1:=v.om hi
   have qB:=QK hbi.1 hL1
   refine AL ?_
   refine rd mixed ?_
   iterate 2 refine zv A8 ?_
   refine zv (CR BG Aw) ?_
   refine zv (Ig Aw Bw (hq:=hgi)) ?_
   refine zv (AY Dp Dt) ?_
   refine zv A8 ?_
   refine Kz (R:=[]) (f166 h v i hi) ?_
   refine zv tF ?_
   refine zv A9 ?_
   refine ⟨by rfl,?_⟩
   refine AL ?_
   obtain ⟨k,hke⟩:∃ k,k=(Az q.1 i).tdiv (h.sp.lim i):=⟨_,rfl⟩
   rw [<- hke]
   rw [<- hke] at qB
   have hk:=qB
   have hk1:=qB.2.2.2.1 hp
   have hms:=QN v OM f.hpg.nn hi hk1 qB.2.1
   refine rg ?_
   refine qv (AY Dp Dt) ?_
   iterate 3 refine qv A8 ?_
   refine CY (f233 h v q.1 i k hcl hi (fun j hj=>by have:=hcb.1 j hj;omega) (by omega)) [] [(100000,4)] [4] ?_
   refine sg ?_
   iterate 2 refine qv A8 ?_
   refine qv (CR BG Aw) ?_
   refine qv (Ig Aw Bw (hq:=hgt)) ?_
   refine qv A8 ?_
   refine qv Aq ?_
   refine qv (CR BG Aw) ?_
   first | refine qs (KI Aw) ?_ | refine qs (Cu Aw) ?_
   refine Y9 ?_
   exact ⟨rfl,(QC h q.1 i k,q.2.set i (Az q.2 i+k)),OM.step v hi hk.1 hk.2.1,(tl [(2,2),(4,4),(5,5)] (hF:=by simp [DK,AX,lk,AA,isLive,AZ,hal]) (hM:=by simp [Cm,Ar,AX,Aa,lk,AA,isLive,AZ,BO,BN,Al,BL,BP,BS,BQ,BR,hal]))⟩
  ·skip
   have hcalm:I8 h q.1:=by
    rcases I4 h q.1 with ⟨_,e⟩ | ⟨i,hi,e,hp⟩
    ·exact e
    ·exact absurd hc0 (by rw [e];simp)
   have hdn:=OM.done hcalm
   refine Af ?_
   refine sg ?_
   iterate 2 refine qv A8 ?_
   iterate 2 refine qv A9 ?_
   refine AV ?_
   exact x2 (hr:=(sj (by rw [hdn.1]) (hl:=by omega))) (hr':=(sj (by rw [hdn.2]) (hl:=by omega)))
 ·skip
  have hcb:=f.cb v OM
  have hcl:=OM.lc
  have htl:=OM.lt
  refine AL ?_
  refine Af ?_
  refine AL ?_
  refine sg ?_
  refine qv (AY Dp Dt) ?_
  refine qv A8 ?_
  refine CF (f130 h v q.1 hcl) ?_ (ha:=(CV Bo (CV (Bc (L:=q.1) (by simp only [AA,reduceIte,Nat.reduceEqDiff]<;>rfl) trivial (by first | rfl | omega | (simp;done) | (simp;omega)) rfl rfl (fun _=>trivial)) FI)))
  refine qv A9 ?_
  refine sg ?_
  refine qv A8 ?_
  refine qv FT ?_
  refine cd (fun hc0=>?_) (fun hc0=>?_)
  ·skip
   rcases I4 h q.1 with ⟨e,_⟩ | ⟨i,hi,e,hp⟩
   ·exact absurd hc0 (by rw [e];simp)
   rw [e]
   have hgi:=Ap (a:=q.1) (i:=i) (by omega)
   have hgt:=Ap (a:=q.2) (i:=i) (by omega)
   have hbi:=hcb.1 i hi
   have hbt:=hcb.2 i hi
   have hL1:=v.om hi
   have qB:=QK hbi.1 hL1
   refine AL ?_
   refine rd mixed ?_
   iterate 2 refine zv A8 ?_
   refine zv (CR BG Aw) ?_
   refine zv (Ig Aw Bw (hq:=hgi)) ?_
   refine zv (AY Dp Dt) ?_
   refine zv A8 ?_
   refine Kz (R:=[]) (f166 h v i hi) ?_
   refine zv tF ?_
   refine zv A9 ?_
   refine ⟨by rfl,?_⟩
   refine AL ?_
   obtain ⟨k,hke⟩:∃ k,k=(Az q.1 i).tdiv (h.sp.lim i):=⟨_,rfl⟩
   rw [<- hke]
   rw [<- hke] at qB
   have hk:=qB
   have hk1:=qB.2.2.2.1 hp
   have hms:=QN v OM f.hpg.nn hi hk1 qB.2.1
   refine rg ?_
   refine qv (AY Dp Dt) ?_
   iterate 3 refine qv A8 ?_
   refine CY (f233 h v q.1 i k hcl hi (fun j hj=>by have:=hcb.1 j hj;omega) (by omega)) [] [(100000,4)] [4] ?_
   refine sg ?_
   iterate 2 refine qv A8 ?_
   refine qv (CR BG Aw) ?_
   refine qv (Ig Aw Bw (hq:=hgt)) ?_
   refine qv A8 ?_
   refine qv Aq ?_
   refine qv (CR BG Aw) ?_
   first | refine qs (KI Aw) ?_ | refine qs (Cu Aw) ?_
   refine Y9 ?_
   exact ⟨rfl,(QC h q.1 i k,q.2.set i (Az q.2 i+k)),⟨OM.step v hi hk.1 hk.2.1,hms⟩,(tl [(2,2),(4,4),(5,5)] (hF:=by simp [DK,AX,lk,AA,isLive,AZ,hal]) (hM:=by simp [Cm,Ar,AX,Aa,lk,AA,isLive,AZ,BO,BN,Al,BL,BP,BS,BQ,BR,hal]))⟩
  ·skip
   have hcalm:I8 h q.1:=by
    rcases I4 h q.1 with ⟨_,e⟩ | ⟨i,hi,e,hp⟩
    ·exact e
    ·exact absurd hc0 (by rw [e];simp)
   have hdn:=OM.done hcalm
   refine Af ?_
   refine sg ?_
   iterate 2 refine qv A8 ?_
   iterate 2 refine qv A9 ?_
   refine AV ?_
   exact x2 (hr:=(sj (by rw [hdn.1]) (hl:=by omega))) (hr':=(sj (by rw [hdn.2]) (hl:=by omega)))
end Go.Ab.Tryz.H
namespace Go.Ab.Heap
open Go Go.Ab
section
variable {l:List (Nat × SV)} {m:List (Nat × Nat × Option Au)} {d d2 g g2:Nat} {k:IntKind} {e:TypeId} {L L2:List Int} {x y:DV}
theorem uw (hd:d+1000=d2) (hg:(AA m d).1=g) (hg2:(AA m d2).1=g2):(CG d ⟨lk l,AA m⟩ (.many [rK k e L,rK k e L2])).app ⟨lk l,AA m⟩=⟨lk ((d,.Em [.sl d (g+1) 0 L.length,.sl d2 (g2+1) 0 L2.length]) :: l),AA ((d2,g2+1,some (QX k e L2)) :: (d,g+1,some (QX k e L)) :: m)⟩:=by
 subst hd;subst hg;subst hg2
 simp only [rK,CG,Eff.app,E9,Cw,Oh,Gg,D6,EY,EM,Nat.mul_zero,Nat.add_zero,Nat.mul_one,Nat.zero_add,List.map_map]
 simp [QX,Function.comp_def,AA]
 rfl
end
end Go.Ab.Heap
namespace Go.Ab.Tryz.H
open Go Go.Ab Go.Ab.Tryz Go.Proofs Go.Ab.Heap
abbrev SL (L:List (List Int)):Au:=⟨L.map fun r=>.dv (ints r),1,25,0,true⟩
theorem Et {ok:Nat -> Prop} {Cv:DV -> Prop} {M:Nat -> Nat × Option Au} {t g n:Nat} {L:List (List Int)} (hM:M t=(g,some (SL L))) (hst:ok 0) (hl:L.length=n) (hd:∀ l,Cv (ints l)):Data ok Cv M (.sl t g 0 n) (.list (L.map ints)):=by
 refine MB (blk:=SL L) hM hst (by simpa using hl) (fun d h=>by obtain ⟨s,_,rfl⟩:=List.mem_map.1 h;rfl) ?_
 have:flat (L.map ints)=L.map ints:=GU fun _=>rfl
 rw [this]
 show Ca (Data ok Cv M) (L.map fun r=>.dv (ints r)) (L.map ints)
 clear hM hl this
 induction L with
 | nil=>exact FI
 | cons r L ih=>exact CV (.dv _ (hd r)) ih
theorem lZ {h:Hp} {a:List Int} (e:Da h [a]=0):VH h /\ Nq h a:=⟨(RZ e).1,(RZ e).2 a (by simp)⟩
theorem vK {h:Hp} {i:Int} {l:List (List Int)} (e:Lf h i l=0):Da h l=0 /\ ∃ k:Nat,k < h.ground.length /\ i=(k:Int):=by
 unfold Lf at e
 split at e
 ·rename_i hc;exact absurd e hc
 ·rename_i hc
  split at e
  ·rename_i hi
   simp only [Km,Bool.and_eq_true,decide_eq_true_eq] at hi
   exact ⟨by simpa using hc,i.toNat,by omega,by omega⟩
  ·cases e
theorem vL {h:Hp} {l:List (List Int)} {k:Nat} (e:Da h l=0) (hk:k < h.ground.length):Lf h (k:Int) l=0:=by
 unfold Lf
 rw [if_neg (by simp [e]),if_pos]
 simp only [Km,Bool.and_eq_true,decide_eq_true_eq];omega
theorem nk {h:Hp} (v:VH h) {a:List Int} (f:Fit h a):(∀ j,j < h.ground.length -> 0 <= Az (Ua h a) j /\ Az (Ua h a) j <= 12) /\ ∀ j,j < h.ground.length -> 0 <= Az (LY h a) j /\ Az (LY h a) j <= 5000000:=by
 obtain ⟨I,hc⟩:=MZ v f.hpg
 exact ⟨fun j hj=>⟨I.c0 j hj,by have:=hc j hj;have:=v.jd hj;omega⟩,(f.cb v I).2⟩
theorem UZ {h:Hp} {a:List Int}:(Ua h a).length=h.ground.length:=by simp [Ua]
theorem iT {h:Hp} (v:VH h) {a:List Int} (ha:sO h a):(LY h a).length=h.ground.length:=(MZ v ha).1.lt
def bump (a:List Int) (k:Nat):List Int:=a.set k (Az a k+1)
theorem Y0 {h:Hp} {a:List Int} {k:Nat} (x:Nq h a) (hk:k < h.ground.length):Fit h (bump a k):=by
 have e:∀ j,j < h.ground.length -> 0 <= Az (bump a k) j /\ Az (bump a k) j <= 31:=fun j hj=>by
  unfold bump
  rw [BX (by rw [x.len];exact hk)]
  have:=x.bd j hj
  have:=x.bd k hk
  split<;>omega
 exact ⟨⟨by simp [bump,x.len],fun j hj=>(e j hj).1⟩,fun j hj=>by have:=e j hj;omega⟩
noncomputable def Oy (h:Hp) (a:List Int) (i:Int):List Int × Int × Int:=if Lf h i [a] ≠ 0 then ([],0,Lf h i [a]) else (Ua h (bump a i.toNat),sm (Az (LY h (bump a i.toNat))) h.ground.length,0)
theorem RS {h:Hp} {a:List Int} {i:Int} (e:Lf h i [a] ≠ 0):Oy h a i=([],0,Lf h i [a]):=by unfold Oy;rw [if_pos e]
theorem Po {h:Hp} {a:List Int} {k:Nat} (e:Lf h (k:Int) [a]=0):Oy h a (k:Int)=(Ua h (bump a k),sm (Az (LY h (bump a k))) h.ground.length,0):=by unfold Oy;rw [if_neg (by simp [e])];rfl
structure Half (h:Hp) (a:List Int):Prop where
 hpg:sO h a
 bd:∀ j,j < h.ground.length -> Az a j <= 100000
theorem Half.add {h:Hp} {a b:List Int} (x:Half h a) (y:Half h b):Fit h (sK h a b):=⟨mZ x.hpg y.hpg,fun j hj=>by rw [dD hj];have:=x.bd j hj;have:=y.bd j hj;omega⟩
def U2 (h:Hp) (a:List Int):Bool × Int:=if Da h [a] ≠ 0 then (false,Da h [a]) else (Xv h a,0)
theorem Xu {h:Hp} {a:List Int} (e:Da h [a] ≠ 0):U2 h a=(false,Da h [a]):=by unfold U2;rw [if_pos e]
theorem VR {h:Hp} {a:List Int} (e:Da h [a]=0):U2 h a=(Xv h a,0):=by unfold U2;rw [if_neg (by simp [e])]
theorem f88 (h:Hp) (a:List Int):AR Tryz.prog 88 [GX h,ints a] (.many [.dv (.bool (U2 h a).1),.dv (i64 (U2 h a).2)]):=by
 refine Bv Tryz.func88 rfl rfl (by rw [Tryz.ntmps88];simp) fun cx hP hn hg=>?_
 rw [Tryz.ntmps88] at hn
 rw [Br,Bq]
 simp only [List.nil_append,List.append_nil,List.cons_append,BH,Nat.reduceAdd]
 refine sg ?_
 refine qp Bu ?_
 iterate 2 refine qv A9 ?_
 refine AL ?_
 refine sg ?_
 refine qv (AY Dp Dt) ?_
 refine qv A8 ?_
 refine qr (FV CJ UM Av) ?_
 refine CF (f129 h [a] (by simp)) ?_ (ha:=(CV Bo (CV (Et (L:=[a]) (by simp only [AA,reduceIte,Nat.reduceEqDiff]<;>rfl) trivial rfl (fun _=>trivial)) FI)))
 refine qv A9 ?_
 refine sg ?_
 refine qv A8 ?_
 refine qv Ay ?_
 refine cd (fun hc0=>?_) (fun hc0=>?_)
 ·skip
  have he0:Da h [a] ≠ 0:=by simpa using hc0
  refine sg ?_
  refine qv A8 ?_
  iterate 2 refine qv A9 ?_
  refine AV ?_
  exact x2 (hr:=(Ej (by rw [Xu he0]))) (hr':=(Cc (by rw [Xu he0])))
 ·skip
  have he0:Da h [a]=0:=by simpa using hc0
  obtain ⟨v,nG⟩:=lZ he0
  have h5:=v.n5
  have hal:=nG.len
  have f:=Fit.of30 nG
  refine Af ?_
  refine sg ?_
  refine qv (AY Dp Dt) ?_
  refine qv A8 ?_
  refine CF (f130 h v a hal) ?_
  refine qv BK ?_
  iterate 2 refine qv A9 ?_
  refine AV ?_
  exact x2 (hr:=(Ej (by rw [VR he0];rfl))) (hr':=(Cc (by rw [VR he0])))
end Go.Ab.Tryz.H
namespace Go.Ab.Tryz.H
open Go Go.Ab Go.Ab.Tryz Go.Proofs Go.Ab.Heap
theorem mD {a:List Int} {k:Nat}:(bump a k).length=a.length:=by simp [bump]
theorem uh {n:Nat} {f:Nat -> Int} (hn:n <= 5) (hf:∀ i,i < n -> 0 <= f i /\ f i <= 5000000):0 <= sm f n /\ sm f n <= 25000000:=by
 have h1:=Du fun i hi=>(hf i hi).1
 have h2:=LC (f:=f) (g:=fun _=>5000000) (n:=n) fun i hi=>(hf i hi).2
 rw [JA] at h2
 exact ⟨h1,by omega⟩
set_option maxHeartbeats 4000000 in
theorem f185 (h:Hp) (a:List Int) (i:Int):AR Tryz.prog 185 [GX h,ints a,i64 i] (.many [rI (Oy h a i).1,.dv (i64 (Oy h a i).2.1),.dv (i64 (Oy h a i).2.2)]):=by
 refine Bv Tryz.func185 rfl rfl (by rw [Tryz.ntmps185];simp) fun cx hP hn hg=>?_
 rw [Tryz.ntmps185] at hn
 rw [Br,Bq]
 simp only [List.nil_append,List.append_nil,List.cons_append,BH,Nat.reduceAdd]
 refine sg ?_
 refine qp Bu ?_
 iterate 3 refine qv A9 ?_
 refine AL ?_
 refine sg ?_
 refine qv (AY Dp Dt) ?_
 iterate 2 refine qv A8 ?_
 refine qr (FV CJ UM Av) ?_
 refine CF (f213 h i [a] (by simp)) ?_ (ha:=(CV Bo (CV Bo (CV (Et (L:=[a]) (by simp only [AA,reduceIte,Nat.reduceEqDiff]<;>rfl) trivial rfl (fun _=>trivial)) FI))))
 refine qv A9 ?_
 refine sg ?_
 refine qv A8 ?_
 refine qv Ay ?_
 refine cd (fun hc0=>?_) (fun hc0=>?_)
 ·skip
  have he0:Lf h i [a] ≠ 0:=by simpa using hc0
  refine sg ?_
  refine qv A8 ?_
  iterate 3 refine qv A9 ?_
  refine AV ?_
  exact x3 (hr:=(rN_ (by rw [RS he0]))) (hr':=(Cc (by rw [RS he0]))) (SY:=(Cc (by rw [RS he0])))
 ·skip
  have he0:Lf h i [a]=0:=by simpa using hc0
  obtain ⟨he1,k,hk,rfl⟩:=vK he0
  obtain ⟨v,nG⟩:=lZ he1
  have h5:=v.n5
  have hal:=nG.len
  have hgk:=Ap (a:=a) (i:=k) (by omega)
  have hbk:=nG.bd k hk
  have hbf:=Y0 nG hk
  have hbl:=mD (a:=a) (k:=k)
  have hbs:a.set k (Az a k+1)=bump a k:=rfl
  have hsb:=nk v hbf
  have hsl:=UZ (h:=h) (a:=bump a k)
  have htl:=iT v hbf.hpg
  have hss:=uh h5 hsb.2
  refine Af ?_
  refine sg ?_
  refine qv A8 ?_
  refine CF (f214 a (by omega)) ?_
  refine qv A9 ?_
  refine sg ?_
  iterate 2 refine qv A8 ?_
  refine qv (CR BG Aw) ?_
  refine qv (Ig Aw Bw (hq:=hgk)) ?_
  refine qv Aq ?_
  refine qv (CR BG Aw) ?_
  refine qs (KI Aw) ?_
  refine AL ?_
  rw [hbs]
  refine rg ?_
  refine qv (AY Dp Dt) ?_
  refine qv A8 ?_
  refine CF (f215 h v (bump a k) hbf) ?_ (ha:=(CV Bo (CV (Bc (L:=bump a k) (by simp only [AA,reduceIte,Nat.reduceEqDiff]<;>rfl) trivial (by first | exact hbl | rfl | omega | (simp;done) | (simp;omega)) rfl rfl (fun _=>trivial)) FI))) (hS:=(uw (d2:=1031) rfl (by (simp only [AA,reduceIte,Nat.reduceEqDiff]<;>rfl)) (by (simp only [AA,reduceIte,Nat.reduceEqDiff]<;>rfl))))
  refine qv A8 ?_
  iterate 2 refine qv BZ ?_
  iterate 2 refine qv A9 ?_
  refine sg ?_
  iterate 2 refine qv A8 ?_
  refine CF (f216 (LY h (bump a k)) (by omega) (fun j hj=>by have:=hsb.2 j (by omega);omega)) ?_ (ha:=(CV (Bc (L:=LY h (bump a k)) (by simp only [AA,reduceIte,Nat.reduceEqDiff]<;>rfl) trivial (by first | rfl | omega | (simp;done) | (simp;omega)) rfl rfl (fun _=>trivial)) FI))
  iterate 3 refine qv A9 ?_
  refine AV ?_
  exact x3 (hr:=(sj (by rw [Po he0]) (hl:=by (try dsimp only)<;>omega))) (hr':=(Cc (by rw [Po he0,htl]))) (SY:=(Cc (by rw [Po he0])))
end Go.Ab.Tryz.H
namespace Go.Ab.Tryz
open Go Go.Ab Go.Proofs Go.Ab.Ck
open Go.Ab.Heap (Az Ap BX)
structure Bg where
 worth:List (List Int)
abbrev RX (b:Bg):DV:=.agg [.list (b.worth.map ints)]
def Bg.col (b:Bg) (i:Nat):List Int:=b.worth.getD i []
def Bg.dep (b:Bg):Nat:=(b.col 0).length
def FX (d:Nat) (c:List Int):Bool:=(c.length == d) && !(c.any fun w=>!CO w (-50) 50)
def Rk (b:Bg):Bool:=CO (b.worth.length:Int) 1 6 && CO (b.dep:Int) 1 4 && b.worth.all (FX b.dep)
def Nj (b:Bg):Int:=if Rk b then 0 else 1
def Ww (b:Bg) (l:List Int):Bool:=(l.length == b.worth.length) && !(l.any fun n=>!CO n 0 (b.dep:Int))
def IK (b:Bg) (l:List Int):Int:=if Rk b && Ww b l then 0 else 1
def gap (l:List Int) (c:Nat):Bool:=CO (Az l c - Az l (c - 1)) (-1) 1
def Ho (l:List Int):Bool:=(List.range l.length).all fun c=>decide (c=0) || gap l c
def K3 (b:Bg) (l:List Int):Int:=if IK b l ≠ 0 then 1 else if Ho l then 0 else 6
theorem Eu {b:Bg} {i:Nat} (h:i < b.worth.length):b.worth[i]?=some (b.col i):=by
 unfold Bg.col;rw [List.getD_eq_getElem?_getD,List.getElem?_eq_getElem h];rfl
theorem DL {n lo hi:Int}:CO n lo hi=true ↔ lo <= n /\ n <= hi:=by unfold CO;simp
theorem xZ {b:Bg} (h:CO (b.worth.length:Int) 1 6=true):0 < b.worth.length /\ b.worth.length <= 6:=by have:=DL.1 h;omega
theorem xk {b:Bg} (h:CO (b.dep:Int) 1 4=true):0 < b.dep /\ b.dep <= 4:=by have:=DL.1 h;omega
structure Ob (b:Bg):Prop where
 n0:0 < b.worth.length
 n6:b.worth.length <= 6
 d0:0 < b.dep
 d4:b.dep <= 4
 len:∀ i,i < b.worth.length -> (b.col i).length=b.dep
 bd:∀ i,i < b.worth.length -> ∀ x ∈ b.col i,-50 <= x /\ x <= 50
theorem Nk {b:Bg}:Rk b=true ↔ Ob b:=by
 unfold Rk
 simp only [Bool.and_eq_true]
 refine ⟨fun ⟨⟨h1,h2⟩,h3⟩=>?_,fun h=>⟨⟨DL.2 ⟨by have:=h.n0;omega,by have:=h.n6;omega⟩,DL.2 ⟨by have:=h.d0;omega,by have:=h.d4;omega⟩⟩,?_⟩⟩
 ·have h4:∀ i,i < b.worth.length -> FX b.dep (b.col i)=true:=fun i hi=>List.all_eq_true.1 h3 _ (List.mem_of_getElem? (Eu hi))
  refine ⟨(xZ h1).1,(xZ h1).2,(xk h2).1,(xk h2).2,fun i hi=>?_,fun i hi x hx=>?_⟩
  ·have:=h4 i hi;unfold FX at this;simp only [Bool.and_eq_true,beq_iff_eq] at this;exact this.1
  ·have:=h4 i hi;unfold FX at this;simp only [Bool.and_eq_true,Bool.not_eq_true',List.any_eq_false] at this
   have h5:=this.2 x hx
   simp only [Bool.not_eq_true',Bool.not_eq_false] at h5
   exact DL.1 h5
 ·rw [List.all_eq_true]
  intro c hc
  obtain ⟨i,hi,rfl⟩:=List.getElem_of_mem hc
  have e:b.col i=b.worth[i]:=Option.some.inj ((Eu hi).symm.trans (List.getElem?_eq_getElem hi))
  rw [<- e]
  unfold FX
  simp only [Bool.and_eq_true,beq_iff_eq,Bool.not_eq_true',List.any_eq_false]
  refine ⟨h.len i hi,fun x hx=>?_⟩
  simp only [Bool.not_eq_true',Bool.not_eq_false]
  exact DL.2 (h.bd i hi x hx)
theorem VZ {b:Bg} (h:Rk b=false):Nj b=1:=by unfold Nj;rw [h];rfl
theorem xq {b:Bg} (h:Ob b):Nj b=0:=by unfold Nj;rw [Nk.2 h];rfl
theorem VY {b:Bg} (h:CO (b.worth.length:Int) 1 6=false):Nj b=1:=VZ (by unfold Rk;rw [h];rfl)
theorem VX {b:Bg} (h:CO (b.dep:Int) 1 4=false):Nj b=1:=VZ (by unfold Rk;rw [h,Bool.and_false];rfl)
theorem Ni {b:Bg} {i:Nat} (hi:i < b.worth.length) (h:FX b.dep (b.col i)=false):Nj b=1:=VZ (by
 unfold Rk
 have:b.worth.all (FX b.dep)=false:=List.all_eq_false.2 ⟨_,List.mem_of_getElem? (Eu hi),by simp [h]⟩
 rw [this,Bool.and_false])
theorem bf {b:Bg} (h1:CO (b.worth.length:Int) 1 6=true) (h2:CO (b.dep:Int) 1 4=true) (h3:∀ i,i < b.worth.length -> FX b.dep (b.col i)=true):Nj b=0:=by
 unfold Nj Rk
 have:b.worth.all (FX b.dep)=true:=List.all_eq_true.2 fun c hc=>by
  obtain ⟨i,hi,rfl⟩:=List.getElem_of_mem hc
  have e:b.col i=b.worth[i]:=Option.some.inj ((Eu hi).symm.trans (List.getElem?_eq_getElem hi))
  rw [<- e];exact h3 i hi
 rw [h1,h2,this];rfl
theorem U6 {b:Bg} (h:Nj b=0):Ob b:=by
 refine Nk.1 ?_
 unfold Nj at h
 split at h
 ·assumption
 ·cases h
theorem A1E {b:Bg} (h:¬ Nj b=0):Rk b=false:=by
 cases e:Rk b with
 | false=>rfl
 | true=>exact absurd (by unfold Nj;rw [e];rfl) h
theorem Wv {b:Bg} {l:List Int} (h:¬ Nj b=0):IK b l=1 /\ Nj b=1:=by
 have:=A1E h
 unfold IK Nj;rw [this];exact ⟨rfl,rfl⟩
theorem Wu {b:Bg} {l:List Int} (h:l.length ≠ b.worth.length):IK b l=1:=by
 unfold IK Ww
 have:(l.length == b.worth.length)=false:=by simpa using h
 rw [this,Bool.false_and,Bool.and_false];rfl
theorem Wt {b:Bg} {l:List Int} (h:(l.any fun n=>!CO n 0 (b.dep:Int))=true):IK b l=1:=by
 unfold IK Ww
 rw [h,Bool.not_true,Bool.and_false,Bool.and_false];rfl
theorem Ws {b:Bg} {l:List Int} (h0:Ob b) (h:l.length=b.worth.length) (h2:(l.any fun n=>!CO n 0 (b.dep:Int))=false):IK b l=0:=by
 unfold IK Ww
 rw [Nk.2 h0,h2];simp [h]
structure Oa (b:Bg) (l:List Int):Prop where
 bg:Ob b
 len:l.length=b.worth.length
 bd:∀ i,i < l.length -> 0 <= Az l i /\ Az l i <= b.dep
theorem tJ {b:Bg} {l:List Int} (h:IK b l=0):Oa b l:=by
 unfold IK at h
 split at h
 ·rename_i hc
  simp only [Bool.and_eq_true] at hc
  obtain ⟨h1,h2⟩:=hc
  unfold Ww at h2
  simp only [Bool.and_eq_true,beq_iff_eq,Bool.not_eq_true',List.any_eq_false,Bool.not_eq_false] at h2
  refine ⟨Nk.1 h1,h2.1,fun i hi=>?_⟩
  have:=h2.2 _ (List.mem_of_getElem? (Ap hi))
  exact DL.1 this
 ·cases h
theorem Oa.v {b:Bg} {l:List Int} (h:Oa b l):IK b l=0:=by
 refine Ws h.bg h.len ?_
 rw [List.any_eq_false]
 intro x hx
 obtain ⟨i,hi,rfl⟩:=List.getElem_of_mem hx
 have h1:=h.bd i hi
 have h2:=Ap hi
 rw [List.getElem?_eq_getElem hi] at h2
 rw [Option.some.inj h2]
 simp only [Bool.not_eq_true',Bool.not_eq_false]
 exact DL.2 h1
theorem zS {b:Bg} {l:List Int} (h:¬ IK b l=0):IK b l=1:=by
 unfold IK at h ⊢
 split
 ·rename_i hc;rw [if_pos hc] at h;exact absurd rfl h
 ·rfl
theorem dW {l:List Int} {c:Nat} (h1:1 <= c) (h2:c < l.length) (h:gap l c=false):Ho l=false:=by
 unfold Ho
 exact List.all_eq_false.2 ⟨c,List.mem_range.2 h2,by simp [h];omega⟩
theorem WK {l:List Int} (h:∀ c,1 <= c -> c < l.length -> gap l c=true):Ho l=true:=by
 unfold Ho
 refine List.all_eq_true.2 fun c hc=>?_
 have:=List.mem_range.1 hc
 by_cases h0:c=0
 ·simp [h0]
 ·simp [h0,h c (by omega) this]
theorem aY {b:Bg} {l:List Int} (h:¬ IK b l=0):K3 b l=1 /\ IK b l=1:=by unfold K3;rw [if_pos h];exact ⟨rfl,zS h⟩
theorem wE {b:Bg} {l:List Int} (h:IK b l=0) (hr:Ho l=false):K3 b l=6:=by unfold K3;rw [if_neg (by simp [h]),hr];rfl
theorem aX {b:Bg} {l:List Int} (h:IK b l=0) (hr:Ho l=true):K3 b l=0:=by unfold K3;rw [if_neg (by simp [h]),hr];rfl
theorem tX {b:Bg} {l:List Int} (h:K3 b l=0):Oa b l /\ Ho l=true:=by
 unfold K3 at h
 split at h
 ·cases h
 ·rename_i hc
  split at h
  ·rename_i hr;exact ⟨tJ (by simpa using hc),hr⟩
  ·cases h
theorem wM {l:List Int} {c:Nat} (hb:∀ i,i < l.length -> 0 <= Az l i /\ Az l i <= 5) (h1:1 <= c) (h2:c < l.length):-5 <= Az l c - Az l (c - 1) /\ Az l c - Az l (c - 1) <= 5:=by
 have:=hb c h2;have:=hb (c - 1) (by omega);omega
theorem f108 (n lo hi:Int):AR Tryz.prog 108 [i64 n,i64 lo,i64 hi] (.one (.dv (.bool (CO n lo hi)))):=by
 refine Bv Tryz.func108 rfl rfl (by rw [Tryz.ntmps108];simp) fun cx hP hn hg=>?_
 rw [Tryz.ntmps108] at hn
 rw [Br,Bq]
 simp only [List.nil_append,List.append_nil,List.cons_append,BH,Nat.reduceAdd]
 refine sg ?_
 refine qv A9 ?_
 refine sg ?_
 iterate 2 refine qv A8 ?_
 refine qv LD ?_
 refine qx A8 (fun F6=>?_) (fun F6=>?_)
 ·try simp at F6
  iterate 2 refine qv A8 ?_
  refine qv LD ?_
  refine qv Ae ?_
  refine qv A9 ?_
  refine AV ?_
  exact x1 (hr:=(Ej (by first | (simp_all [CO];done) | (simp_all [CO];omega))))
 ·try simp at F6
  iterate 3 refine qk ?_
  refine qv Ae ?_
  refine qv A9 ?_
  refine AV ?_
  exact x1 (hr:=(Ej (by first | (simp_all [CO];done) | (simp_all [CO];omega))))
theorem f109 (b:Bg) (h0:0 < b.worth.length):AR Tryz.prog 109 [RX b] (.one (.dv (i64 (b.dep:Int)))):=by
 have hg0:=Eu h0
 refine Bv Tryz.func109 rfl rfl (by rw [Tryz.ntmps109];simp) fun cx hP hn hg=>?_
 rw [Tryz.ntmps109] at hn
 rw [Br,Bq]
 simp only [List.nil_append,List.append_nil,List.cons_append,BH,Nat.reduceAdd]
 refine sg ?_
 refine qp Bu ?_
 refine qv A9 ?_
 refine sg ?_
 refine qv (AB Ch) ?_
 refine qv (AQ DJ DW) ?_
 first | refine qv (BF CJ Av) ?_ | refine qv (Bf CJ Av) ?_
 refine qv (Bb Av Bz) ?_
 refine qv (BD Cj) ?_
 refine qv A9 ?_
 refine AV ?_
 exact x1 (hr:=(Cc))
theorem f132 (x:Int):AR Tryz.prog 132 [i64 x] (.one (.dv (.bool (!CO x (-50) 50)))):=by
 refine Bv Tryz.func132 rfl rfl (by rw [Tryz.ntmps132];simp) fun cx hP hn hg=>?_
 rw [Tryz.ntmps132] at hn
 rw [Br,Bq]
 simp only [List.nil_append,List.append_nil,List.cons_append,BH,Nat.reduceAdd]
 refine sg ?_
 refine qv A9 ?_
 refine sg ?_
 refine qv A8 ?_
 refine CF (f108 x (-50) 50) ?_
 refine qv CP ?_
 refine qv A9 ?_
 refine AV ?_
 exact x1 (hr:=(Ej))
theorem f93 (b:Bg):AR Tryz.prog 93 [RX b] (.one (.dv (i64 (Nj b)))):=by
 refine Bv Tryz.func93 rfl rfl (by rw [Tryz.ntmps93];simp) fun cx hP hn hg=>?_
 rw [Tryz.ntmps93] at hn
 rw [Br,Bq]
 simp only [List.nil_append,List.append_nil,List.cons_append,BH,Nat.reduceAdd]
 refine sg ?_
 refine qp Bu ?_
 refine qv A9 ?_
 refine AL ?_
 refine sg ?_
 refine qv (AB Ch) ?_
 refine qv (AQ DJ DW) ?_
 refine qv (BD KO) ?_
 refine CF (f108 (b.worth.length) 1 6) ?_
 refine qv CP ?_
 refine qx A8 (fun F6=>?_) (fun F6=>?_)
 ·try simp at F6
  iterate 4 refine qk ?_
  refine qv Ae ?_
  refine G5 (hb:=by first | rfl | simp | simp_all) (ht:=?_)
  refine sg ?_
  refine qv A9 ?_
  refine AV ?_
  exact x1 (hr:=(Cc (by first | rw [VX hdn] | rw [VY (by simpa using F6)])))
 ·try simp at F6
  have h06:=xZ (b:=b) (by simpa using F6)
  refine qv (AY Dw EC) ?_
  refine CF (f109 b h06.1) ?_
  refine CF (f108 b.dep 1 4) ?_
  refine qv CP ?_
  refine qv Ae ?_
  refine cd (fun hc0=>?_) (fun hc0=>?_)
  ·skip
   have hdn:CO (b.dep:Int) 1 4=false:=by simpa using hc0
   refine sg ?_
   refine qv A9 ?_
   refine AV ?_
   exact x1 (hr:=(Cc (by first | rw [VX hdn] | rw [VY (by simpa using F6)])))
  ·skip
   have hd4:=xk (b:=b) (by simpa using hc0)
   have h6:CO (b.worth.length:Int) 1 6=true:=by simpa using F6
   have hd:CO (b.dep:Int) 1 4=true:=by simpa using hc0
   refine Af ?_
   refine AL ?_
   refine sg ?_
   refine qv (AB Ch) ?_
   refine qv (AQ DJ DW) ?_
   refine qv (BD KO) ?_
   refine qv A8 ?_
   refine BI ?_
   refine Ao (ι:=Nat) (fun i=>⟨lk [(1,.pt 1 0 0),(17,.dv (.list ((b.worth).map ints))),(18,.dv (i64 ((b.worth.length:Int)))),(19,.dv (i64 (i:Nat)))],AA [(1,0,some ⟨[.dv (.list ((b.worth).map ints))],0,24,0,false⟩)]⟩) (fun i=>i <= b.worth.length /\ ∀ j,j < i -> FX b.dep (b.col j)=true) (fun i=>b.worth.length - i) 0 (by simp) (tl [(1,1)]) ?_
   intro i BM
   refine sg ?_
   refine qv BK ?_
   refine AL ?_
   refine cd (fun hc1=>?_) (fun hc1=>?_)
   ·try simp at hc1
    refine Af ?_
    refine AL ?_
    refine BI ?_
    refine sg ?_
    have hi:i < b.worth.length:=by omega
    have hgc:=Eu hi
    first | refine qv (BF CJ Av) ?_ | refine qv (Bf CJ Av) ?_
    refine qv (Bb Av Bz) ?_
    refine qv A9 ?_
    refine sg ?_
    refine qv A8 ?_
    refine qv (BD Cj) ?_
    refine qv (AY Dw EC) ?_
    refine CF (f109 b h06.1) ?_
    refine qv Ay ?_
    refine qx A8 (fun ZE=>?_) (fun ZE=>?_)
    ·try simp at ZE
     iterate 2 refine qk ?_
     refine qv Ae ?_
     refine G5 (hb:=by first | rfl | simp | simp_all) (ht:=?_)
     refine sg ?_
     refine qv A9 ?_
     refine AV ?_
     exact x1 (hr:=(Cc (by rw [Ni hi (by unfold FX;first | (rw [show ((b.col i).length == b.dep)=false by simp;intro e;exact ZE (by exact_mod_cast e)];rfl) | (simp [hc2]))])))
    ·try simp at ZE
     have hle:(b.col i).length=b.dep:=by exact_mod_cast ZE
     refine qv A8 ?_
     refine CF (f106 (b.col i) 132 [] [] (fun x=>!CO x (-50) 50) (fun x _=>f132 x) (by omega)) ?_
     refine qv Ae ?_
     refine cd (fun hc2=>?_) (fun hc2=>?_)
     ·try simp at hc2
      refine sg ?_
      refine qv A9 ?_
      refine AV ?_
      exact x1 (hr:=(Cc (by rw [Ni hi (by unfold FX;first | (rw [show ((b.col i).length == b.dep)=false by simp;intro e;exact ZE (by exact_mod_cast e)];rfl) | (simp [hc2]))])))
     ·try simp at hc2
      refine Af ?_
      refine rg ?_
      refine qv Aq ?_
      refine qv A8 ?_
      refine ⟨i+1,?_,(by simp only;omega),(tl [(1,1)])⟩
      refine ⟨by omega,fun j hj=>?_⟩
      rcases Nat.lt_or_ge j i with h1 | h1
      ·exact BM.2 j h1
      ·obtain rfl:j=i:=by omega
       unfold FX
       rw [show (b.col j).length=b.dep by exact_mod_cast ZE]
       simpa using hc2
   ·try simp at hc1
    refine Ai ?_
    refine sg ?_
    refine qv A9 ?_
    refine AV ?_
    exact x1 (hr:=(Cc (by rw [bf h6 hd fun j hj=>BM.2 j (by omega)])))
theorem f107 (b:Bg) (h0:0 < b.worth.length) (x:Int):AR Tryz.prog 107 [i64 x,.Cy [.list (b.worth.map ints)]] (.one (.dv (.bool (!CO x 0 (b.dep:Int))))):=by
 refine Bv Tryz.func107 rfl rfl (by rw [Tryz.ntmps107];simp) fun cx hP hn hg=>?_
 rw [Tryz.ntmps107] at hn
 rw [Br,Bq]
 simp only [List.nil_append,List.append_nil,List.cons_append,BH,Nat.reduceAdd]
 refine sg ?_
 refine qv A9 ?_
 refine sg ?_
 refine qv A8 ?_
 refine qv (zR Dw EC) ?_
 refine CF (f109 b h0) ?_
 refine CF (f108 x 0 (b.dep:Int)) ?_
 refine qv CP ?_
 refine qv A9 ?_
 refine AV ?_
 exact x1 (hr:=(Ej))
theorem f69 (b:Bg) (l:List Int):AR Tryz.prog 69 [RX b,ints l] (.one (.dv (i64 (IK b l)))):=by
 refine Bv Tryz.func69 rfl rfl (by rw [Tryz.ntmps69];simp) fun cx hP hn hg=>?_
 rw [Tryz.ntmps69] at hn
 rw [Br,Bq]
 simp only [List.nil_append,List.append_nil,List.cons_append,BH,Nat.reduceAdd]
 refine sg ?_
 refine qp Bu ?_
 refine qv A9 ?_
 refine AL ?_
 refine sg ?_
 refine qv (AY Dw EC) ?_
 refine CF (f93 b) ?_
 refine qv A9 ?_
 refine sg ?_
 refine qv A8 ?_
 refine qv Ay ?_
 refine cd (fun hc0=>?_) (fun hc0=>?_)
 ·skip
  have hv0:¬ Nj b=0:=by simpa using hc0
  refine sg ?_
  refine qv A8 ?_
  refine qv A9 ?_
  refine AV ?_
  exact x1 (hr:=(Cc (by rw [(Wv (l:=l) hv0).1,(Wv (l:=l) hv0).2])))
 ·skip
  have hv0:Nj b=0:=by simpa using hc0
  have ok:=U6 hv0
  have hn0:=ok.n0
  have X8:=ok.n6
  refine Af ?_
  refine AL ?_
  refine sg ?_
  refine qv A8 ?_
  refine qv (BD Cj) ?_
  refine qv (AB Ch) ?_
  refine qv (AQ DJ DW) ?_
  refine qv (BD KO) ?_
  refine qv Ay ?_
  refine qx A8 (fun PI=>?_) (fun PI=>?_)
  ·try simp at PI
   iterate 3 refine qk ?_
   refine qv Ae ?_
   refine G5 (hb:=by first | rfl | simp | simp_all) (ht:=?_)
   refine sg ?_
   refine qv A9 ?_
   refine AV ?_
   exact x1 (hr:=(Cc (by first | rw [Wt (by simpa using hc1)] | rw [Wu (by intro e;exact PI (by exact_mod_cast e))])))
  ·try simp at PI
   have hle:l.length=b.worth.length:=by exact_mod_cast PI
   refine qv A8 ?_
   refine qfn ?_
   refine CF (f106 l 107 [] [.Cy [.list (b.worth.map ints)]] (fun n=>!CO n 0 (b.dep:Int)) (fun x _=>f107 b hn0 x) (by omega)) ?_
   refine qv Ae ?_
   refine cd (fun hc1=>?_) (fun hc1=>?_)
   ·try simp at hc1
    refine sg ?_
    refine qv A9 ?_
    refine AV ?_
    exact x1 (hr:=(Cc (by first | rw [Wt (by simpa using hc1)] | rw [Wu (by intro e;exact PI (by exact_mod_cast e))])))
   ·try simp at hc1
    refine Af ?_
    refine sg ?_
    refine qv A9 ?_
    refine AV ?_
    exact x1 (hr:=(Cc (by rw [Ws ok hle (by simpa using hc1)])))
theorem f70 (l:List Int) (hl:l.length < 2000000) (hb:∀ i,i < l.length -> 0 <= Az l i /\ Az l i <= 5):AR Tryz.prog 70 [ints l] (.one (.dv (.bool (Ho l)))):=by
 refine Bv Tryz.func70 rfl rfl (by rw [Tryz.ntmps70];simp) fun cx hP hn hg=>?_
 rw [Tryz.ntmps70] at hn
 rw [Br,Bq]
 simp only [List.nil_append,List.append_nil,List.cons_append,BH,Nat.reduceAdd]
 refine sg ?_
 refine qv A9 ?_
 refine AL ?_
 refine sg ?_
 refine qv A9 ?_
 refine BI ?_
 refine Ao (ι:=Nat) (fun c=>⟨lk [(0,.dv (ints (l))),(3,.dv (i64 (c:Nat)))],AA []⟩) (fun c=>(1 <= c) /\ (∀ j,1 <= j -> j < l.length -> j < c -> gap l j=true)) (fun c=>l.length - c) 1 ⟨Nat.le_refl _,fun j h1 h2 h3=>absurd h3 (by omega)⟩ (tl []) ?_
 intro c BM
 refine AL ?_
 refine sg ?_
 iterate 2 refine qv A8 ?_
 refine qv (BD Cj) ?_
 refine qv BK ?_
 refine cd (fun hc0=>?_) (fun hc0=>?_)
 ·try simp at hc0
  refine Af ?_
  refine AL ?_
  refine BI ?_
  refine AL ?_
  have hc:c < l.length:=by omega
  have hgc:=Ap hc
  have hgd:=Ap (a:=l) (i:=c - 1) (by omega)
  have hgp:=wM hb BM.1 hc
  have hcast:((c:Nat):Int) - 1=((c - 1:Nat):Int):=by omega
  refine rd mixed ?_
  iterate 2 refine zv A8 ?_
  first | refine zv (BF BG Aw) ?_ | refine zv (Bf BG Aw) ?_
  refine zv (Bb Aw Bw) ?_
  iterate 2 refine zv A8 ?_
  refine zv Gf ?_
  rw [hcast]
  first | refine zv (BF BG Aw) ?_ | refine zv (Bf BG Aw) ?_
  refine zv (Bb Aw Bw) ?_
  refine zv Gf ?_
  refine Kz (R:=[]) (f108 (Az l c - Az l (c - 1)) (-1) 1) ?_
  refine zv CP ?_
  refine ⟨by rfl,?_⟩
  refine cd (fun hc1=>?_) (fun hc1=>?_)
  ·try simp at hc1
   refine sg ?_
   refine qv A9 ?_
   refine AV ?_
   exact x1 (hr:=(Ej (by rw [dW BM.1 hc (by simpa [gap] using hc1)])))
  ·try simp at hc1
   refine Af ?_
   refine rg ?_
   refine qv A8 ?_
   refine qv Aq ?_
   refine qv A9 ?_
   exact ⟨c+1,⟨by omega,fun j h1 h2 h3=>by
    rcases Nat.lt_or_ge j c with h4 | h4
    ·exact BM.2 j h1 h2 h4
    ·obtain rfl:j=c:=by omega
     unfold gap;simpa using hc1⟩,(by simp only;omega),(tl [])⟩
 ·try simp at hc0
  refine Ai ?_
  refine sg ?_
  refine qv A9 ?_
  refine AV ?_
  exact x1 (hr:=(Ej (by rw [WK fun j h1 h2=>BM.2 j h1 h2 (by omega)])))
theorem f27 (b:Bg) (l:List Int):AR Tryz.prog 27 [RX b,ints l] (.one (.dv (i64 (K3 b l)))):=by
 refine Bv Tryz.func27 rfl rfl (by rw [Tryz.ntmps27];simp) fun cx hP hn hg=>?_
 rw [Tryz.ntmps27] at hn
 rw [Br,Bq]
 simp only [List.nil_append,List.append_nil,List.cons_append,BH,Nat.reduceAdd]
 refine sg ?_
 refine qp Bu ?_
 refine qv A9 ?_
 refine AL ?_
 refine sg ?_
 refine qv (AY Dw EC) ?_
 refine qv A8 ?_
 refine CF (f69 b l) ?_
 refine qv A9 ?_
 refine sg ?_
 refine qv A8 ?_
 refine qv Ay ?_
 refine cd (fun hc0=>?_) (fun hc0=>?_)
 ·skip
  have hv0:¬ IK b l=0:=by simpa using hc0
  refine sg ?_
  refine qv A8 ?_
  refine qv A9 ?_
  refine AV ?_
  exact x1 (hr:=(Cc (by rw [(aY hv0).1,(aY hv0).2])))
 ·skip
  have hv0:IK b l=0:=by simpa using hc0
  have ok:=tJ hv0
  have X8:=ok.bg.n6
  have hd4:=ok.bg.d4
  have hle:=ok.len
  refine Af ?_
  refine AL ?_
  refine sg ?_
  refine qv A8 ?_
  refine CF (f70 l (by omega) (fun i hi=>by have:=ok.bd i hi;omega)) ?_
  refine qv CP ?_
  refine cd (fun hc1=>?_) (fun hc1=>?_)
  ·try simp at hc1
   refine sg ?_
   refine qv A9 ?_
   refine AV ?_
   exact x1 (hr:=(Cc (by rw [wE hv0 (by simpa using hc1)])))
  ·try simp at hc1
   refine Af ?_
   refine sg ?_
   refine qv A9 ?_
   refine AV ?_
   exact x1 (hr:=(Cc (by rw [aX hv0 (by simpa using hc1)])))
end Go.Ab.Tryz
