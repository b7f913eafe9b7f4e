/- The functions of the bog laws: cuttings, part 15. The walks are written by wip/gen/gw.py. -/
import Derived.Test.YtjcecljhjailiaaGreatDoorBogB4
import Derived.Test.YtjcecljhjailiaaGreatDoorBogG07
set_option linter.all false
namespace Go.Ab.Tryz
open Go Go.Ab Go.Proofs Go.Ab.Ck Go.Ab.Gi
open Go.Ab.Heap (Az Ap BX)
section
variable {P:Program} {S:St} {x:Operand} {t:TypeId} {tg g o sz:Nat}
theorem LG {L:List Tx} {T:Tx} {i:Nat} {st:Nat} (hs:Ec P t=some 1) (ha:FB P t=some false) (hq:L[i]?=some T) (hx:S.look x=(.pt tg g o,some ⟨L.map fun T=>.dv (Cg T),1,9,st,true⟩):=by (simp only [St.look,St.ev,lk,AA,AO,Ah,Ag,reduceIte,Nat.reduceAdd,Nat.reduceEqDiff,Nat.reduceMul]<;>rfl)) (ho:o=i:=by first | rfl | (simp;done) | omega | (simp;omega)) :
  AP P S (.load t x)=some (.val (.dv (Cg T))):=by
 refine AQ hs ha (hx:=hx) (hc:=?_)
 subst ho
 show (L.map fun T=>SV.dv (Cg T))[o]?=_
 rw [List.getElem?_map,hq];rfl
end
theorem qM {n:Nat} {p:Nat -> Bool} (h:∀ i,i < n -> p i=false):(List.range n).find? p=none:=by
 rw [List.find?_eq_none]
 intro i hi
 rw [h i (List.mem_range.1 hi)];decide
theorem qN {n i:Nat} {p:Nat -> Bool} (hi:i < n) (h:∀ j,j < i -> p j=false) (hp:p i=true):(List.range n).find? p=some i:=by
 rw [List.find?_range_eq_some]
 exact ⟨hp,by simpa using hi,fun j hj=>by rw [h j hj];decide⟩
theorem getD_at {L:List Tx} {i:Nat} (h:i < L.length):L.getD i []=L[i]:=by rw [List.getD_eq_getElem?_getD,List.getElem?_eq_getElem h];rfl
theorem H8 {a b:Tx} (h:¬ ((Ak 100 0 a).2=[] /\ (Ak 100 0 b).2=[])):EO a b=([],0,12):=by
 unfold EO
 simp only
 rw [if_pos]
 by_cases h1:(Ak 100 0 a).2=[]
 ·exact .inr fun h2=>h ⟨h1,h2⟩
 ·exact .inl h1
theorem Li {a b:Tx} (h1:(Ak 100 0 a).2=[]) (h2:(Ak 100 0 b).2=[]) {i:Nat} (ha:i < (Ak 100 0 a).1.length) (hb:i < (Ak 100 0 b).1.length) (h:∀ j (hj:j < (Ak 100 0 a).1.length) (hk:j < (Ak 100 0 b).1.length),j < i -> (Ak 100 0 a).1[j]=(Ak 100 0 b).1[j]) (hd:¬ (Ak 100 0 a).1[i]=(Ak 100 0 b).1[i]) :
  EO a b=([],(i:Int),7):=by
 have hf:(List.range (min (Ak 100 0 a).1.length (Ak 100 0 b).1.length)).find? (fun i=>(Ak 100 0 a).1.getD i [] != (Ak 100 0 b).1.getD i [])=some i:=qN (by omega) (fun j hj=>by
  rw [getD_at (by omega),getD_at (by omega)]
  have:=h j (by omega) (by omega) hj
  simpa using this) (by
  rw [getD_at ha,getD_at hb]
  simpa using hd)
 unfold EO
 simp only
 rw [if_neg (by simp [h1,h2]),hf]
theorem Yy {a b:Tx} (h1:(Ak 100 0 a).2=[]) (h2:(Ak 100 0 b).2=[]) (h:∀ j (hj:j < (Ak 100 0 a).1.length) (hk:j < (Ak 100 0 b).1.length),(Ak 100 0 a).1[j]=(Ak 100 0 b).1[j]) :
  EO a b=if (Ak 100 0 a).1.length < (Ak 100 0 b).1.length then (b,((Ak 100 0 b).1.length:Int),0) else (a,((Ak 100 0 a).1.length:Int),0):=by
 have hf:(List.range (min (Ak 100 0 a).1.length (Ak 100 0 b).1.length)).find? (fun i=>(Ak 100 0 a).1.getD i [] != (Ak 100 0 b).1.getD i [])=none:=qM fun i hi=>by
  rw [getD_at (by omega),getD_at (by omega)]
  have:=h i (by omega) (by omega)
  simpa using this
 unfold EO
 simp only
 rw [if_neg (by simp [h1,h2]),hf]
set_option maxHeartbeats 1000000 in
theorem f44 (A B:Tx) (hA:A.length < 2000000) (hB:B.length < 2000000):AR Tryz.prog 44 [Cg A,Cg B] (.many [.dv (Cg (EO A B).1),.dv (i64 (EO A B).2.1),.dv (i64 (EO A B).2.2)]):=by
 have hlA:=(Gz 100 0 A).2.2
 have hlB:=(Gz 100 0 B).2.2
 have hmi:(if (Ak 100 0 B).1.length < (Ak 100 0 A).1.length then ((Ak 100 0 B).1.length:Int) else ((Ak 100 0 A).1.length:Int))=min ((Ak 100 0 A).1.length:Int) ((Ak 100 0 B).1.length:Int):=by split<;>omega
 refine Bv Tryz.func44 rfl rfl (by rw [Tryz.ntmps44];simp) fun cx hP hn hg=>?_
 rw [Tryz.ntmps44] at hn
 rw [Br,Bq]
 simp only [List.nil_append,List.append_nil,List.cons_append,BH,Nat.reduceAdd]
 refine sg ?_
 iterate 3 refine qv A9 ?_
 refine sg ?_
 refine qv A8 ?_
 refine CF (f36 A hA) ?_ (hS:=(EN (by (simp only [AA,reduceIte,Nat.reduceEqDiff]<;>rfl))))
 refine qv A8 ?_
 iterate 2 refine qv BZ ?_
 iterate 2 refine qv A9 ?_
 refine sg ?_
 refine qv A8 ?_
 refine CF (f36 B hB) ?_ (hS:=(EN (by (simp only [AA,reduceIte,Nat.reduceEqDiff]<;>rfl))))
 refine qv A8 ?_
 iterate 2 refine qv BZ ?_
 iterate 2 refine qv A9 ?_
 refine AL ?_
 refine sg ?_
 refine qv A8 ?_
 refine qv DY ?_
 refine qx A8 (fun Sb=>?_) (fun Sb=>?_)
 ·try simp at Sb
  iterate 2 refine qk ?_
  refine qv Ae ?_
  refine G5 (hb:=by first | rfl | simp | simp_all) (ht:=?_)
  refine sg ?_
  iterate 3 refine qv A9 ?_
  refine AV ?_
  exact x3 (hr:=(Uq (by rw [H8 (by intro h;simp_all)]))) (hr':=(Cc (by rw [H8 (by intro h;simp_all)]))) (SY:=(Cc (by rw [H8 (by intro h;simp_all)])))
 ·try simp at Sb
  refine qv A8 ?_
  refine qv DY ?_
  refine qv Ae ?_
  refine cd (fun hc0=>?_) (fun hc0=>?_)
  ·try simp at hc0
   refine sg ?_
   iterate 3 refine qv A9 ?_
   refine AV ?_
   exact x3 (hr:=(Uq (by rw [H8 (by intro h;simp_all)]))) (hr':=(Cc (by rw [H8 (by intro h;simp_all)]))) (SY:=(Cc (by rw [H8 (by intro h;simp_all)])))
  ·try simp at hc0
   have h12:(Ak 100 0 A).2=[] /\ (Ak 100 0 B).2=[]:=⟨by simpa using Sb,by simpa using hc0⟩
   refine Af ?_
   refine AL ?_
   refine sg ?_
   refine qv A8 ?_
   refine qv (CZ Ce) ?_
   refine qv A8 ?_
   refine qv (CZ Ce) ?_
   refine qv zQ ?_
   refine qv A8 ?_
   refine BI ?_
   refine Ao (ι:=Nat) (fun i=>⟨lk [(0,.dv (Cg (A))),(1,.dv (Cg (B))),(7,.sl 14 0 0 ((Ak 100 0 A).1).length),(9,.sl 19 0 0 ((Ak 100 0 B).1).length),(32,.dv (i64 (min ((Ak 100 0 A).1.length:Int) ((Ak 100 0 B).1.length:Int)))),(33,.dv (i64 (i:Nat)))],AA [(14,0,some (Jz ((Ak 100 0 A).1))),(19,0,some (Jz ((Ak 100 0 B).1)))]⟩) (fun i=>i <= (Ak 100 0 A).1.length /\ i <= (Ak 100 0 B).1.length /\ ∀ j (hj:j < (Ak 100 0 A).1.length) (hk:j < (Ak 100 0 B).1.length),j < i -> (Ak 100 0 A).1[j]=(Ak 100 0 B).1[j]) (fun i=>(Ak 100 0 A).1.length - i) 0 (by simp) (tl [(14,14),(19,19)] (hF:=by simp [DK,AX,lk,AA,isLive,AZ,CW,hmi]) (hM:=by simp [Cm,Ar,AX,Aa,lk,AA,isLive,AZ,BO,BN,Al,BL,BP,BS,BQ,BR,CW,hmi])) ?_
   intro i BM
   refine sg ?_
   refine qv BK ?_
   refine AL ?_
   refine cd (fun hc1=>?_) (fun hc1=>?_)
   ·try simp at hc1
    refine Af ?_
    refine AL ?_
    refine BI ?_
    refine sg ?_
    refine qv A8 ?_
    refine qv A9 ?_
    refine AL ?_
    refine rd mixed ?_
    have ha:i < (Ak 100 0 A).1.length:=by omega
    have hb:i < (Ak 100 0 B).1.length:=by omega
    have hga:(Ak 100 0 A).1[i]?=some (Ak 100 0 A).1[i]:=List.getElem?_eq_getElem ha
    have hgb:(Ak 100 0 B).1[i]?=some (Ak 100 0 B).1[i]:=List.getElem?_eq_getElem hb
    iterate 2 refine zv A8 ?_
    refine zv (CR CS Dh) ?_
    refine zv (LG Dh MK hga) ?_
    iterate 2 refine zv A8 ?_
    refine zv (CR CS Dh) ?_
    refine zv (LG Dh MK hgb) ?_
    refine zv DY ?_
    refine ⟨by rfl,?_⟩
    refine cd (fun hc2=>?_) (fun hc2=>?_)
    ·try simp at hc2
     refine sg ?_
     refine qv A8 ?_
     iterate 3 refine qv A9 ?_
     refine AV ?_
     exact x3 (hr:=(Uq (by rw [Li h12.1 h12.2 ha hb (fun j hj hk h=>BM.2.2 j hj hk h) (by simpa using hc2)]))) (hr':=(Cc (by rw [Li h12.1 h12.2 ha hb (fun j hj hk h=>BM.2.2 j hj hk h) (by simpa using hc2)]))) (SY:=(Cc (by rw [Li h12.1 h12.2 ha hb (fun j hj hk h=>BM.2.2 j hj hk h) (by simpa using hc2)])))
    ·try simp at hc2
     refine Af ?_
     refine rg ?_
     refine qv Aq ?_
     refine qv A8 ?_
     exact ⟨i+1,⟨by omega,by omega,fun j hj hk h=>by
      rcases Nat.lt_or_ge j i with h1 | h1
      ·exact BM.2.2 j hj hk h1
      ·obtain rfl:j=i:=by omega
       simpa using hc2⟩,(by simp only;omega),(tl [(14,14),(19,19)] (hF:=by simp [DK,AX,lk,AA,isLive,AZ,CW]) (hM:=by simp [Cm,Ar,AX,Aa,lk,AA,isLive,AZ,BO,BN,Al,BL,BP,BS,BQ,BR,CW]))⟩
   ·try simp at hc1
    have hms:=Yy h12.1 h12.2 fun j hj hk=>BM.2.2 j hj hk (by omega)
    refine Ai ?_
    refine AL ?_
    refine sg ?_
    refine qv A8 ?_
    refine qv (CZ Ce) ?_
    refine qv A8 ?_
    refine qv (CZ Ce) ?_
    refine qv Dk ?_
    refine cd (fun hc3=>?_) (fun hc3=>?_)
    ·try simp at hc3
     have hlt:(Ak 100 0 A).1.length < (Ak 100 0 B).1.length:=by omega
     refine sg ?_
     iterate 2 refine qv A8 ?_
     refine qv (CZ Ce) ?_
     iterate 3 refine qv A9 ?_
     refine AV ?_
     exact x3 (hr:=(Uq (by rw [hms,if_pos hlt]))) (hr':=(Cc (by rw [hms,if_pos hlt]))) (SY:=(Cc (by rw [hms,if_pos hlt])))
    ·try simp at hc3
     have hlt:¬ (Ak 100 0 A).1.length < (Ak 100 0 B).1.length:=by omega
     refine Af ?_
     refine sg ?_
     iterate 2 refine qv A8 ?_
     refine qv (CZ Ce) ?_
     iterate 3 refine qv A9 ?_
     refine AV ?_
     exact x3 (hr:=(Uq (by rw [hms,if_neg hlt]))) (hr':=(Cc (by rw [hms,if_neg hlt]))) (SY:=(Cc (by rw [hms,if_neg hlt])))
end Go.Ab.Tryz
