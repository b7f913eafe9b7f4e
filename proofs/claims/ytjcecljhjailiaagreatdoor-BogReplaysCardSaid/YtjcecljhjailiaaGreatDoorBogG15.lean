/- BogM5, BogM6, BogM7, MossL2, BogM8, HeapL1. -/
import Derived.Test.YtjcecljhjailiaaGreatDoorBogG14
import Derived.Test.YtjcecljhjailiaaGreatDoorBogG07
import Derived.Test.YtjcecljhjailiaaGreatDoorBogG14
import Derived.Test.YtjcecljhjailiaaGreatDoorBogG10
set_option linter.all false
namespace Go.Ab.Tryz
open Go Go.Ab Go.Proofs Go.Ab.Ci
theorem xw {n:Mn} (ok:n.Ok):wL Tryz.prog 231 [.DU [i64 (n.r:Int),i64 (n.c:Int),i64 (n.nd:Int)]] ((List.range (n.r * n.c)).map (Vg n.c)):=Go.Proofs.Tryz.squares_seq n.r n.c n.nd ⟨ok.r1,ok.r2⟩ ⟨ok.c1,ok.c2⟩
theorem f182 (n:Mn) (ok:n.Ok) (w:Nat) (hw:w < 68719476736):AR Tryz.prog 182 [vT n,i64 (w:Int)] (.one (.dv (i64 (Vp n w:Int)))):=by
 have hN:=ok.N2
 refine kI (ds:=[i64 (Vp n w:Int)]) Tryz.func182 rfl rfl (by rw [Tryz.ntmps182];simp) fun cx hP hn hg hrn jW hfin=>?_
 rw [Tryz.ntmps182] at hn
 rw [Bq,Bp]
 simp only [List.nil_append,List.append_nil,List.cons_append,BF,Nat.reduceAdd]
 refine sg ?_
 iterate 2 refine qp BX ?_
 refine qv A9 ?_
 refine sg ?_
 refine qp (Fj Jq) ?_
 refine qs (CK Ak) ?_
 refine Ub ?_
 refine rg ?_
 refine qv (AQ H7 JI) ?_
 refine sQ (f207 n) ?_
 show wF cx _ _ _ _
 refine rgf hg hrn jW hfin hP hn (xw ok) (l:=[(2,.pt 2 0 0),(3,.pt 3 0 0),(5,.pt 5 0 0),(8,.dv (.fn 231 [] [.DU [i64 (n.r:Int),i64 (n.c:Int),i64 (n.nd:Int)]]))]) (fun k=>[(2,0,some ⟨[.dv (i64 (n.r)),.dv (i64 (n.c)),.dv (i64 (n.nd))],0,65,0,false⟩),(3,0,some ⟨[.dv (i64 ((w:Int)))],0,3,0,false⟩),(5,0,some ⟨[.dv (i64 ((FY (Yh n w) k:Nat):Int))],0,3,0,false⟩)]) (tl [(2,2),(3,3),(5,5)] (hF:=by simp [Ck,Aa,lk,AA,isLive,Ac,FY]) (hM:=by simp [CV,Al,Aa,Ae,lk,AA,isLive,Ac,BK,BJ,Af,BI,BL,BO,BM,BN,FY])) (fun k x hx=>?_) fun xH hP2 hn2 hg2=>?_
 ·obtain ⟨hk,rfl⟩:=y7 hx
  refine yD (P:=Tryz.prog) (N:=31) [(2,2),(3,3),(5,5)] [(2,⟨[.dv (i64 (n.r)),.dv (i64 (n.c)),.dv (i64 (n.nd))],0,65,5,false⟩),(3,⟨[.dv (i64 ((w:Int)))],0,3,6,false⟩),(5,⟨[.dv (i64 ((FY (Yh n w) k:Nat):Int))],0,3,8,false⟩)] [(2,⟨[.dv (i64 (n.r)),.dv (i64 (n.c)),.dv (i64 (n.nd))],0,65,5,false⟩),(3,⟨[.dv (i64 ((w:Int)))],0,3,6,false⟩),(5,⟨[.dv (i64 ((FY (Yh n w) (k+1):Nat):Int))],0,3,8,false⟩)] [2,3,5] [(2,.pt 2 0 0),(3,.pt 3 0 0),(5,.pt 5 0 0),(8,.dv (.fn 231 [] [.DU [i64 (n.r:Int),i64 (n.c:Int),i64 (n.nd:Int)]]))] (hle:=(tl [(2,2),(3,3),(5,5)] (hF:=by simp [Ck,Aa,lk,AA,isLive,Ac,FY]) (hM:=by simp [CV,Al,Aa,Ae,lk,AA,isLive,Ac,BK,BJ,Af,BI,BL,BO,BM,BN,FY]))) (k:=fun qy hP1 hn1 hg1=>?_)
  show Eu qy _ _ ⟨lk [(10,.dv (.agg [i64 ((k / n.c:Nat):Int),i64 ((k % n.c:Nat):Int)])),(9,.dv (i64 ((k:Nat)))),(2,.pt 2 0 0),(3,.pt 3 0 0),(5,.pt 5 0 0),(8,.dv (.fn 231 [] [.DU [i64 (n.r:Int),i64 (n.c:Int),i64 (n.nd:Int)]]))],AA [(2,0,some ⟨[.dv (i64 (n.r)),.dv (i64 (n.c)),.dv (i64 (n.nd))],0,65,5,false⟩),(3,0,some ⟨[.dv (i64 ((w:Int)))],0,3,6,false⟩),(5,0,some ⟨[.dv (i64 ((FY (Yh n w) k:Nat):Int))],0,3,8,false⟩)]⟩
  have hb36:=QM (p:=Yh n w) (k:=k) (by omega)
  have har:=A0U ok hk
  refine rg ?_
  refine qv A9 ?_
  refine asg fun qy hP1 hn1 hg1=>?_
  refine BD ?_
  refine AJ ?_
  refine rd mixed ?_
  refine zv (AL Ak Br) ?_
  refine zv A8 ?_
  refine GA (R:=[]) (f208 w k hw (by omega)) ?_
  refine zv Bn ?_
  refine zx A8 (fun V5=>?_) (fun V5=>?_)
  ·try simp at V5
   refine zv (AQ H7 JI) ?_
   refine zv A8 ?_
   refine GA (R:=[]) (f210 n ok k hk) ?_
   refine zv (AL Ak Br) ?_
   refine zv TF ?_
   refine GA (R:=[]) (f209 (Qy n k &&& w) (by exact Ug har)) ?_
   refine zv (AB Tf) ?_
   refine zv (AL Ak Br) ?_
   refine zv Df ?_
   refine zv Ai ?_
   refine ⟨by rfl,?_⟩
   show Eu qy _ _ _
   refine cd (fun hc0=>?_) (fun hc0=>?_)
   ·try simp at hc0
    refine rd mixed ?_
    first | refine zv (EG Ak Br) ?_ | refine zv (AL Ak Br) ?_
    refine zv A8 ?_
    refine zv (EP k) ?_
    refine zv Dc ?_
    first | refine zs (Gp Ak) ?_ | refine zs (CK Ak) ?_
    refine ⟨by rfl,?_⟩
    have hb:FY (Yh n w) (k+1)=FY (Yh n w) k ||| 2 ^ k:=by simp [FY,Yh,V5,hc0]
    exact rend (tl [(2,2),(3,3),(5,5)] (hF:=by simp [Ck,Aa,lk,AA,isLive,Ac,hb]) (hM:=by simp [CV,Al,Aa,Ae,lk,AA,isLive,Ac,BK,BJ,Af,BI,BL,BO,BM,BN,hb]))
   ·try simp at hc0
    refine AY ?_
    have hr:Yh n w k=false:=by simp [Yh,V5];omega
    have hb:FY (Yh n w) (k+1)=FY (Yh n w) k:=by simp [FY,hr]
    exact rend (tl [(2,2),(3,3),(5,5)] (hF:=by simp [Ck,Aa,lk,AA,isLive,Ac,hb]) (hM:=by simp [CV,Al,Aa,Ae,lk,AA,isLive,Ac,BK,BJ,Af,BI,BL,BO,BM,BN,hb]))
  ·try simp at V5
   iterate 9 refine zk ?_
   refine zv Ai ?_
   refine ⟨by rfl,?_⟩
   show Eu qy _ _ _
   refine Cv (hb:=by first | rfl | simp | simp_all) (ht:=?_)
   refine AY ?_
   have hb:FY (Yh n w) (k+1)=FY (Yh n w) k:=by simp [FY,Yh,V5]
   exact rend (tl [(2,2),(3,3),(5,5)] (hF:=by simp [Ck,Aa,lk,AA,isLive,Ac,hb]) (hM:=by simp [CV,Al,Aa,Ae,lk,AA,isLive,Ac,BK,BJ,Af,BI,BL,BO,BM,BN,hb]))
 ·try rw [List.length_map,List.length_range]
  refine sg ?_
  refine qv (AL Ak Br) ?_
  refine qv A9 ?_
  show Eu xH _ _ _
  refine AP ?_
  exact xs1
end Go.Ab.Tryz
namespace Go.Ab.Tryz
open Go Go.Ab Go.Proofs Go.Ab.Ci
def NT {α:Type} (p:α -> Bool) (l:List α):Int:=if l.any p then (l.findIdx p:Int) else -1
theorem uE {α:Type} {p:α -> Bool} {l:List α} {i:Nat} (h:i < l.length) (hp:p l[i]=true) (hb:∀ j (hj:j < i),p (l[j]'(by omega))=false):NT p l=i:=by
 unfold NT
 rw [if_pos (List.any_eq_true.2 ⟨l[i],List.getElem_mem h,hp⟩),(List.findIdx_eq h).2 ⟨hp,hb⟩]
theorem uD {α:Type} {p:α -> Bool} {l:List α} (h:∀ j (hj:j < l.length),p l[j]=false):NT p l=-1:=by
 unfold NT
 rw [if_neg]
 intro ha
 obtain ⟨x,hx,hpx⟩:=List.any_eq_true.1 ha
 obtain ⟨j,hj,rfl⟩:=List.getElem_of_mem hx
 rw [h j hj] at hpx
 cases hpx
theorem ZF {α:Type} (p:α -> Bool) (l:List α):decide (0 <= NT p l)=l.any p:=by
 unfold NT
 cases h:l.any p<;>simp
abbrev ql (f:FuncId) (pre caps:List DV) (p:Int -> Bool) (l:List Int):Prop:=∀ x ∈ l,AR Tryz.prog f (pre ++ [i64 x] ++ caps) (.one (.dv (.bool (p x))))
theorem ig {α:Type} {l:List α} {i:Nat} {x:α} (h:l[i]?=some x):l.take (i+1)=l.take i ++ [x]:=by
 rw [List.take_succ,h];rfl
theorem f155 (l:List Int) (f:FuncId) (pre caps:List DV) (p:Int -> Bool) (hp:ql f pre caps p l) (hl:l.length < 2000000) :
  AR Tryz.prog 155 [ints l,.fn f pre caps] (.one (.dv (i64 (NT p l)))):=by
 refine Bu Tryz.func155 rfl rfl (by rw [Tryz.ntmps155];simp) fun cx hP hn hg=>?_
 rw [Tryz.ntmps155] at hn
 rw [Bq,Bp]
 simp only [List.nil_append,List.append_nil,List.cons_append,BF,Nat.reduceAdd]
 refine sg ?_
 refine qv A9 ?_
 refine AJ ?_
 refine sg ?_
 refine qv A8 ?_
 refine qv (BH CZ) ?_
 refine qv A8 ?_
 refine BD ?_
 refine Ag (ι:=Nat) (fun i=>⟨lk [(0,.dv (ints (l))),(1,.dv (.fn f pre caps)),(7,.dv (i64 ((l.length:Int)))),(8,.dv (i64 (i:Nat)))],AA []⟩) (fun i=>i <= l.length /\ ∀ j (hj:j < i) (h:j < l.length),p l[j]=false) (fun i=>l.length - i) 0 ⟨Nat.zero_le _,fun j hj=>absurd hj (Nat.not_lt_zero j)⟩ (tl []) ?_
 intro i Aj
 refine sg ?_
 refine qv BQ ?_
 refine AJ ?_
 refine cd (fun hc0=>?_) (fun hc0=>?_)
 ·try simp at hc0
  refine AY ?_
  refine AJ ?_
  refine BD ?_
  refine sg ?_
  refine qv A8 ?_
  refine qv A9 ?_
  refine sg ?_
  have hi:i < l.length:=by omega
  have hx:l[i]?=some l[i]:=List.getElem?_eq_getElem hi
  iterate 3 refine qv A8 ?_
  first | refine qv (BA Ap Ak) ?_ | refine qv (Bd Ap Ak) ?_
  refine qv (Bb Ak Br) ?_
  refine A23 (hp l[i] (List.getElem_mem hi)) ?_
  refine cd (fun hc1=>?_) (fun hc1=>?_)
  ·try simp at hc1
   refine sg ?_
   refine qv A8 ?_
   refine qv A9 ?_
   refine AP ?_
   rw [uE hi (by simpa using hc1) (fun j hj=>Aj.2 j hj _)]
   exact x1 (hr:=(CW))
  ·try simp at hc1
   refine AY ?_
   refine rg ?_
   refine qv Am ?_
   refine qv A8 ?_
   exact ⟨i+1,⟨hi,fun j hj h=>by
     rcases Nat.lt_or_ge j i with h1 | h1
     ·exact Aj.2 j h1 h
     ·obtain rfl:j=i:=by omega
      simpa using hc1⟩,(by simp only;omega),(tl [])⟩
 ·try simp at hc0
  refine Ad ?_
  refine sg ?_
  refine qv A9 ?_
  refine AP ?_
  rw [uD (fun j hj=>Aj.2 j (by omega) hj)]
  exact x1 (hr:=(CW))
theorem f106 (l:List Int) (f:FuncId) (pre caps:List DV) (p:Int -> Bool) (hp:ql f pre caps p l) (hl:l.length < 2000000) :
  AR Tryz.prog 106 [ints l,.fn f pre caps] (.one (.dv (.bool (l.any p)))):=by
 refine Bu Tryz.func106 rfl rfl (by rw [Tryz.ntmps106];simp) fun cx hP hn hg=>?_
 rw [Tryz.ntmps106] at hn
 rw [Bq,Bp]
 simp only [List.nil_append,List.append_nil,List.cons_append,BF,Nat.reduceAdd]
 refine sg ?_
 refine qv A9 ?_
 refine sg ?_
 iterate 2 refine qv A8 ?_
 refine Bo (f155 l f pre caps p hp hl) ?_
 refine qv Df ?_
 refine qv A9 ?_
 refine AP ?_
 exact x1 (hr:=(DX (by simp [ZF])))
end Go.Ab.Tryz
namespace Go.Ab.Tryz
open Go Go.Ab Go.Proofs Go.Ab.Ci
def xZ (m:Mw):Mn:=⟨m.rows.toNat,m.ZX.toNat,m.need.toNat⟩
def Vv {α:Type} (m:Mw) (w:Int) (d:α) (g:Mn -> Nat -> α):α:=if LM m w=0 then g (xZ m) w.toNat else d
theorem Rz {n:Mn} (ok:n.Ok) {v:Nat} (hv:v <= full n):LM n.w (v:Int)=0:=by
 rw [Wi ok,if_pos]
 simp only [CX,Bool.and_eq_true,decide_eq_true_eq];omega
theorem xY (n:Mn):xZ n.w=n:=by simp [xZ]
theorem OW {α:Type} {n:Mn} (ok:n.Ok) {v:Nat} (hv:v <= full n) {d:α} {g:Mn -> Nat -> α}:Vv n.w (v:Int) d g=g n v:=by
 simp only [Vv,Rz ok hv,if_true,xY,Int.toNat_natCast]
theorem Yu {α:Type} {m:Mw} {w:Int} (h:¬ LM m w=0) {d:α} {g:Mn -> Nat -> α}:Vv m w d g=d:=by simp [Vv,h]
theorem bR {n:Mn} (ok:n.Ok) {v:Nat} (hv:v <= full n):v < 68719476736:=Nat.lt_of_le_of_lt hv (MU ok)
theorem yQ {l:List Nat} {i:Nat} (h:i < l.length):(ns l)[i]?=some (l[i]:Int):=by simp [ns,h]
theorem f150 (m:Mw) (w:Int):AR Tryz.prog 150 [xG m,i64 w] (.many [.dv (i64 (Vv m w 0 fun n v=>((v ||| Vp n v:Nat):Int))),.dv (i64 (LM m w))]):=by
 refine Bu Tryz.func150 rfl rfl (by rw [Tryz.ntmps150];simp) fun cx hP hn hg=>?_
 rw [Tryz.ntmps150] at hn
 rw [Bq,Bp]
 simp only [List.nil_append,List.append_nil,List.cons_append,BF,Nat.reduceAdd]
 refine sg ?_
 refine qp BX ?_
 iterate 2 refine qv A9 ?_
 refine AJ ?_
 refine sg ?_
 refine qv (AQ H7 JI) ?_
 refine qv A8 ?_
 refine Bo (f181 m w) ?_
 refine qv A9 ?_
 refine sg ?_
 refine qv A8 ?_
 refine qv BP ?_
 refine cd (fun hc0=>?_) (fun hc0=>?_)
 ·skip
  have hne:¬ LM m w=0:=by simpa using hc0
  refine sg ?_
  refine qv A8 ?_
  iterate 2 refine qv A9 ?_
  refine AP ?_
  exact x2 (hr:=(CW (by rw [Yu hne]))) (hr':=(CW))
 ·skip
  have he:LM m w=0:=by simpa using hc0
  obtain ⟨n,v,ok,rfl,rfl,hv⟩:=dh he
  have yu:=bR ok hv
  have hwe:=Rz ok hv
  refine AY ?_
  refine sg ?_
  refine qv A8 ?_
  refine qv (AQ H7 JI) ?_
  refine qv A8 ?_
  refine Bo (f182 n ok v yu) ?_
  refine qv (Dc (hb:=mM ok)) ?_
  iterate 2 refine qv A9 ?_
  refine AP ?_
  exact x2 (hr:=(CW (by rw [OW ok hv]))) (hr':=(CW (by rw [hwe])))
end Go.Ab.Tryz
namespace Go.Ab.Ci
open Go Go.Ab
theorem wP {a:Int} (h:-36 <= a /\ a <= 36):0 <= a * a /\ a * a <= 1296:=by
 have e:a * a=((a.natAbs * a.natAbs:Nat):Int):=(Int.natAbs_mul_self (a:=a)).symm
 have h1:a.natAbs <= 36:=by omega
 have h2:a.natAbs * a.natAbs <= 36 * 36:=Nat.mul_le_mul h1 h1
 rw [e];omega
theorem y5 {a b:Int}:a * a+b * b=1 ↔ (a=0 /\ (b=1 \/ b=-1)) \/ (b=0 /\ (a=1 \/ a=-1)):=by
 constructor
 ·intro h
  have ea:a * a=((a.natAbs * a.natAbs:Nat):Int):=(Int.natAbs_mul_self (a:=a)).symm
  have eb:b * b=((b.natAbs * b.natAbs:Nat):Int):=(Int.natAbs_mul_self (a:=b)).symm
  rw [ea,eb] at h
  have h':a.natAbs * a.natAbs+b.natAbs * b.natAbs=1:=by omega
  have ha:a.natAbs <= 1:=by
   rcases Nat.lt_or_ge 1 a.natAbs with h1 | h1
   ·have:=Nat.mul_le_mul h1 h1;omega
   ·exact h1
  have hb:b.natAbs <= 1:=by
   rcases Nat.lt_or_ge 1 b.natAbs with h1 | h1
   ·have:=Nat.mul_le_mul h1 h1;omega
   ·exact h1
  have ha2:a.natAbs=0 \/ a.natAbs=1:=by omega
  have hb2:b.natAbs=0 \/ b.natAbs=1:=by omega
  rcases ha2 with h1 | h1<;>rcases hb2 with h2 | h2<;>rw [h1,h2] at h'<;>omega
 ·rintro (⟨rfl,rfl | rfl⟩ | ⟨rfl,rfl | rfl⟩)<;>rfl
def dr (n:Mn) (j k:Nat):Int:=((j / n.c:Nat):Int) - ((k / n.c:Nat):Int)
def dc (n:Mn) (j k:Nat):Int:=((j % n.c:Nat):Int) - ((k % n.c:Nat):Int)
def RN (n:Mn) (k j:Nat):Bool:=decide (dr n j k * dr n j k+dc n j k * dc n j k=1)
def YF (n:Mn) (k:Nat):List Nat:=(List.range (n.r * n.c)).filter (RN n k)
def vZ (n:Mn) (w k:Nat):Nat:=(YF n k).countP fun j=>w.testBit j
theorem iH {n:Mn} (ok:n.Ok) {k:Nat} (hk:k < n.r * n.c) (j:Nat):(Qy n k).testBit j=(decide (j < n.r * n.c) && RN n k j):=by
 have e:(Qy n k).testBit j=((decide (0 < k / n.c) && decide (k - n.c=j)) || (decide (0 < k % n.c) && decide (k - 1=j)) || (decide (k % n.c+1 < n.c) && decide (k+1=j)) || (decide (k / n.c+1 < n.r) && decide (k+n.c=j))):=by
  unfold Qy VT VU VW
  by_cases h0:0 < k / n.c<;>by_cases h1:0 < k % n.c<;>by_cases h2:k % n.c+1 < n.c<;>by_cases h3:k / n.c+1 < n.r<;>simp only [h0,h1,h2,h3,if_true,if_false,Nat.testBit_or,Nat.testBit_two_pow,Nat.zero_testBit,decide_true,decide_false,Bool.true_and,Bool.false_and,Bool.false_or,Bool.or_false]
 rw [e,Bool.eq_iff_iff]
 simp only [Bool.or_eq_true,Bool.and_eq_true,decide_eq_true_eq,RN,y5,dr,dc]
 obtain ⟨r,c,nd⟩:=n
 obtain ⟨r1,r2,c1,c2,n1,n2⟩:=ok
 simp only at *
 have hc:c=1 \/ c=2 \/ c=3 \/ c=4 \/ c=5 \/ c=6:=by omega
 rcases hc with rfl | rfl | rfl | rfl | rfl | rfl<;>omega
theorem yJ {k x:Nat} (hx:x < 2 ^ k) (hk:k <= 64):Yk x=pc k x:=by
 have e:(64:Nat)=k+(64 - k):=by omega
 show pc 64 x=_
 rw [e,mX,Nat.div_eq_of_lt hx]
 have:pc (64 - k) 0=0:=by simp [pc]
 omega
theorem mW {n:Mn} (ok:n.Ok) {k:Nat} (hk:k < n.r * n.c) (w:Nat):Yk (Qy n k &&& w)=vZ n w k:=by
 have hlt:Qy n k < 2 ^ (n.r * n.c):=by
  apply Nat.lt_pow_two_of_testBit
  intro i hi
  rw [iH ok hk]
  simp;omega
 rw [yJ (Nat.lt_of_le_of_lt Nat.and_le_left hlt) (Nat.le_trans ok.N2 (by decide))]
 unfold pc vZ YF
 rw [List.countP_filter]
 apply List.countP_congr
 intro i hi
 have:=List.mem_range.1 hi
 rw [Nat.testBit_and,iH ok hk]
 simp [this,Bool.and_comm]
theorem A29 {n:Mn} {k j:Nat} (h:j ∈ YF n k):j < n.r * n.c:=List.mem_range.1 (List.mem_filter.1 h).1
theorem yS {n:Mn} {k:Nat}:(YF n k).length <= n.r * n.c:=by
 have:=List.length_filter_le (RN n k) (List.range (n.r * n.c))
 simpa [YF] using this
def eF (n:Mn) (w k:Nat):Bool:=decide (n.nd <= vZ n w k)
def stN (n:Mn) (w:Nat):Nat:=w ||| FY (eF n w) (n.r * n.c)
theorem xq {n:Mn} (ok:n.Ok) (w:Nat):stN n w=w ||| Vp n w:=by
 apply Nat.eq_of_testBit_eq
 intro i
 unfold stN Vp
 rw [Nat.testBit_or,Nat.testBit_or,Gj,Gj]
 by_cases hi:i < n.r * n.c
 ·simp only [hi,decide_true,Bool.true_and,eF,Yh,mW ok hi]
  cases w.testBit i<;>simp
 ·simp [hi]
end Go.Ab.Ci
namespace Go.Ab.Tryz
open Go Go.Ab Go.Proofs Go.Ab.Ci
theorem aC {n:Mn} {k j:Nat}:RN n k j=true ↔ dr n j k * dr n j k+dc n j k * dc n j k=1:=by unfold RN;exact decide_eq_true_iff
theorem Qu {p:Nat -> Bool} {k:Nat}:(List.range (k+1)).filter p=(List.range k).filter p ++ if p k then [k] else []:=by
 rw [List.range_succ,List.filter_append]
 by_cases h:p k=true<;>simp [h]
theorem Pz {p:Nat -> Bool} {k:Nat} (h:p k=true):ns ((List.range (k+1)).filter p)=ns ((List.range k).filter p) ++ [(k:Int)]:=by
 rw [Qu,if_pos h,sj]
theorem J5 {p:Nat -> Bool} {k:Nat} (h:¬ p k=true):(List.range (k+1)).filter p=(List.range k).filter p:=by
 rw [Qu,if_neg h,List.append_nil]
theorem ZW {p:Nat -> Bool} {l:List Nat} {i:Nat} (h:i < l.length):(l.take (i+1)).countP p=(l.take i).countP p+if p l[i] then 1 else 0:=by
 rw [ig (List.getElem?_eq_getElem h),List.countP_append]
 by_cases hp:p l[i]=true<;>simp [hp]
theorem Oj {p:Nat -> Bool} {k:Nat}:((List.range k).filter p).length <= k:=by
 have:=List.length_filter_le p (List.range k)
 simpa using this
theorem f217 (n:Mn) (ok:n.Ok) (k:Nat) (hk:k < n.r * n.c):AR Tryz.prog 217 [vT n,i64 (k:Int)] (.one (rI (ns (YF n k)))):=by
 have hN:=ok.N2
 have hcp:=ok.c1
 have hcq:=ok.c2
 refine Bu Tryz.func217 rfl rfl (by rw [Tryz.ntmps217];simp) fun cx hP hn hg=>?_
 rw [Tryz.ntmps217] at hn
 rw [Bq,Bp]
 simp only [List.nil_append,List.append_nil,List.cons_append,BF,Nat.reduceAdd]
 refine sg ?_
 refine qp BX ?_
 refine qv A9 ?_
 refine sg ?_
 refine qv A9 ?_
 refine AJ ?_
 refine sg ?_
 refine qv A9 ?_
 refine BD ?_
 refine Ag (ι:=Nat) (fun j=>⟨lk [(1,.dv (i64 ((k:Int)))),(2,.pt 2 0 0),(5,.sl 5 0 0 ((ns ((List.range j).filter (RN n k))).length)),(6,.dv (i64 (j:Nat)))],AA [(2,0,some ⟨[.dv (i64 (n.r)),.dv (i64 (n.c)),.dv (i64 (n.nd))],0,65,0,false⟩),(5,0,some (Jv (ns ((List.range j).filter (RN n k)))))]⟩) (fun j=>j <= n.r * n.c) (fun j=>n.r * n.c - j) 0 (by simp) (tl [(2,2)] (hF:=by simp [Ck,Aa,lk,AA,isLive,Ac,ns]) (hM:=by simp [CV,Al,Aa,Ae,lk,AA,isLive,Ac,BK,BJ,Af,BI,BL,BO,BM,BN,ns])) ?_
 intro j Aj
 have hfl:=Oj (p:=RN n k) (k:=j)
 refine AJ ?_
 refine sg ?_
 refine qv A8 ?_
 refine qv (AQ H7 JI) ?_
 refine Bo (f187 n ok) ?_
 refine qv BQ ?_
 refine cd (fun hc0=>?_) (fun hc0=>?_)
 ·try simp at hc0
  refine AY ?_
  refine AJ ?_
  refine BD ?_
  refine AJ ?_
  refine rd mixed ?_
  have hj:j < n.r * n.c:=by omega
  have b1:=J2 hj hcp
  have b2:=J2 hk hcp
  have b3:=Nat.mod_lt j hcp
  have b4:=Nat.mod_lt k hcp
  have b5:=ok.r2
  have b6:(0:Int) <= ((j / n.c:Nat):Int):=Int.natCast_nonneg _
  have b7:(0:Int) <= ((k / n.c:Nat):Int):=Int.natCast_nonneg _
  have s1:=wP (a:=((j / n.c:Nat):Int) - ((k / n.c:Nat):Int)) (by omega)
  have s2:=wP (a:=((j % n.c:Nat):Int) - ((k % n.c:Nat):Int)) (by omega)
  refine zv A8 ?_
  refine zv (AB DR) ?_
  refine zv (AL Ak Br) ?_
  refine zv bK ?_
  refine zv A8 ?_
  refine zv (AB DR) ?_
  refine zv (AL Ak Br) ?_
  refine zv bK ?_
  refine zv FW ?_
  refine zv A8 ?_
  refine zv (AB DR) ?_
  refine zv (AL Ak Br) ?_
  refine zv bJ ?_
  refine zv A8 ?_
  refine zv (AB DR) ?_
  refine zv (AL Ak Br) ?_
  refine zv bJ ?_
  refine zv FW ?_
  iterate 2 refine zv A9 ?_
  refine ⟨by rfl,?_⟩
  refine sg ?_
  iterate 2 refine qv A8 ?_
  refine qv Mq ?_
  iterate 2 refine qv A8 ?_
  refine qv Mq ?_
  refine qv Am ?_
  refine qv Bv ?_
  refine cd (fun hc1=>?_) (fun hc1=>?_)
  ·skip
   have ha:RN n k j=true:=aC.2 (by simpa only [beq_iff_eq,dr,dc] using hc1)
   have hsn:=Pz ha
   have hnl:(ns ((List.range j).filter (RN n k))).length <= 36:=by rw [Py];omega
   refine rg ?_
   iterate 2 refine qv A8 ?_
   refine qr (D7 Ap Jq Ak) ?_
   refine Qg (DK Ap Ap Jq Ak U7) ?_
   refine qv A9 ?_
   refine rg ?_
   refine qv A8 ?_
   refine qv Am ?_
   refine qv A9 ?_
   exact ⟨j+1,hj,(by simp only;omega),(tl [(2,2),(5,44)] (hF:=by simp [Ck,Aa,lk,AA,isLive,Ac,hsn]) (hM:=by simp [CV,Al,Aa,Ae,lk,AA,isLive,Ac,BK,BJ,Af,BI,BL,BO,BM,BN,hsn]))⟩
  ·skip
   have ha:¬ RN n k j=true:=fun hh=>absurd (aC.1 hh) (by simpa only [beq_eq_false_iff_ne,ne_eq,dr,dc] using hc1)
   have hsn:=J5 ha
   refine AY ?_
   refine rg ?_
   refine qv A8 ?_
   refine qv Am ?_
   refine qv A9 ?_
   exact ⟨j+1,hj,(by simp only;omega),(tl [(2,2),(5,5)] (hF:=by simp [Ck,Aa,lk,AA,isLive,Ac,hsn]) (hM:=by simp [CV,Al,Aa,Ae,lk,AA,isLive,Ac,BK,BJ,Af,BI,BL,BO,BM,BN,hsn]))⟩
 ·try simp at hc0
  refine Ad ?_
  refine sg ?_
  refine qv A8 ?_
  refine qv A9 ?_
  refine AP ?_
  obtain rfl:j=n.r * n.c:=by omega
  exact x1 (hr:=(eu))
theorem f188 (n:Mn) (ok:n.Ok) (w k:Nat) (hw:w < 68719476736) (hk:k < n.r * n.c):AR Tryz.prog 188 [vT n,i64 (w:Int),i64 (k:Int)] (.one (.dv (i64 (vZ n w k:Int)))):=by
 have hN:=ok.N2
 have hbl:=yS (n:=n) (k:=k)
 refine Bu Tryz.func188 rfl rfl (by rw [Tryz.ntmps188];simp) fun cx hP hn hg=>?_
 rw [Tryz.ntmps188] at hn
 rw [Bq,Bp]
 simp only [List.nil_append,List.append_nil,List.cons_append,BF,Nat.reduceAdd]
 refine sg ?_
 refine qp BX ?_
 refine qv A9 ?_
 refine sg ?_
 refine qv (AQ H7 JI) ?_
 refine qv A8 ?_
 refine Bo (f217 n ok k hk) ?_
 refine qv A9 ?_
 refine sg ?_
 refine qv A9 ?_
 refine AJ ?_
 refine sg ?_
 refine qv A9 ?_
 refine BD ?_
 refine Ag (ι:=Nat) (fun i=>⟨lk [(1,.dv (i64 ((w:Int)))),(7,.sl 12 0 0 (ns (YF n k)).length),(8,.dv (i64 (((YF n k).take i).countP (fun j=>w.testBit j):Nat))),(9,.dv (i64 (i:Nat)))],AA [(12,0,some (Jv (ns (YF n k))))]⟩) (fun i=>i <= (YF n k).length) (fun i=>(YF n k).length - i) 0 (by simp) (tl [(12,12)]) ?_
 intro i Aj
 have hcl:((YF n k).take i).countP (fun j=>w.testBit j) <= 36:=Nat.le_trans List.countP_le_length (by simp;omega)
 refine AJ ?_
 refine sg ?_
 iterate 2 refine qv A8 ?_
 refine qv (Cg CZ) ?_
 refine qv BQ ?_
 refine cd (fun hc0=>?_) (fun hc0=>?_)
 ·try simp at hc0
  refine AY ?_
  refine AJ ?_
  refine BD ?_
  refine sg ?_
  iterate 3 refine qv A8 ?_
  have hi:i < (YF n k).length:=by rw [Py] at *;omega
  have hgi:=yQ hi
  have hkm:(YF n k)[i] ∈ YF n k:=List.getElem_mem hi
  have hkl:=A29 hkm
  have hct:=ZW (p:=fun j=>w.testBit j) hi
  refine qv (CB Ap Ak) ?_
  first | refine qv (EG Ak Br) ?_ | refine qv (AL Ak Br) ?_
  refine Bo (f116 w (YF n k)[i] hw (by omega)) ?_
  refine cd (fun hc1=>?_) (fun hc1=>?_)
  ·try simp at hc1
   rw [hc1] at hct
   simp only [if_true] at hct
   refine rg ?_
   refine qv A8 ?_
   refine qv Am ?_
   refine qv A9 ?_
   refine rg ?_
   refine qv A8 ?_
   refine qv Am ?_
   refine qv A9 ?_
   exact ⟨i+1,hi,(by simp only;omega),(tl [(12,12)] (hF:=by simp [Ck,Aa,lk,AA,isLive,Ac,hct]) (hM:=by simp [CV,Al,Aa,Ae,lk,AA,isLive,Ac,BK,BJ,Af,BI,BL,BO,BM,BN,hct]))⟩
  ·try simp at hc1
   rw [hc1] at hct
   simp only [Bool.false_eq_true,if_false,Nat.add_zero] at hct
   refine AY ?_
   refine rg ?_
   refine qv A8 ?_
   refine qv Am ?_
   refine qv A9 ?_
   exact ⟨i+1,hi,(by simp only;omega),(tl [(12,12)] (hF:=by simp [Ck,Aa,lk,AA,isLive,Ac,hct]) (hM:=by simp [CV,Al,Aa,Ae,lk,AA,isLive,Ac,BK,BJ,Af,BI,BL,BO,BM,BN,hct]))⟩
 ·try simp at hc0
  refine Ad ?_
  refine sg ?_
  refine qv A8 ?_
  refine qv A9 ?_
  refine AP ?_
  have e2:(YF n k).take i=YF n k:=List.take_of_length_le (by rw [Py] at *;omega)
  rw [e2]
  exact x1 (hr:=(CW))
theorem f158 (n:Mn) (ok:n.Ok) (w:Nat) (hw:w < 68719476736):AR Tryz.prog 158 [vT n,i64 (w:Int)] (.one (.dv (i64 (stN n w:Int)))):=by
 have hN:=ok.N2
 refine Bu Tryz.func158 rfl rfl (by rw [Tryz.ntmps158];simp) fun cx hP hn hg=>?_
 rw [Tryz.ntmps158] at hn
 rw [Bq,Bp]
 simp only [List.nil_append,List.append_nil,List.cons_append,BF,Nat.reduceAdd]
 refine sg ?_
 refine qp BX ?_
 refine qv A9 ?_
 refine sg ?_
 refine qv A8 ?_
 refine qv A9 ?_
 refine AJ ?_
 refine sg ?_
 refine qv A9 ?_
 refine BD ?_
 refine Ag (ι:=Nat) (fun k=>⟨lk [(1,.dv (i64 ((w:Int)))),(2,.pt 2 0 0),(5,.dv (i64 (w ||| FY (eF n w) k:Nat))),(6,.dv (i64 (k:Nat)))],AA [(2,0,some ⟨[.dv (i64 (n.r)),.dv (i64 (n.c)),.dv (i64 (n.nd))],0,65,0,false⟩)]⟩) (fun k=>k <= n.r * n.c) (fun k=>n.r * n.c - k) 0 (by simp) (tl [(2,2)] (hF:=by simp [Ck,Aa,lk,AA,isLive,Ac,FY]) (hM:=by simp [CV,Al,Aa,Ae,lk,AA,isLive,Ac,BK,BJ,Af,BI,BL,BO,BM,BN,FY])) ?_
 intro k Aj
 have hb36:=QM (p:=eF n w) (k:=k) (by omega)
 refine AJ ?_
 refine sg ?_
 refine qv A8 ?_
 refine qv (AQ H7 JI) ?_
 refine Bo (f187 n ok) ?_
 refine qv BQ ?_
 refine cd (fun hc0=>?_) (fun hc0=>?_)
 ·try simp at hc0
  refine AY ?_
  refine AJ ?_
  refine BD ?_
  refine AJ ?_
  refine rd mixed ?_
  have hk:k < n.r * n.c:=by omega
  refine zv (AQ H7 JI) ?_
  iterate 2 refine zv A8 ?_
  refine GA (R:=[]) (f188 n ok w k hw hk) ?_
  refine zv (AB Tf) ?_
  refine zv (AL Ak Br) ?_
  refine zv Df ?_
  refine ⟨by rfl,?_⟩
  refine cd (fun hc1=>?_) (fun hc1=>?_)
  ·try simp at hc1
   have hb:w ||| FY (eF n w) (k+1)=(w ||| FY (eF n w) k) ||| 2 ^ k:=by simp [FY,eF,hc1,Nat.or_assoc]
   refine rg ?_
   iterate 2 refine qv A8 ?_
   refine qv (NP gG XG) ?_
   refine qv (EP k) ?_
   refine qv Dc ?_
   refine qv A9 ?_
   refine rg ?_
   refine qv A8 ?_
   refine qv Am ?_
   refine qv A9 ?_
   exact ⟨k+1,hk,(by simp only;omega),(tl [(2,2)] (hF:=by simp [Ck,Aa,lk,AA,isLive,Ac,hb]) (hM:=by simp [CV,Al,Aa,Ae,lk,AA,isLive,Ac,BK,BJ,Af,BI,BL,BO,BM,BN,hb]))⟩
  ·try simp at hc1
   have hr:eF n w k=false:=by simp [eF];omega
   have hb:w ||| FY (eF n w) (k+1)=w ||| FY (eF n w) k:=by simp [FY,hr]
   refine AY ?_
   refine rg ?_
   refine qv A8 ?_
   refine qv Am ?_
   refine qv A9 ?_
   exact ⟨k+1,hk,(by simp only;omega),(tl [(2,2)] (hF:=by simp [Ck,Aa,lk,AA,isLive,Ac,hb]) (hM:=by simp [CV,Al,Aa,Ae,lk,AA,isLive,Ac,BK,BJ,Af,BI,BL,BO,BM,BN,hb]))⟩
 ·try simp at hc0
  refine Ad ?_
  refine sg ?_
  refine qv A8 ?_
  refine qv A9 ?_
  refine AP ?_
  obtain rfl:k=n.r * n.c:=by omega
  exact x1 (hr:=(CW))
theorem f114 (m:Mw) (w:Int):AR Tryz.prog 114 [xG m,i64 w] (.many [.dv (i64 (Vv m w 0 fun n v=>((v ||| Vp n v:Nat):Int))),.dv (i64 (LM m w))]):=by
 refine Bu Tryz.func114 rfl rfl (by rw [Tryz.ntmps114];simp) fun cx hP hn hg=>?_
 rw [Tryz.ntmps114] at hn
 rw [Bq,Bp]
 simp only [List.nil_append,List.append_nil,List.cons_append,BF,Nat.reduceAdd]
 refine sg ?_
 refine qp BX ?_
 iterate 2 refine qv A9 ?_
 refine sg ?_
 refine qv (AQ H7 JI) ?_
 refine qv A8 ?_
 refine Bo (f157 m w) ?_
 refine qv A9 ?_
 refine AJ ?_
 refine sg ?_
 refine qv A8 ?_
 refine qv BP ?_
 refine cd (fun hc0=>?_) (fun hc0=>?_)
 ·skip
  have hne:¬ LM m w=0:=by simpa using hc0
  refine sg ?_
  refine qv A8 ?_
  iterate 2 refine qv A9 ?_
  refine AP ?_
  exact x2 (hr:=(CW (by rw [Yu hne]))) (hr':=(CW))
 ·skip
  have he:LM m w=0:=by simpa using hc0
  obtain ⟨n,v,ok,rfl,rfl,hv⟩:=dh he
  have yu:=bR ok hv
  have hwe:=Rz ok hv
  refine AY ?_
  refine sg ?_
  refine qv (AQ H7 JI) ?_
  refine qv A8 ?_
  refine Bo (f158 n ok v yu) ?_
  iterate 2 refine qv A9 ?_
  refine AP ?_
  exact x2 (hr:=(CW (by rw [OW ok hv,xq ok]))) (hr':=(CW (by rw [hwe])))
end Go.Ab.Tryz
namespace Go.Ab.Heap
def sm (f:Nat -> Int):Nat -> Int
 | 0=>0
 | n+1=>sm f n+f n
theorem Ct {f g:Nat -> Int}:∀ {n:Nat},(∀ i,i < n -> f i=g i) -> sm f n=sm g n
 | 0,_=>rfl
 | n+1,h=>by simp only [sm];rw [Ct fun i hi=>h i (by omega),h n (by omega)]
theorem La {f g:Nat -> Int}:∀ {n:Nat},(∀ i,i < n -> f i <= g i) -> sm f n <= sm g n
 | 0,_=>Int.le_refl _
 | n+1,h=>by
  have h1:=La (n:=n) fun i hi=>h i (by omega)
  have h2:=h n (by omega)
  simp only [sm];omega
theorem SK {f g:Nat -> Int} {d:Int} {k:Nat}:∀ {n:Nat},(∀ i,i < n -> f i <= g i) -> k < n -> f k+d <= g k -> sm f n+d <= sm g n
 | 0,_,hk,_=>by omega
 | n+1,h,hk,hd=>by
  simp only [sm]
  by_cases e:k=n
  ·subst e
   have h1:=La (n:=k) fun i hi=>h i (by omega)
   omega
  ·have h1:=SK (n:=n) (fun i hi=>h i (by omega)) (by omega) hd
   have h2:=h n (by omega)
   omega
theorem JN:∀ {n:Nat},sm (fun _=>0) n=0
 | 0=>rfl
 | n+1=>by simp only [sm];rw [JN];rfl
theorem Dk {f:Nat -> Int} {n:Nat} (h:∀ i,i < n -> 0 <= f i):0 <= sm f n:=by
 have:=La h;rwa [JN] at this
theorem Jt {f:Nat -> Int} {n k:Nat} (h:∀ i,i < n -> 0 <= f i) (hk:k < n):f k <= sm f n:=by
 have:=SK (f:=fun _=>0) (g:=f) (d:=f k) h hk (by omega)
 rw [JN] at this;omega
theorem NG {f g:Nat -> Int}:∀ {n:Nat},sm (fun i=>f i+g i) n=sm f n+sm g n
 | 0=>rfl
 | n+1=>by simp only [sm];rw [NG];omega
theorem aW {f g:Nat -> Int}:∀ {n:Nat},sm (fun i=>f i - g i) n=sm f n - sm g n
 | 0=>rfl
 | n+1=>by simp only [sm];rw [aW];omega
theorem aX {f:Nat -> Int}:∀ {n:Nat},sm (fun i=>- f i) n=- sm f n
 | 0=>rfl
 | n+1=>by simp only [sm];rw [aX];omega
theorem Wu {f:Nat -> Int} {k:Int}:∀ {n:Nat},sm (fun i=>k * f i) n=k * sm f n
 | 0=>by simp [sm]
 | n+1=>by simp only [sm];rw [Wu,Int.mul_add]
theorem Iz {k:Int}:∀ {n:Nat},sm (fun _=>k) n=n * k
 | 0=>by simp [sm]
 | n+1=>by simp only [sm];rw [Iz,Int.natCast_succ,Int.add_mul,Int.one_mul]
theorem Wt {f:Nat -> Nat -> Int} {m:Nat}:∀ {n:Nat},sm (fun i=>sm (f i) m) n=sm (fun j=>sm (fun i=>f i j) n) m
 | 0=>by simp only [sm];rw [JN]
 | n+1=>by simp only [sm];rw [Wt,<- NG]
structure SP where
 n:Nat
 l:Nat -> Nat -> Int
 g:Nat -> Int
inductive SP.Reach (s:SP):Nat -> Prop
 | ground {i:Nat}:i < s.n -> 0 < s.g i -> s.Reach i
 | link {i k:Nat}:i < s.n -> k < s.n -> s.Reach k -> 0 < s.l i k -> s.Reach i
structure SP.Ok (s:SP):Prop where
 l0:∀ i k,i < s.n -> k < s.n -> 0 <= s.l i k
 sym:∀ i k,i < s.n -> k < s.n -> s.l i k=s.l k i
 diag:∀ i,i < s.n -> s.l i i=0
 g0:∀ i,i < s.n -> 0 <= s.g i
 all:∀ i,i < s.n -> s.Reach i
def SP.lim (s:SP) (i:Nat):Int:=s.g i+sm (s.l i) s.n
def SP.Q8 (s:SP) (u:Nat -> Int) (i:Nat):Int:=s.g i * u i+sm (fun j=>s.l i j * (u i - u j)) s.n
variable {s:SP}
theorem ng (u:Nat -> Int) (i:Nat):s.Q8 u i=s.lim i * u i - sm (fun j=>s.l i j * u j) s.n:=by
 have:sm (fun j=>s.l i j * (u i - u j)) s.n=sm (s.l i) s.n * u i - sm (fun j=>s.l i j * u j) s.n:=by
  rw [Int.mul_comm (sm (s.l i) s.n),<- Wu,<- aW]
  exact Ct fun j _=>by rw [Int.mul_sub,Int.mul_comm (s.l i j) (u i)]
 unfold SP.Q8 SP.lim
 rw [this,Int.add_mul];omega
theorem gF (u v:Nat -> Int) (i:Nat):s.Q8 (fun j=>u j+v j) i=s.Q8 u i+s.Q8 v i:=by
 have:sm (fun j=>s.l i j * (u i+v i - (u j+v j))) s.n=sm (fun j=>s.l i j * (u i - u j)) s.n+sm (fun j=>s.l i j * (v i - v j)) s.n:=by
  rw [<- NG];exact Ct fun j _=>by rw [<- Int.mul_add];congr 1;omega
 unfold SP.Q8
 rw [this,Int.mul_add];omega
theorem gD (k:Int) (u:Nat -> Int) (i:Nat):s.Q8 (fun j=>k * u j) i=k * s.Q8 u i:=by
 have:sm (fun j=>s.l i j * (k * u i - k * u j)) s.n=k * sm (fun j=>s.l i j * (u i - u j)) s.n:=by
  rw [<- Wu];exact Ct fun j _=>by rw [<- Int.mul_sub,<- Int.mul_assoc,<- Int.mul_assoc,Int.mul_comm k]
 unfold SP.Q8
 rw [this,Int.mul_add,<- Int.mul_assoc,<- Int.mul_assoc,Int.mul_comm k,Int.mul_comm (s.g i)]
theorem tT (u:Nat -> Int) (i:Nat):s.Q8 (fun j=>- u j) i=- s.Q8 u i:=by
 have:=gD (s:=s) (-1) u i
 simp only [Int.neg_mul,Int.one_mul] at this
 exact this
theorem tN (u v:Nat -> Int) (i:Nat):s.Q8 (fun j=>u j - v j) i=s.Q8 u i - s.Q8 v i:=by
 have:=gF (s:=s) u (fun j=>- v j) i
 rw [tT] at this
 simpa [Int.sub_eq_add_neg] using this
theorem nZ (i:Nat):s.Q8 (fun _=>0) i=0:=by
 have:=gD (s:=s) 0 (fun _=>0) i
 simpa using this
theorem Vy {u v:Nat -> Int} (h:∀ j,j < s.n -> u j=v j) {i:Nat} (hi:i < s.n):s.Q8 u i=s.Q8 v i:=by
 unfold SP.Q8
 rw [h i hi,Ct fun j hj=>by rw [h j hj]]
def cnt (p:Nat -> Bool):Nat -> Nat
 | 0=>0
 | n+1=>cnt p n+if p n then 1 else 0
theorem dN (p:Nat -> Bool):∀ n,cnt p n <= n
 | 0=>Nat.le_refl _
 | n+1=>by simp only [cnt];have:=dN p n;split<;>omega
theorem cnt_mono {p q:Nat -> Bool}:∀ {n:Nat},(∀ i,i < n -> p i=true -> q i=true) -> cnt p n <= cnt q n
 | 0,_=>Nat.le_refl _
 | n+1,h=>by
  have h1:=cnt_mono (n:=n) fun i hi=>h i (by omega)
  have h2:=h n (by omega)
  simp only [cnt]
  cases hp:p n<;>cases hq:q n<;>simp_all<;>omega
theorem cnt_lt {p q:Nat -> Bool} {k:Nat}:∀ {n:Nat},(∀ i,i < n -> p i=true -> q i=true) -> k < n -> p k=false -> q k=true -> cnt p n < cnt q n
 | 0,_,hk,_,_=>by omega
 | n+1,h,hk,h1,h2=>by
  simp only [cnt]
  by_cases e:k=n
  ·subst e
   have:=cnt_mono (n:=k) fun i hi=>h i (by omega)
   simp [h1,h2];omega
  ·have:=cnt_lt (n:=n) (fun i hi=>h i (by omega)) (by omega) h1 h2
   have h3:=h n (by omega)
   cases hp:p n<;>cases hq:q n<;>simp_all<;>omega
theorem rJ (ok:s.Ok) {S:Nat -> Prop} {i:Nat} (hi:i < s.n) (h:S i):(∃ k,k < s.n /\ S k /\ 0 < s.g k) \/ ∃ k j,k < s.n /\ j < s.n /\ S k /\ ¬ S j /\ 0 < s.l k j:=by
 by_cases hg:∃ k,k < s.n /\ S k /\ 0 < s.g k
 ·exact .inl hg
 ·by_cases hl:∃ k j,k < s.n /\ j < s.n /\ S k /\ ¬ S j /\ 0 < s.l k j
  ·exact .inr hl
  ·exfalso
   have:∀ k,s.Reach k -> ¬ S k:=fun k hk=>by
    induction hk with
    | @ground k h1 h2=>exact fun h3=>hg ⟨k,h1,h3,h2⟩
    | @link k j h1 h2 _ h4 ih=>exact fun h3=>hl ⟨k,j,h1,h2,h3,ih,h4⟩
   exact this i (ok.all i hi) h
def Jp (t:Nat -> Int) (m:Int) (j:Nat):Int:=if m <= t j then 1 else 0
theorem tV (ok:s.Ok) (t:Nat -> Int) (m:Int):2 * sm (fun j=>Jp t m j * s.Q8 t j) s.n=2 * sm (fun j=>Jp t m j * (s.g j * t j)) s.n+sm (fun j=>sm (fun k=>s.l j k * ((Jp t m j - Jp t m k) * (t j - t k))) s.n) s.n:=by
 have e1:sm (fun j=>Jp t m j * s.Q8 t j) s.n=sm (fun j=>Jp t m j * (s.g j * t j)) s.n+sm (fun j=>sm (fun k=>Jp t m j * (s.l j k * (t j - t k))) s.n) s.n:=by
  rw [<- NG]
  refine Ct fun j _=>?_
  rw [Wu,<- Int.mul_add];rfl
 have e2:sm (fun j=>sm (fun k=>Jp t m j * (s.l j k * (t j - t k))) s.n) s.n=sm (fun j=>sm (fun k=>Jp t m k * (s.l j k * (t k - t j))) s.n) s.n:=by
  rw [Wt]
  exact Ct fun j hj=>Ct fun k hk=>by rw [ok.sym j k hj hk]
 have e3:sm (fun j=>sm (fun k=>s.l j k * ((Jp t m j - Jp t m k) * (t j - t k))) s.n) s.n=sm (fun j=>sm (fun k=>Jp t m j * (s.l j k * (t j - t k))) s.n) s.n+sm (fun j=>sm (fun k=>Jp t m k * (s.l j k * (t k - t j))) s.n) s.n:=by
  rw [<- NG]
  refine Ct fun j _=>?_
  rw [<- NG]
  refine Ct fun k _=>?_
  grind
 rw [e3,<- e2,e1];omega
theorem Ox (ok:s.Ok) (t:Nat -> Int) (m:Int) {j k:Nat} (hj:j < s.n) (hk:k < s.n):0 <= s.l j k * ((Jp t m j - Jp t m k) * (t j - t k)):=by
 refine Int.mul_nonneg (ok.l0 j k hj hk) ?_
 unfold Jp
 split<;>split<;>simp<;>omega
theorem often (ok:s.Ok) {a t:Nat -> Int} {A:Int} (ht:∀ i,i < s.n -> 0 <= t i) (ha:∀ i,i < s.n -> 0 <= a i) (hA:sm a s.n <= A) (hc:∀ i,i < s.n -> 0 <= a i - s.Q8 t i):∀ i,i < s.n -> t i <= s.n * A:=by
 have Uo:0 <= A:=Int.le_trans (Dk ha) hA
 have tot:∀ m,sm (fun j=>Jp t m j * s.Q8 t j) s.n <= A:=fun m=>by
  refine Int.le_trans (La fun j hj=>?_) hA
  have:=hc j hj
  have:=ha j hj
  unfold Jp
  split<;>simp<;>omega
 have wO:∀ m j,j < s.n -> 0 <= Jp t m j * (s.g j * t j):=fun m j hj=>by
  have:=Int.mul_nonneg (ok.g0 j hj) (ht j hj)
  unfold Jp
  split<;>simp<;>omega
 have low:∀ (v:Nat) i,i < s.n -> (t i).toNat <= v -> t i <= A * (1+(cnt (fun j=>decide (t j < t i)) s.n:Nat)):=by
  intro v
  induction v with
  | zero =>
   intro i hi hv
   have:0 <= A * (1+(cnt (fun j=>decide (t j < t i)) s.n:Nat)):=Int.mul_nonneg Uo (by omega)
   omega
  | succ v ih =>
   intro i hi hv
   have h2:=tV ok t (t i)
   have h3:=tot (t i)
   have h0:0 <= A * (cnt (fun j=>decide (t j < t i)) s.n:Nat):=Int.mul_nonneg Uo (by omega)
   rcases rJ ok (S:=fun j=>t i <= t j) hi (Int.le_refl _) with ⟨k,k1,k2,k3⟩ | ⟨k,j,k1,j1,k2,k3,k4⟩
   ·have p1:=Jt (wO (t i)) k1
    have p2:=Dk (f:=fun j=>sm (fun k=>s.l j k * ((Jp t (t i) j - Jp t (t i) k) * (t j - t k))) s.n) fun j hj=>Dk fun k hk=>Ox ok t (t i) hj hk
    have p3:Jp t (t i) k=1:=by unfold Jp;rw [if_pos k2]
    rw [p3,Int.one_mul] at p1
    have p4:t k <= s.g k * t k:=by
     have:=Int.mul_nonneg (show 0 <= s.g k - 1 by omega) (ht k k1)
     rw [Int.sub_mul] at this;omega
    rw [Int.mul_add,Int.mul_one]
    omega
   ·have p1:=Dk (wO (t i))
    have pk:Jp t (t i) k=1:=by unfold Jp;rw [if_pos k2]
    have pj:Jp t (t i) j=0:=by unfold Jp;rw [if_neg k3]
    have q1:t k - t j <= s.l k j * ((Jp t (t i) k - Jp t (t i) j) * (t k - t j)):=by
     rw [pk,pj]
     have:=Int.mul_nonneg (show 0 <= s.l k j - 1 by omega) (show 0 <= t k - t j by omega)
     rw [Int.sub_mul] at this
     simp only [Int.sub_zero,Int.one_mul];omega
    have q2:t k - t j <= s.l j k * ((Jp t (t i) j - Jp t (t i) k) * (t j - t k)):=by
     rw [pk,pj,ok.sym j k j1 k1]
     have:=Int.mul_nonneg (show 0 <= s.l k j - 1 by omega) (show 0 <= t k - t j by omega)
     rw [Int.sub_mul] at this
     have e:(0 - 1:Int) * (t j - t k)=t k - t j:=by omega
     rw [e];omega
    have r1:=Jt (f:=fun q=>s.l k q * ((Jp t (t i) k - Jp t (t i) q) * (t k - t q))) (fun q hq=>Ox ok t (t i) k1 hq) j1
    have r2:=Jt (f:=fun q=>s.l j q * ((Jp t (t i) j - Jp t (t i) q) * (t j - t q))) (fun q hq=>Ox ok t (t i) j1 hq) k1
    have hkj:k ≠ j:=fun e=>k3 (e ▸ k2)
    have r3:(t k - t j)+(t k - t j) <= sm (fun j=>sm (fun k=>s.l j k * ((Jp t (t i) j - Jp t (t i) k) * (t j - t k))) s.n) s.n:=by
     have nn:∀ q,q < s.n -> 0 <= sm (fun k=>s.l q k * ((Jp t (t i) q - Jp t (t i) k) * (t q - t k))) s.n:=fun q hq=>Dk fun k hk=>Ox ok t (t i) hq hk
     have z:=SK (f:=fun q=>if q=k then t k - t j else 0) (g:=fun q=>sm (fun k=>s.l q k * ((Jp t (t i) q - Jp t (t i) k) * (t q - t k))) s.n) (d:=t k - t j) (k:=j) (n:=s.n) (fun q hq=>by
      split
      ·rename_i e;subst e;exact Int.le_trans q1 r1
      ·exact nn q hq) j1 (by rw [if_neg (Ne.symm hkj)];have:=Int.le_trans q2 r2;omega)
     have z2:=Jt (f:=fun q=>if q=k then t k - t j else 0) (n:=s.n) (k:=k) (fun q hq=>by split<;>omega) k1
     simp only [if_true] at z2
     omega
    have hjv:=ih j j1 (by have:=ht j j1;have:=ht i hi;omega)
    have hcn:cnt (fun q=>decide (t q < t j)) s.n < cnt (fun q=>decide (t q < t i)) s.n:=cnt_lt (k:=j) (fun q hq hd=>by simp only [decide_eq_true_eq] at hd ⊢;omega) j1 (by simp) (by simp only [decide_eq_true_eq];omega)
    have hmul:A * (1+(cnt (fun q=>decide (t q < t j)) s.n:Nat)) <= A * (cnt (fun q=>decide (t q < t i)) s.n:Nat):=Int.mul_le_mul_of_nonneg_left (by omega) Uo
    rw [Int.mul_add,Int.mul_one]
    omega
 intro i hi
 have h1:=low _ i hi (Nat.le_refl _)
 have h2:cnt (fun j=>decide (t j < t i)) s.n < cnt (fun _=>true) s.n:=cnt_lt (k:=i) (fun _ _ _=>rfl) hi (by simp) rfl
 have h3:=dN (fun _=>true) s.n
 have h4:A * (1+(cnt (fun j=>decide (t j < t i)) s.n:Nat)) <= A * (s.n:Int):=Int.mul_le_mul_of_nonneg_left (by omega) Uo
 rw [Int.mul_comm (s.n:Int)];omega
def SP.fu (s:SP) (a t:Nat -> Int) (i:Nat):Int:=a i - s.Q8 t i
def SP.xL (s:SP) (a u:Nat -> Int):Prop:=(∀ i,i < s.n -> 0 <= u i) /\ ∀ i,i < s.n -> s.fu a u i < s.lim i
def SP.Legal (s:SP) (a t:Nat -> Int):Prop:=(∀ i,i < s.n -> 0 <= t i) /\ ∀ u,s.xL a u -> ∀ i,i < s.n -> t i <= u i
def SP.Stl (s:SP) (a t:Nat -> Int):Prop:=s.xL a t /\ s.Legal a t
theorem aR {a t t':Nat -> Int} (h:s.Stl a t) (h':s.Stl a t'):∀ i,i < s.n -> t i=t' i:=fun i hi=>by
 have h1:=h.2.2 t' h'.1 i hi
 have h2:=h'.2.2 t h.1 i hi
 (try dsimp only);omega
theorem bP {a:Nat -> Int}:s.Legal a fun _=>0:=⟨fun _ _=>Int.le_refl _,fun _ hu i hi=>hu.1 i hi⟩
theorem Lm {a a' t t':Nat -> Int} (ha:∀ i,i < s.n -> a i=a' i) (ht:∀ i,i < s.n -> t i=t' i) (h:s.Legal a t):s.Legal a' t' :=
 ⟨fun i hi=>by rw [<- ht i hi];exact h.1 i hi,fun u hu i hi=>by
  rw [<- ht i hi]
  refine h.2 u ⟨hu.1,fun j hj=>?_⟩ i hi
  have:=hu.2 j hj
  unfold SP.fu at *
  rw [ha j hj];exact this⟩
theorem bQ {a t t':Nat -> Int} (h:s.Legal a t) (h':s.Legal (s.fu a t) t'):s.Legal a fun i=>t i+t' i :=
 ⟨fun i hi=>by have:=h.1 i hi;have:=h'.1 i hi;(try dsimp only);omega,fun u hu i hi=>by
  have h1:=h.2 u hu
  have:=h'.2 (fun j=>u j - t j) ⟨fun j hj=>by have:=h1 j hj;(try dsimp only);omega,fun j hj=>by
   have:=hu.2 j hj
   unfold SP.fu at *
   rw [tN];(try dsimp only);omega⟩ i hi
  (try dsimp only);omega⟩
theorem jS (ok:s.Ok) {a:Nat -> Int} {i:Nat} {k:Int} (hi:i < s.n) (h0:0 <= k) (hk:k * s.lim i <= a i) (hl:0 < s.lim i):s.Legal a fun j=>if j=i then k else 0:=by
 refine ⟨fun j _=>by dsimp only;split<;>omega,fun u hu j hj=>?_⟩
 dsimp only
 split
 ·rename_i e;subst e
  have h1:=hu.2 j hj
  unfold SP.fu at h1
  rw [ng] at h1
  have h2:=Dk (f:=fun q=>s.l j q * u q) (n:=s.n) fun q hq=>Int.mul_nonneg (ok.l0 j q hj hq) (hu.1 q hq)
  have h3:k * s.lim j < (u j+1) * s.lim j:=by rw [Int.add_mul,Int.one_mul,Int.mul_comm (u j)];omega
  have:=Int.lt_of_mul_lt_mul_right h3 (Int.le_of_lt hl)
  omega
 ·exact hu.1 j hj
theorem fq (ok:s.Ok) {i:Nat} (hi:i < s.n):0 < s.lim i:=by
 have h1:=ok.g0 i hi
 have h2:=Dk (f:=s.l i) (n:=s.n) fun j hj=>ok.l0 i j hi hj
 unfold SP.lim
 cases ok.all i hi with
 | ground _ h=>omega
 | link _ hk _ h=>have:=Jt (f:=s.l i) (n:=s.n) (fun j hj=>ok.l0 i j hi hj) hk;omega
theorem tL (ok:s.Ok) (t:Nat -> Int):sm (s.Q8 t) s.n=sm (fun i=>s.g i * t i) s.n:=by
 have e1:sm (s.Q8 t) s.n=sm (fun i=>s.g i * t i) s.n+sm (fun i=>sm (fun j=>s.l i j * (t i - t j)) s.n) s.n:=by rw [<- NG];rfl
 have e2:sm (fun i=>sm (fun j=>s.l i j * (t i - t j)) s.n) s.n=sm (fun i=>sm (fun j=>s.l i j * (t j - t i)) s.n) s.n:=by
  rw [Wt]
  exact Ct fun j hj=>Ct fun k hk=>by rw [ok.sym j k hj hk]
 have e3:sm (fun i=>sm (fun j=>s.l i j * (t j - t i)) s.n) s.n=- sm (fun i=>sm (fun j=>s.l i j * (t i - t j)) s.n) s.n:=by
  rw [<- aX]
  refine Ct fun i _=>?_
  rw [<- aX]
  exact Ct fun j _=>by rw [<- Int.mul_neg];congr 1;omega
 rw [e3] at e2
 rw [e1];omega
theorem nV (ok:s.Ok) {a t:Nat -> Int} (ht:∀ i,i < s.n -> 0 <= t i):sm (s.fu a t) s.n <= sm a s.n:=by
 have e:sm (s.fu a t) s.n=sm a s.n - sm (s.Q8 t) s.n:=by rw [<- aW];rfl
 rw [e,tL ok]
 have:=Dk (f:=fun i=>s.g i * t i) (n:=s.n) fun i hi=>Int.mul_nonneg (ok.g0 i hi) (ht i hi)
 omega
end Go.Ab.Heap
