/- BogM5, BogM6, BogM7, MossL2, BogM8, HeapL1. -/
import Derived.Test.YtjcecljhjailiaaGreatDoorBogG14
import Derived.Test.YtjcecljhjailiaaGreatDoorBogG07
import Derived.Test.YtjcecljhjailiaaGreatDoorBogG14
import Derived.Test.YtjcecljhjailiaaGreatDoorBogG10
set_option linter.all false
namespace Go.Ab.Tryz
open Go Go.Ab Go.Proofs Go.Ab.Ck
theorem uY {n:Mn} (ok:n.Ok):sS Tryz.prog 231 [.Cy [i64 (n.r:Int),i64 (n.c:Int),i64 (n.nd:Int)]] ((List.range (n.r * n.c)).map (T9 n.c)):=Go.Proofs.Tryz.squares_seq n.r n.c n.nd ⟨ok.r1,ok.r2⟩ ⟨ok.c1,ok.c2⟩
theorem f182 (n:Mn) (ok:n.Ok) (w:Nat) (hw:w < 68719476736):AR Tryz.prog 182 [yQ n,i64 (w:Int)] (.one (.dv (i64 (nC n w:Int)))):=by
 have hN:=ok.N2
 refine gL (ds:=[i64 (nC n w:Int)]) Tryz.func182 rfl rfl (by rw [Tryz.ntmps182];simp) fun cx hP hn hg hrn fF hfin=>?_
 rw [Tryz.ntmps182] at hn
 rw [Br,Bq]
 simp only [List.nil_append,List.append_nil,List.cons_append,BH,Nat.reduceAdd]
 refine sg ?_
 iterate 2 refine qp Bu ?_
 refine qv A9 ?_
 refine sg ?_
 refine qp (IJ Nu) ?_
 refine qs (Cu Aw) ?_
 refine Rl ?_
 refine rg ?_
 refine qv (AY Jw Np) ?_
 refine qqA (f207 n) ?_
 show sM cx _ _ _ _
 refine rgf hg hrn fF hfin hP hn (uY ok) (l:=[(2,.pt 2 0 0),(3,.pt 3 0 0),(5,.pt 5 0 0),(8,.dv (.fn 231 [] [.Cy [i64 (n.r:Int),i64 (n.c:Int),i64 (n.nd:Int)]]))]) (fun k=>[(2,0,some ⟨[.dv (i64 (n.r)),.dv (i64 (n.c)),.dv (i64 (n.nd))],0,65,0,false⟩),(3,0,some ⟨[.dv (i64 ((w:Int)))],0,3,0,false⟩),(5,0,some ⟨[.dv (i64 ((Gd (YM n w) k:Nat):Int))],0,3,0,false⟩)]) (tl [(2,2),(3,3),(5,5)] (hF:=by simp [DK,AX,lk,AA,isLive,AZ,Gd]) (hM:=by simp [Cm,Ar,AX,Aa,lk,AA,isLive,AZ,BO,BN,Al,BL,BP,BS,BQ,BR,Gd])) (fun k x hx=>?_) fun uG hP2 hn2 hg2=>?_
 ·obtain ⟨hk,rfl⟩:=uZ hx
  refine uq (P:=Tryz.prog) (N:=31) [(2,2),(3,3),(5,5)] [(2,⟨[.dv (i64 (n.r)),.dv (i64 (n.c)),.dv (i64 (n.nd))],0,65,5,false⟩),(3,⟨[.dv (i64 ((w:Int)))],0,3,6,false⟩),(5,⟨[.dv (i64 ((Gd (YM n w) k:Nat):Int))],0,3,8,false⟩)] [(2,⟨[.dv (i64 (n.r)),.dv (i64 (n.c)),.dv (i64 (n.nd))],0,65,5,false⟩),(3,⟨[.dv (i64 ((w:Int)))],0,3,6,false⟩),(5,⟨[.dv (i64 ((Gd (YM n w) (k+1):Nat):Int))],0,3,8,false⟩)] [2,3,5] [(2,.pt 2 0 0),(3,.pt 3 0 0),(5,.pt 5 0 0),(8,.dv (.fn 231 [] [.Cy [i64 (n.r:Int),i64 (n.c:Int),i64 (n.nd:Int)]]))] (hle:=(tl [(2,2),(3,3),(5,5)] (hF:=by simp [DK,AX,lk,AA,isLive,AZ,Gd]) (hM:=by simp [Cm,Ar,AX,Aa,lk,AA,isLive,AZ,BO,BN,Al,BL,BP,BS,BQ,BR,Gd]))) (k:=fun nK hP1 hn1 hg1=>?_)
  show EF nK _ _ ⟨lk [(10,.dv (.agg [i64 ((k / n.c:Nat):Int),i64 ((k % n.c:Nat):Int)])),(9,.dv (i64 ((k:Nat)))),(2,.pt 2 0 0),(3,.pt 3 0 0),(5,.pt 5 0 0),(8,.dv (.fn 231 [] [.Cy [i64 (n.r:Int),i64 (n.c:Int),i64 (n.nd:Int)]]))],AA [(2,0,some ⟨[.dv (i64 (n.r)),.dv (i64 (n.c)),.dv (i64 (n.nd))],0,65,5,false⟩),(3,0,some ⟨[.dv (i64 ((w:Int)))],0,3,6,false⟩),(5,0,some ⟨[.dv (i64 ((Gd (YM n w) k:Nat):Int))],0,3,8,false⟩)]⟩
  have hb36:=U3 (p:=YM n w) (k:=k) (by omega)
  have har:=y8 ok hk
  refine rg ?_
  refine qv A9 ?_
  refine asg fun nK hP1 hn1 hg1=>?_
  refine BI ?_
  refine AL ?_
  refine rd mixed ?_
  refine zv (AQ Aw Bw) ?_
  refine zv A8 ?_
  refine Kz (R:=[]) (f208 w k hw (by omega)) ?_
  refine zv CP ?_
  refine zx A8 (fun Sc=>?_) (fun Sc=>?_)
  ·try simp at Sc
   refine zv (AY Jw Np) ?_
   refine zv A8 ?_
   refine Kz (R:=[]) (f210 n ok k hk) ?_
   refine zv (AQ Aw Bw) ?_
   refine zv Qt ?_
   refine Kz (R:=[]) (f209 (Sk n k &&& w) (by exact Rq har)) ?_
   refine zv (AB VE) ?_
   refine zv (AQ Aw Bw) ?_
   refine zv FT ?_
   refine zv Ae ?_
   refine ⟨by rfl,?_⟩
   show EF nK _ _ _
   refine cd (fun hc0=>?_) (fun hc0=>?_)
   ·try simp at hc0
    refine rd mixed ?_
    first | refine zv (Ig Aw Bw) ?_ | refine zv (AQ Aw Bw) ?_
    refine zv A8 ?_
    refine zv (EZ k) ?_
    refine zv D9 ?_
    first | refine zs (KI Aw) ?_ | refine zs (Cu Aw) ?_
    refine ⟨by rfl,?_⟩
    have hb:Gd (YM n w) (k+1)=Gd (YM n w) k ||| 2 ^ k:=by simp [Gd,YM,Sc,hc0]
    exact rend (tl [(2,2),(3,3),(5,5)] (hF:=by simp [DK,AX,lk,AA,isLive,AZ,hb]) (hM:=by simp [Cm,Ar,AX,Aa,lk,AA,isLive,AZ,BO,BN,Al,BL,BP,BS,BQ,BR,hb]))
   ·try simp at hc0
    refine Af ?_
    have hr:YM n w k=false:=by simp [YM,Sc];omega
    have hb:Gd (YM n w) (k+1)=Gd (YM n w) k:=by simp [Gd,hr]
    exact rend (tl [(2,2),(3,3),(5,5)] (hF:=by simp [DK,AX,lk,AA,isLive,AZ,hb]) (hM:=by simp [Cm,Ar,AX,Aa,lk,AA,isLive,AZ,BO,BN,Al,BL,BP,BS,BQ,BR,hb]))
  ·try simp at Sc
   iterate 9 refine zk ?_
   refine zv Ae ?_
   refine ⟨by rfl,?_⟩
   show EF nK _ _ _
   refine Dy (hb:=by first | rfl | simp | simp_all) (ht:=?_)
   refine Af ?_
   have hb:Gd (YM n w) (k+1)=Gd (YM n w) k:=by simp [Gd,YM,Sc]
   exact rend (tl [(2,2),(3,3),(5,5)] (hF:=by simp [DK,AX,lk,AA,isLive,AZ,hb]) (hM:=by simp [Cm,Ar,AX,Aa,lk,AA,isLive,AZ,BO,BN,Al,BL,BP,BS,BQ,BR,hb]))
 ·try rw [List.length_map,List.length_range]
  refine sg ?_
  refine qv (AQ Aw Bw) ?_
  refine qv A9 ?_
  show EF uG _ _ _
  refine AV ?_
  exact xs1
end Go.Ab.Tryz
namespace Go.Ab.Tryz
open Go Go.Ab Go.Proofs Go.Ab.Ck
def Lr {α:Type} (p:α -> Bool) (l:List α):Int:=if l.any p then (l.findIdx p:Int) else -1
theorem pY {α:Type} {p:α -> Bool} {l:List α} {i:Nat} (h:i < l.length) (hp:p l[i]=true) (hb:∀ j (hj:j < i),p (l[j]'(by omega))=false):Lr p l=i:=by
 unfold Lr
 rw [if_pos (List.any_eq_true.2 ⟨l[i],List.getElem_mem h,hp⟩),(List.findIdx_eq h).2 ⟨hp,hb⟩]
theorem pX {α:Type} {p:α -> Bool} {l:List α} (h:∀ j (hj:j < l.length),p l[j]=false):Lr p l=-1:=by
 unfold Lr
 rw [if_neg]
 intro ha
 obtain ⟨x,hx,hpx⟩:=List.any_eq_true.1 ha
 obtain ⟨j,hj,rfl⟩:=List.getElem_of_mem hx
 rw [h j hj] at hpx
 cases hpx
theorem X6 {α:Type} (p:α -> Bool) (l:List α):decide (0 <= Lr p l)=l.any p:=by
 unfold Lr
 cases h:l.any p<;>simp
abbrev mq (f:FuncId) (pre caps:List DV) (p:Int -> Bool) (l:List Int):Prop:=∀ x ∈ l,AR Tryz.prog f (pre ++ [i64 x] ++ caps) (.one (.dv (.bool (p x))))
theorem f155 (l:List Int) (f:FuncId) (pre caps:List DV) (p:Int -> Bool) (hp:mq f pre caps p l) (hl:l.length < 2000000) :
  AR Tryz.prog 155 [ints l,.fn f pre caps] (.one (.dv (i64 (Lr p l)))):=by
 refine Bv Tryz.func155 rfl rfl (by rw [Tryz.ntmps155];simp) fun cx hP hn hg=>?_
 rw [Tryz.ntmps155] at hn
 rw [Br,Bq]
 simp only [List.nil_append,List.append_nil,List.cons_append,BH,Nat.reduceAdd]
 refine sg ?_
 refine qv A9 ?_
 refine AL ?_
 refine sg ?_
 refine qv A8 ?_
 refine qv (BD Cj) ?_
 refine qv A8 ?_
 refine BI ?_
 refine Ao (ι:=Nat) (fun i=>⟨lk [(0,.dv (ints (l))),(1,.dv (.fn f pre caps)),(7,.dv (i64 ((l.length:Int)))),(8,.dv (i64 (i:Nat)))],AA []⟩) (fun i=>i <= l.length /\ ∀ j (hj:j < i) (h:j < l.length),p l[j]=false) (fun i=>l.length - i) 0 ⟨Nat.zero_le _,fun j hj=>absurd hj (Nat.not_lt_zero j)⟩ (tl []) ?_
 intro i BM
 refine sg ?_
 refine qv BK ?_
 refine AL ?_
 refine cd (fun hc0=>?_) (fun hc0=>?_)
 ·try simp at hc0
  refine Af ?_
  refine AL ?_
  refine BI ?_
  refine sg ?_
  refine qv A8 ?_
  refine qv A9 ?_
  refine sg ?_
  have hi:i < l.length:=by omega
  have hx:l[i]?=some l[i]:=List.getElem?_eq_getElem hi
  iterate 3 refine qv A8 ?_
  first | refine qv (BF BG Aw) ?_ | refine qv (Bf BG Aw) ?_
  refine qv (Bb Aw Bw) ?_
  refine zF (hp l[i] (List.getElem_mem hi)) ?_
  refine cd (fun hc1=>?_) (fun hc1=>?_)
  ·try simp at hc1
   refine sg ?_
   refine qv A8 ?_
   refine qv A9 ?_
   refine AV ?_
   rw [pY hi (by simpa using hc1) (fun j hj=>BM.2 j hj _)]
   exact x1 (hr:=(Cc))
  ·try simp at hc1
   refine Af ?_
   refine rg ?_
   refine qv Aq ?_
   refine qv A8 ?_
   exact ⟨i+1,⟨hi,fun j hj h=>by
     rcases Nat.lt_or_ge j i with h1 | h1
     ·exact BM.2 j h1 h
     ·obtain rfl:j=i:=by omega
      simpa using hc1⟩,(by simp only;omega),(tl [])⟩
 ·try simp at hc0
  refine Ai ?_
  refine sg ?_
  refine qv A9 ?_
  refine AV ?_
  rw [pX (fun j hj=>BM.2 j (by omega) hj)]
  exact x1 (hr:=(Cc))
theorem f106 (l:List Int) (f:FuncId) (pre caps:List DV) (p:Int -> Bool) (hp:mq f pre caps p l) (hl:l.length < 2000000) :
  AR Tryz.prog 106 [ints l,.fn f pre caps] (.one (.dv (.bool (l.any p)))):=by
 refine Bv Tryz.func106 rfl rfl (by rw [Tryz.ntmps106];simp) fun cx hP hn hg=>?_
 rw [Tryz.ntmps106] at hn
 rw [Br,Bq]
 simp only [List.nil_append,List.append_nil,List.cons_append,BH,Nat.reduceAdd]
 refine sg ?_
 refine qv A9 ?_
 refine sg ?_
 iterate 2 refine qv A8 ?_
 refine CF (f155 l f pre caps p hp hl) ?_
 refine qv FT ?_
 refine qv A9 ?_
 refine AV ?_
 exact x1 (hr:=(Ej (by simp [X6])))
end Go.Ab.Tryz
namespace Go.Ab.Tryz
open Go Go.Ab Go.Proofs Go.Ab.Ck
def uW (m:Mw):Mn:=⟨m.rows.toNat,m.Xn.toNat,m.need.toNat⟩
def Wj {α:Type} (m:Mw) (w:Int) (d:α) (g:Mn -> Nat -> α):α:=if P7 m w=0 then g (uW m) w.toNat else d
theorem YR {n:Mn} (ok:n.Ok) {v:Nat} (hv:v <= full n):P7 n.w (v:Int)=0:=by
 rw [YS ok,if_pos]
 simp only [CO,Bool.and_eq_true,decide_eq_true_eq];omega
theorem uV (n:Mn):uW n.w=n:=by simp [uW]
theorem Wi {α:Type} {n:Mn} (ok:n.Ok) {v:Nat} (hv:v <= full n) {d:α} {g:Mn -> Nat -> α}:Wj n.w (v:Int) d g=g n v:=by
 simp only [Wj,YR ok hv,if_true,uV,Int.toNat_natCast]
theorem jO {α:Type} {m:Mw} {w:Int} (h:¬ P7 m w=0) {d:α} {g:Mn -> Nat -> α}:Wj m w d g=d:=by simp [Wj,h]
theorem oo {n:Mn} (ok:n.Ok) {v:Nat} (hv:v <= full n):v < 68719476736:=Nat.lt_of_le_of_lt hv (NQ ok)
theorem f150 (m:Mw) (w:Int):AR Tryz.prog 150 [dMw m,i64 w] (.many [.dv (i64 (Wj m w 0 fun n v=>((v ||| nC n v:Nat):Int))),.dv (i64 (P7 m w))]):=by
 refine Bv Tryz.func150 rfl rfl (by rw [Tryz.ntmps150];simp) fun cx hP hn hg=>?_
 rw [Tryz.ntmps150] at hn
 rw [Br,Bq]
 simp only [List.nil_append,List.append_nil,List.cons_append,BH,Nat.reduceAdd]
 refine sg ?_
 refine qp Bu ?_
 iterate 2 refine qv A9 ?_
 refine AL ?_
 refine sg ?_
 refine qv (AY Jw Np) ?_
 refine qv A8 ?_
 refine CF (f181 m w) ?_
 refine qv A9 ?_
 refine sg ?_
 refine qv A8 ?_
 refine qv Ay ?_
 refine cd (fun hc0=>?_) (fun hc0=>?_)
 ·skip
  have hne:¬ P7 m w=0:=by simpa using hc0
  refine sg ?_
  refine qv A8 ?_
  iterate 2 refine qv A9 ?_
  refine AV ?_
  exact x2 (hr:=(Cc (by rw [jO hne]))) (hr':=(Cc))
 ·skip
  have he:P7 m w=0:=by simpa using hc0
  obtain ⟨n,v,ok,rfl,rfl,hv⟩:=nS he
  have hv36:=oo ok hv
  have hwe:=YR ok hv
  refine Af ?_
  refine sg ?_
  refine qv A8 ?_
  refine qv (AY Jw Np) ?_
  refine qv A8 ?_
  refine CF (f182 n ok v hv36) ?_
  refine qv (D9 (hb:=jA ok)) ?_
  iterate 2 refine qv A9 ?_
  refine AV ?_
  exact x2 (hr:=(Cc (by rw [Wi ok hv]))) (hr':=(Cc (by rw [hwe])))
end Go.Ab.Tryz
namespace Go.Ab.Ck
open Go Go.Ab
theorem sZ {a:Int} (h:-36 <= a /\ a <= 36):0 <= a * a /\ a * a <= 1296:=by
 have e:a * a=((a.natAbs * a.natAbs:Nat):Int):=(Int.natAbs_mul_self (a:=a)).symm
 have h1:a.natAbs <= 36:=by omega
 have h2:a.natAbs * a.natAbs <= 36 * 36:=Nat.mul_le_mul h1 h1
 rw [e];omega
def dr (n:Mn) (j k:Nat):Int:=((j / n.c:Nat):Int) - ((k / n.c:Nat):Int)
def dc (n:Mn) (j k:Nat):Int:=((j % n.c:Nat):Int) - ((k % n.c:Nat):Int)
def Vf (n:Mn) (k j:Nat):Bool:=decide (dr n j k * dr n j k+dc n j k * dc n j k=1)
def nbL (n:Mn) (k:Nat):List Nat:=(List.range (n.r * n.c)).filter (Vf n k)
end Go.Ab.Ck
namespace Go.Ab.Tryz
open Go Go.Ab Go.Proofs Go.Ab.Ck
theorem YI {n:Mn} {k j:Nat}:Vf n k j=true ↔ dr n j k * dr n j k+dc n j k * dc n j k=1:=by unfold Vf;exact decide_eq_true_iff
theorem Ox {p:Nat -> Bool} {k:Nat}:(List.range (k+1)).filter p=(List.range k).filter p ++ if p k then [k] else []:=by
 rw [List.range_succ,List.filter_append]
 by_cases h:p k=true<;>simp [h]
theorem TU {p:Nat -> Bool} {k:Nat} (h:p k=true):ns ((List.range (k+1)).filter p)=ns ((List.range k).filter p) ++ [(k:Int)]:=by
 rw [Ox,if_pos h,oL]
theorem Qk {p:Nat -> Bool} {k:Nat} (h:¬ p k=true):(List.range (k+1)).filter p=(List.range k).filter p:=by
 rw [Ox,if_neg h,List.append_nil]
theorem RG {p:Nat -> Bool} {k:Nat}:((List.range k).filter p).length <= k:=by
 have:=List.length_filter_le p (List.range k)
 simpa using this
theorem f217 (n:Mn) (ok:n.Ok) (k:Nat) (hk:k < n.r * n.c):AR Tryz.prog 217 [yQ n,i64 (k:Int)] (.one (rI (ns (nbL n k)))):=by
 have hN:=ok.N2
 have hcp:=ok.c1
 have hcq:=ok.c2
 refine Bv Tryz.func217 rfl rfl (by rw [Tryz.ntmps217];simp) fun cx hP hn hg=>?_
 rw [Tryz.ntmps217] at hn
 rw [Br,Bq]
 simp only [List.nil_append,List.append_nil,List.cons_append,BH,Nat.reduceAdd]
 refine sg ?_
 refine qp Bu ?_
 refine qv A9 ?_
 refine sg ?_
 refine qv A9 ?_
 refine AL ?_
 refine sg ?_
 refine qv A9 ?_
 refine BI ?_
 refine Ao (ι:=Nat) (fun j=>⟨lk [(1,.dv (i64 ((k:Int)))),(2,.pt 2 0 0),(5,.sl 5 0 0 ((ns ((List.range j).filter (Vf n k))).length)),(6,.dv (i64 (j:Nat)))],AA [(2,0,some ⟨[.dv (i64 (n.r)),.dv (i64 (n.c)),.dv (i64 (n.nd))],0,65,0,false⟩),(5,0,some (SK (ns ((List.range j).filter (Vf n k)))))]⟩) (fun j=>j <= n.r * n.c) (fun j=>n.r * n.c - j) 0 (by simp) (tl [(2,2)] (hF:=by simp [DK,AX,lk,AA,isLive,AZ,ns]) (hM:=by simp [Cm,Ar,AX,Aa,lk,AA,isLive,AZ,BO,BN,Al,BL,BP,BS,BQ,BR,ns])) ?_
 intro j BM
 have hfl:=RG (p:=Vf n k) (k:=j)
 refine AL ?_
 refine sg ?_
 refine qv A8 ?_
 refine qv (AY Jw Np) ?_
 refine CF (f187 n ok) ?_
 refine qv BK ?_
 refine cd (fun hc0=>?_) (fun hc0=>?_)
 ·try simp at hc0
  refine Af ?_
  refine AL ?_
  refine BI ?_
  refine AL ?_
  refine rd mixed ?_
  have hj:j < n.r * n.c:=by omega
  have b1:=Hl hj hcp
  have b2:=Hl hk hcp
  have b3:=Nat.mod_lt j hcp
  have b4:=Nat.mod_lt k hcp
  have b5:=ok.r2
  have b6:(0:Int) <= ((j / n.c:Nat):Int):=Int.natCast_nonneg _
  have b7:(0:Int) <= ((k / n.c:Nat):Int):=Int.natCast_nonneg _
  have s1:=sZ (a:=((j / n.c:Nat):Int) - ((k / n.c:Nat):Int)) (by omega)
  have s2:=sZ (a:=((j % n.c:Nat):Int) - ((k % n.c:Nat):Int)) (by omega)
  refine zv A8 ?_
  refine zv (AB DF) ?_
  refine zv (AQ Aw Bw) ?_
  refine zv Z0 ?_
  refine zv A8 ?_
  refine zv (AB DF) ?_
  refine zv (AQ Aw Bw) ?_
  refine zv Z0 ?_
  refine zv Gf ?_
  refine zv A8 ?_
  refine zv (AB DF) ?_
  refine zv (AQ Aw Bw) ?_
  refine zv Yz ?_
  refine zv A8 ?_
  refine zv (AB DF) ?_
  refine zv (AQ Aw Bw) ?_
  refine zv Yz ?_
  refine zv Gf ?_
  iterate 2 refine zv A9 ?_
  refine ⟨by rfl,?_⟩
  refine sg ?_
  iterate 2 refine qv A8 ?_
  refine qv Qr ?_
  iterate 2 refine qv A8 ?_
  refine qv Qr ?_
  refine qv Aq ?_
  refine qv Bl ?_
  refine cd (fun hc1=>?_) (fun hc1=>?_)
  ·skip
   have ha:Vf n k j=true:=YI.2 (by simpa only [beq_iff_eq,dr,dc] using hc1)
   have hsn:=TU ha
   have hnl:(ns ((List.range j).filter (Vf n k))).length <= 36:=by rw [Yr];omega
   refine rg ?_
   iterate 2 refine qv A8 ?_
   refine qr (FV BG Nu Aw) ?_
   refine vG (Iu BG BG Nu Aw ZY) ?_
   refine qv A9 ?_
   refine rg ?_
   refine qv A8 ?_
   refine qv Aq ?_
   refine qv A9 ?_
   exact ⟨j+1,hj,(by simp only;omega),(tl [(2,2),(5,44)] (hF:=by simp [DK,AX,lk,AA,isLive,AZ,hsn]) (hM:=by simp [Cm,Ar,AX,Aa,lk,AA,isLive,AZ,BO,BN,Al,BL,BP,BS,BQ,BR,hsn]))⟩
  ·skip
   have ha:¬ Vf n k j=true:=fun hh=>absurd (YI.1 hh) (by simpa only [beq_eq_false_iff_ne,ne_eq,dr,dc] using hc1)
   have hsn:=Qk ha
   refine Af ?_
   refine rg ?_
   refine qv A8 ?_
   refine qv Aq ?_
   refine qv A9 ?_
   exact ⟨j+1,hj,(by simp only;omega),(tl [(2,2),(5,5)] (hF:=by simp [DK,AX,lk,AA,isLive,AZ,hsn]) (hM:=by simp [Cm,Ar,AX,Aa,lk,AA,isLive,AZ,BO,BN,Al,BL,BP,BS,BQ,BR,hsn]))⟩
 ·try simp at hc0
  refine Ai ?_
  refine sg ?_
  refine qv A8 ?_
  refine qv A9 ?_
  refine AV ?_
  obtain rfl:j=n.r * n.c:=by omega
  exact x1 (hr:=(sj))
end Go.Ab.Tryz
namespace Go.Ab.Heap
def sm (f:Nat -> Int):Nat -> Int
 | 0=>0
 | n+1=>sm f n+f n
theorem Ci {f g:Nat -> Int}:∀ {n:Nat},(∀ i,i < n -> f i=g i) -> sm f n=sm g n
 | 0,_=>rfl
 | n+1,h=>by simp only [sm];rw [Ci fun i hi=>h i (by omega),h n (by omega)]
theorem LC {f g:Nat -> Int}:∀ {n:Nat},(∀ i,i < n -> f i <= g i) -> sm f n <= sm g n
 | 0,_=>Int.le_refl _
 | n+1,h=>by
  have h1:=LC (n:=n) fun i hi=>h i (by omega)
  have h2:=h n (by omega)
  simp only [sm];omega
theorem QS {f g:Nat -> Int} {d:Int} {k:Nat}:∀ {n:Nat},(∀ i,i < n -> f i <= g i) -> k < n -> f k+d <= g k -> sm f n+d <= sm g n
 | 0,_,hk,_=>by omega
 | n+1,h,hk,hd=>by
  simp only [sm]
  by_cases e:k=n
  ·subst e
   have h1:=LC (n:=k) fun i hi=>h i (by omega)
   omega
  ·have h1:=QS (n:=n) (fun i hi=>h i (by omega)) (by omega) hd
   have h2:=h n (by omega)
   omega
theorem JV:∀ {n:Nat},sm (fun _=>0) n=0
 | 0=>rfl
 | n+1=>by simp only [sm];rw [JV];rfl
theorem Du {f:Nat -> Int} {n:Nat} (h:∀ i,i < n -> 0 <= f i):0 <= sm f n:=by
 have:=LC h;rwa [JV] at this
theorem J9 {f:Nat -> Int} {n k:Nat} (h:∀ i,i < n -> 0 <= f i) (hk:k < n):f k <= sm f n:=by
 have:=QS (f:=fun _=>0) (g:=f) (d:=f k) h hk (by omega)
 rw [JV] at this;omega
theorem LZ {f g:Nat -> Int}:∀ {n:Nat},sm (fun i=>f i+g i) n=sm f n+sm g n
 | 0=>rfl
 | n+1=>by simp only [sm];rw [LZ];omega
theorem Yf {f g:Nat -> Int}:∀ {n:Nat},sm (fun i=>f i - g i) n=sm f n - sm g n
 | 0=>rfl
 | n+1=>by simp only [sm];rw [Yf];omega
theorem Yg {f:Nat -> Int}:∀ {n:Nat},sm (fun i=>- f i) n=- sm f n
 | 0=>rfl
 | n+1=>by simp only [sm];rw [Yg];omega
theorem Ue {f:Nat -> Int} {k:Int}:∀ {n:Nat},sm (fun i=>k * f i) n=k * sm f n
 | 0=>by simp [sm]
 | n+1=>by simp only [sm];rw [Ue,Int.mul_add]
theorem JA {k:Int}:∀ {n:Nat},sm (fun _=>k) n=n * k
 | 0=>by simp [sm]
 | n+1=>by simp only [sm];rw [JA,Int.natCast_succ,Int.add_mul,Int.one_mul]
theorem Ud {f:Nat -> Nat -> Int} {m:Nat}:∀ {n:Nat},sm (fun i=>sm (f i) m) n=sm (fun j=>sm (fun i=>f i j) n) m
 | 0=>by simp only [sm];rw [JV]
 | n+1=>by simp only [sm];rw [Ud,<- LZ]
structure SP where
 n:Nat
 l:Nat -> Nat -> Int
 g:Nat -> Int
inductive SP.Reach (s:SP):Nat -> Prop
 | ground {i:Nat}:i < s.n -> 0 < s.g i -> s.Reach i
 | link {i k:Nat}:i < s.n -> k < s.n -> s.Reach k -> 0 < s.l i k -> s.Reach i
structure SP.Ok (s:SP):Prop where
 l0:∀ i k,i < s.n -> k < s.n -> 0 <= s.l i k
 sym:∀ i k,i < s.n -> k < s.n -> s.l i k=s.l k i
 diag:∀ i,i < s.n -> s.l i i=0
 g0:∀ i,i < s.n -> 0 <= s.g i
 all:∀ i,i < s.n -> s.Reach i
def SP.lim (s:SP) (i:Nat):Int:=s.g i+sm (s.l i) s.n
def SP.OG (s:SP) (u:Nat -> Int) (i:Nat):Int:=s.g i * u i+sm (fun j=>s.l i j * (u i - u j)) s.n
variable {s:SP}
theorem jk (u:Nat -> Int) (i:Nat):s.OG u i=s.lim i * u i - sm (fun j=>s.l i j * u j) s.n:=by
 have:sm (fun j=>s.l i j * (u i - u j)) s.n=sm (s.l i) s.n * u i - sm (fun j=>s.l i j * u j) s.n:=by
  rw [Int.mul_comm (sm (s.l i) s.n),<- Ue,<- Yf]
  exact Ci fun j _=>by rw [Int.mul_sub,Int.mul_comm (s.l i j) (u i)]
 unfold SP.OG SP.lim
 rw [this,Int.add_mul];omega
theorem aT (u v:Nat -> Int) (i:Nat):s.OG (fun j=>u j+v j) i=s.OG u i+s.OG v i:=by
 have:sm (fun j=>s.l i j * (u i+v i - (u j+v j))) s.n=sm (fun j=>s.l i j * (u i - u j)) s.n+sm (fun j=>s.l i j * (v i - v j)) s.n:=by
  rw [<- LZ];exact Ci fun j _=>by rw [<- Int.mul_add];congr 1;omega
 unfold SP.OG
 rw [this,Int.mul_add];omega
theorem aS (k:Int) (u:Nat -> Int) (i:Nat):s.OG (fun j=>k * u j) i=k * s.OG u i:=by
 have:sm (fun j=>s.l i j * (k * u i - k * u j)) s.n=k * sm (fun j=>s.l i j * (u i - u j)) s.n:=by
  rw [<- Ue];exact Ci fun j _=>by rw [<- Int.mul_sub,<- Int.mul_assoc,<- Int.mul_assoc,Int.mul_comm k]
 unfold SP.OG
 rw [this,Int.mul_add,<- Int.mul_assoc,<- Int.mul_assoc,Int.mul_comm k,Int.mul_comm (s.g i)]
theorem pE (u:Nat -> Int) (i:Nat):s.OG (fun j=>- u j) i=- s.OG u i:=by
 have:=aS (s:=s) (-1) u i
 simp only [Int.neg_mul,Int.one_mul] at this
 exact this
theorem ou (u v:Nat -> Int) (i:Nat):s.OG (fun j=>u j - v j) i=s.OG u i - s.OG v i:=by
 have:=aT (s:=s) u (fun j=>- v j) i
 rw [pE] at this
 simpa [Int.sub_eq_add_neg] using this
theorem ji (i:Nat):s.OG (fun _=>0) i=0:=by
 have:=aS (s:=s) 0 (fun _=>0) i
 simpa using this
theorem Tc {u v:Nat -> Int} (h:∀ j,j < s.n -> u j=v j) {i:Nat} (hi:i < s.n):s.OG u i=s.OG v i:=by
 unfold SP.OG
 rw [h i hi,Ci fun j hj=>by rw [h j hj]]
def cnt (p:Nat -> Bool):Nat -> Nat
 | 0=>0
 | n+1=>cnt p n+if p n then 1 else 0
theorem ZU (p:Nat -> Bool):∀ n,cnt p n <= n
 | 0=>Nat.le_refl _
 | n+1=>by simp only [cnt];have:=ZU p n;split<;>omega
theorem cnt_mono {p q:Nat -> Bool}:∀ {n:Nat},(∀ i,i < n -> p i=true -> q i=true) -> cnt p n <= cnt q n
 | 0,_=>Nat.le_refl _
 | n+1,h=>by
  have h1:=cnt_mono (n:=n) fun i hi=>h i (by omega)
  have h2:=h n (by omega)
  simp only [cnt]
  cases hp:p n<;>cases hq:q n<;>simp_all<;>omega
theorem cnt_lt {p q:Nat -> Bool} {k:Nat}:∀ {n:Nat},(∀ i,i < n -> p i=true -> q i=true) -> k < n -> p k=false -> q k=true -> cnt p n < cnt q n
 | 0,_,hk,_,_=>by omega
 | n+1,h,hk,h1,h2=>by
  simp only [cnt]
  by_cases e:k=n
  ·subst e
   have:=cnt_mono (n:=k) fun i hi=>h i (by omega)
   simp [h1,h2];omega
  ·have:=cnt_lt (n:=n) (fun i hi=>h i (by omega)) (by omega) h1 h2
   have h3:=h n (by omega)
   cases hp:p n<;>cases hq:q n<;>simp_all<;>omega
theorem nT (ok:s.Ok) {S:Nat -> Prop} {i:Nat} (hi:i < s.n) (h:S i):(∃ k,k < s.n /\ S k /\ 0 < s.g k) \/ ∃ k j,k < s.n /\ j < s.n /\ S k /\ ¬ S j /\ 0 < s.l k j:=by
 by_cases hg:∃ k,k < s.n /\ S k /\ 0 < s.g k
 ·exact .inl hg
 ·by_cases hl:∃ k j,k < s.n /\ j < s.n /\ S k /\ ¬ S j /\ 0 < s.l k j
  ·exact .inr hl
  ·exfalso
   have:∀ k,s.Reach k -> ¬ S k:=fun k hk=>by
    induction hk with
    | @ground k h1 h2=>exact fun h3=>hg ⟨k,h1,h3,h2⟩
    | @link k j h1 h2 _ h4 ih=>exact fun h3=>hl ⟨k,j,h1,h2,h3,ih,h4⟩
   exact this i (ok.all i hi) h
def J6 (t:Nat -> Int) (m:Int) (j:Nat):Int:=if m <= t j then 1 else 0
theorem pF (ok:s.Ok) (t:Nat -> Int) (m:Int):2 * sm (fun j=>J6 t m j * s.OG t j) s.n=2 * sm (fun j=>J6 t m j * (s.g j * t j)) s.n+sm (fun j=>sm (fun k=>s.l j k * ((J6 t m j - J6 t m k) * (t j - t k))) s.n) s.n:=by
 have e1:sm (fun j=>J6 t m j * s.OG t j) s.n=sm (fun j=>J6 t m j * (s.g j * t j)) s.n+sm (fun j=>sm (fun k=>J6 t m j * (s.l j k * (t j - t k))) s.n) s.n:=by
  rw [<- LZ]
  refine Ci fun j _=>?_
  rw [Ue,<- Int.mul_add];rfl
 have e2:sm (fun j=>sm (fun k=>J6 t m j * (s.l j k * (t j - t k))) s.n) s.n=sm (fun j=>sm (fun k=>J6 t m k * (s.l j k * (t k - t j))) s.n) s.n:=by
  rw [Ud]
  exact Ci fun j hj=>Ci fun k hk=>by rw [ok.sym j k hj hk]
 have e3:sm (fun j=>sm (fun k=>s.l j k * ((J6 t m j - J6 t m k) * (t j - t k))) s.n) s.n=sm (fun j=>sm (fun k=>J6 t m j * (s.l j k * (t j - t k))) s.n) s.n+sm (fun j=>sm (fun k=>J6 t m k * (s.l j k * (t k - t j))) s.n) s.n:=by
  rw [<- LZ]
  refine Ci fun j _=>?_
  rw [<- LZ]
  refine Ci fun k _=>?_
  grind
 rw [e3,<- e2,e1];omega
theorem Nc (ok:s.Ok) (t:Nat -> Int) (m:Int) {j k:Nat} (hj:j < s.n) (hk:k < s.n):0 <= s.l j k * ((J6 t m j - J6 t m k) * (t j - t k)):=by
 refine Int.mul_nonneg (ok.l0 j k hj hk) ?_
 unfold J6
 split<;>split<;>simp<;>omega
theorem often (ok:s.Ok) {a t:Nat -> Int} {A:Int} (ht:∀ i,i < s.n -> 0 <= t i) (ha:∀ i,i < s.n -> 0 <= a i) (hA:sm a s.n <= A) (hc:∀ i,i < s.n -> 0 <= a i - s.OG t i):∀ i,i < s.n -> t i <= s.n * A:=by
 have aj:0 <= A:=Int.le_trans (Du ha) hA
 have tot:∀ m,sm (fun j=>J6 t m j * s.OG t j) s.n <= A:=fun m=>by
  refine Int.le_trans (LC fun j hj=>?_) hA
  have:=hc j hj
  have:=ha j hj
  unfold J6
  split<;>simp<;>omega
 have sW:∀ m j,j < s.n -> 0 <= J6 t m j * (s.g j * t j):=fun m j hj=>by
  have:=Int.mul_nonneg (ok.g0 j hj) (ht j hj)
  unfold J6
  split<;>simp<;>omega
 have low:∀ (v:Nat) i,i < s.n -> (t i).toNat <= v -> t i <= A * (1+(cnt (fun j=>decide (t j < t i)) s.n:Nat)):=by
  intro v
  induction v with
  | zero =>
   intro i hi hv
   have:0 <= A * (1+(cnt (fun j=>decide (t j < t i)) s.n:Nat)):=Int.mul_nonneg aj (by omega)
   omega
  | succ v ih =>
   intro i hi hv
   have h2:=pF ok t (t i)
   have h3:=tot (t i)
   have h0:0 <= A * (cnt (fun j=>decide (t j < t i)) s.n:Nat):=Int.mul_nonneg aj (by omega)
   rcases nT ok (S:=fun j=>t i <= t j) hi (Int.le_refl _) with ⟨k,k1,k2,k3⟩ | ⟨k,j,k1,j1,k2,k3,k4⟩
   ·have p1:=J9 (sW (t i)) k1
    have p2:=Du (f:=fun j=>sm (fun k=>s.l j k * ((J6 t (t i) j - J6 t (t i) k) * (t j - t k))) s.n) fun j hj=>Du fun k hk=>Nc ok t (t i) hj hk
    have p3:J6 t (t i) k=1:=by unfold J6;rw [if_pos k2]
    rw [p3,Int.one_mul] at p1
    have p4:t k <= s.g k * t k:=by
     have:=Int.mul_nonneg (show 0 <= s.g k - 1 by omega) (ht k k1)
     rw [Int.sub_mul] at this;omega
    rw [Int.mul_add,Int.mul_one]
    omega
   ·have p1:=Du (sW (t i))
    have pk:J6 t (t i) k=1:=by unfold J6;rw [if_pos k2]
    have pj:J6 t (t i) j=0:=by unfold J6;rw [if_neg k3]
    have q1:t k - t j <= s.l k j * ((J6 t (t i) k - J6 t (t i) j) * (t k - t j)):=by
     rw [pk,pj]
     have:=Int.mul_nonneg (show 0 <= s.l k j - 1 by omega) (show 0 <= t k - t j by omega)
     rw [Int.sub_mul] at this
     simp only [Int.sub_zero,Int.one_mul];omega
    have q2:t k - t j <= s.l j k * ((J6 t (t i) j - J6 t (t i) k) * (t j - t k)):=by
     rw [pk,pj,ok.sym j k j1 k1]
     have:=Int.mul_nonneg (show 0 <= s.l k j - 1 by omega) (show 0 <= t k - t j by omega)
     rw [Int.sub_mul] at this
     have e:(0 - 1:Int) * (t j - t k)=t k - t j:=by omega
     rw [e];omega
    have r1:=J9 (f:=fun q=>s.l k q * ((J6 t (t i) k - J6 t (t i) q) * (t k - t q))) (fun q hq=>Nc ok t (t i) k1 hq) j1
    have r2:=J9 (f:=fun q=>s.l j q * ((J6 t (t i) j - J6 t (t i) q) * (t j - t q))) (fun q hq=>Nc ok t (t i) j1 hq) k1
    have hkj:k ≠ j:=fun e=>k3 (e ▸ k2)
    have r3:(t k - t j)+(t k - t j) <= sm (fun j=>sm (fun k=>s.l j k * ((J6 t (t i) j - J6 t (t i) k) * (t j - t k))) s.n) s.n:=by
     have nn:∀ q,q < s.n -> 0 <= sm (fun k=>s.l q k * ((J6 t (t i) q - J6 t (t i) k) * (t q - t k))) s.n:=fun q hq=>Du fun k hk=>Nc ok t (t i) hq hk
     have z:=QS (f:=fun q=>if q=k then t k - t j else 0) (g:=fun q=>sm (fun k=>s.l q k * ((J6 t (t i) q - J6 t (t i) k) * (t q - t k))) s.n) (d:=t k - t j) (k:=j) (n:=s.n) (fun q hq=>by
      split
      ·rename_i e;subst e;exact Int.le_trans q1 r1
      ·exact nn q hq) j1 (by rw [if_neg (Ne.symm hkj)];have:=Int.le_trans q2 r2;omega)
     have z2:=J9 (f:=fun q=>if q=k then t k - t j else 0) (n:=s.n) (k:=k) (fun q hq=>by split<;>omega) k1
     simp only [if_true] at z2
     omega
    have hjv:=ih j j1 (by have:=ht j j1;have:=ht i hi;omega)
    have hcn:cnt (fun q=>decide (t q < t j)) s.n < cnt (fun q=>decide (t q < t i)) s.n:=cnt_lt (k:=j) (fun q hq hd=>by simp only [decide_eq_true_eq] at hd ⊢;omega) j1 (by simp) (by simp only [decide_eq_true_eq];omega)
    have hmul:A * (1+(cnt (fun q=>decide (t q < t j)) s.n:Nat)) <= A * (cnt (fun q=>decide (t q < t i)) s.n:Nat):=Int.mul_le_mul_of_nonneg_left (by omega) aj
    rw [Int.mul_add,Int.mul_one]
    omega
 intro i hi
 have h1:=low _ i hi (Nat.le_refl _)
 have h2:cnt (fun j=>decide (t j < t i)) s.n < cnt (fun _=>true) s.n:=cnt_lt (k:=i) (fun _ _ _=>rfl) hi (by simp) rfl
 have h3:=ZU (fun _=>true) s.n
 have h4:A * (1+(cnt (fun j=>decide (t j < t i)) s.n:Nat)) <= A * (s.n:Int):=Int.mul_le_mul_of_nonneg_left (by omega) aj
 rw [Int.mul_comm (s.n:Int)];omega
def SP.aQ (s:SP) (a t:Nat -> Int) (i:Nat):Int:=a i - s.OG t i
def SP.uL (s:SP) (a u:Nat -> Int):Prop:=(∀ i,i < s.n -> 0 <= u i) /\ ∀ i,i < s.n -> s.aQ a u i < s.lim i
def SP.Legal (s:SP) (a t:Nat -> Int):Prop:=(∀ i,i < s.n -> 0 <= t i) /\ ∀ u,s.uL a u -> ∀ i,i < s.n -> t i <= u i
def SP.Stl (s:SP) (a t:Nat -> Int):Prop:=s.uL a t /\ s.Legal a t
theorem Yc {a t t':Nat -> Int} (h:s.Stl a t) (h':s.Stl a t'):∀ i,i < s.n -> t i=t' i:=fun i hi=>by
 have h1:=h.2.2 t' h'.1 i hi
 have h2:=h'.2.2 t h.1 i hi
 (try dsimp only);omega
theorem Z6 {a:Nat -> Int}:s.Legal a fun _=>0:=⟨fun _ _=>Int.le_refl _,fun _ hu i hi=>hu.1 i hi⟩
theorem KN {a a' t t':Nat -> Int} (ha:∀ i,i < s.n -> a i=a' i) (ht:∀ i,i < s.n -> t i=t' i) (h:s.Legal a t):s.Legal a' t' :=
 ⟨fun i hi=>by rw [<- ht i hi];exact h.1 i hi,fun u hu i hi=>by
  rw [<- ht i hi]
  refine h.2 u ⟨hu.1,fun j hj=>?_⟩ i hi
  have:=hu.2 j hj
  unfold SP.aQ at *
  rw [ha j hj];exact this⟩
theorem Z7 {a t t':Nat -> Int} (h:s.Legal a t) (h':s.Legal (s.aQ a t) t'):s.Legal a fun i=>t i+t' i :=
 ⟨fun i hi=>by have:=h.1 i hi;have:=h'.1 i hi;(try dsimp only);omega,fun u hu i hi=>by
  have h1:=h.2 u hu
  have:=h'.2 (fun j=>u j - t j) ⟨fun j hj=>by have:=h1 j hj;(try dsimp only);omega,fun j hj=>by
   have:=hu.2 j hj
   unfold SP.aQ at *
   rw [ou];(try dsimp only);omega⟩ i hi
  (try dsimp only);omega⟩
theorem eX (ok:s.Ok) {a:Nat -> Int} {i:Nat} {k:Int} (hi:i < s.n) (h0:0 <= k) (hk:k * s.lim i <= a i) (hl:0 < s.lim i):s.Legal a fun j=>if j=i then k else 0:=by
 refine ⟨fun j _=>by dsimp only;split<;>omega,fun u hu j hj=>?_⟩
 dsimp only
 split
 ·rename_i e;subst e
  have h1:=hu.2 j hj
  unfold SP.aQ at h1
  rw [jk] at h1
  have h2:=Du (f:=fun q=>s.l j q * u q) (n:=s.n) fun q hq=>Int.mul_nonneg (ok.l0 j q hj hq) (hu.1 q hq)
  have h3:k * s.lim j < (u j+1) * s.lim j:=by rw [Int.add_mul,Int.one_mul,Int.mul_comm (u j)];omega
  have:=Int.lt_of_mul_lt_mul_right h3 (Int.le_of_lt hl)
  omega
 ·exact hu.1 j hj
theorem aP (ok:s.Ok) {i:Nat} (hi:i < s.n):0 < s.lim i:=by
 have h1:=ok.g0 i hi
 have h2:=Du (f:=s.l i) (n:=s.n) fun j hj=>ok.l0 i j hi hj
 unfold SP.lim
 cases ok.all i hi with
 | ground _ h=>omega
 | link _ hk _ h=>have:=J9 (f:=s.l i) (n:=s.n) (fun j hj=>ok.l0 i j hi hj) hk;omega
theorem oq (ok:s.Ok) (t:Nat -> Int):sm (s.OG t) s.n=sm (fun i=>s.g i * t i) s.n:=by
 have e1:sm (s.OG t) s.n=sm (fun i=>s.g i * t i) s.n+sm (fun i=>sm (fun j=>s.l i j * (t i - t j)) s.n) s.n:=by rw [<- LZ];rfl
 have e2:sm (fun i=>sm (fun j=>s.l i j * (t i - t j)) s.n) s.n=sm (fun i=>sm (fun j=>s.l i j * (t j - t i)) s.n) s.n:=by
  rw [Ud]
  exact Ci fun j hj=>Ci fun k hk=>by rw [ok.sym j k hj hk]
 have e3:sm (fun i=>sm (fun j=>s.l i j * (t j - t i)) s.n) s.n=- sm (fun i=>sm (fun j=>s.l i j * (t i - t j)) s.n) s.n:=by
  rw [<- Yg]
  refine Ci fun i _=>?_
  rw [<- Yg]
  exact Ci fun j _=>by rw [<- Int.mul_neg];congr 1;omega
 rw [e3] at e2
 rw [e1];omega
theorem jg (ok:s.Ok) {a t:Nat -> Int} (ht:∀ i,i < s.n -> 0 <= t i):sm (s.aQ a t) s.n <= sm a s.n:=by
 have e:sm (s.aQ a t) s.n=sm a s.n - sm (s.OG t) s.n:=by rw [<- Yf];rfl
 rw [e,oq ok]
 have:=Du (f:=fun i=>s.g i * t i) (n:=s.n) fun i hi=>Int.mul_nonneg (ok.g0 i hi) (ht i hi)
 omega
end Go.Ab.Heap
