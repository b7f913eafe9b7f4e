/- BogB1, BogB2. -/
import Derived.Test.YtjcecljhjailiaaGreatDoorBogG20
import Derived.Test.YtjcecljhjailiaaGreatDoorBogG12
import Derived.Test.YtjcecljhjailiaaGreatDoorBogG07
set_option linter.all false
namespace Go.Ab.Tryz
open Go Go.Ab Go.Proofs Go.Ab.Ci Go.Ab.Gx
open Go.Ab.Heap (Az Ah BZ)
theorem eB {s:Int}:(if s.tmod 1000003 < 0 then s.tmod 1000003+1000003 else s.tmod 1000003)=(HY s:Int):=by
 have h:=Int.tmod_eq_emod (a:=s) (b:=1000003)
 unfold HY
 split at h<;>split<;>omega
theorem lH {s:Int}:(s.tmod 1000003+1000003).tmod 1000003=(HY s:Int):=by
 have h:=Int.tmod_eq_emod (a:=s) (b:=1000003)
 have h2:0 <= s.tmod 1000003+1000003:=by split at h<;>omega
 rw [Int.tmod_eq_emod_of_nonneg h2]
 unfold HY
 split at h<;>omega
theorem dz {s:Int}:-1000003 < s.tmod 1000003 /\ s.tmod 1000003 < 1000003:=by
 have h:=Int.tmod_eq_emod (a:=s) (b:=1000003)
 split at h<;>omega
theorem lF {s:Nat} {T:Tx} {i:Nat} (h:i < T.length):Cj s (T.take (i+1))=(Cj s (T.take i) * 257+T[i].toNat+1) % 1000003:=by
 rw [List.take_succ,List.getElem?_eq_getElem h]
 rw [lG]
 rfl
theorem Pf {s:Nat} {T:Tx} {i:Nat} (h:i < T.length):(((Cj s (T.take i):Nat):Int) * 257+(T[i].toNat:Int)+1).tmod 1000003=(Cj s (T.take (i+1)):Int):=by
 rw [lF h,Int.tmod_eq_emod_of_nonneg (by omega)]
 omega
theorem xX {c:UInt8} {T:Tx}:(tw c T).length < T.length ↔ T.contains c=true:=by
 rw [List.contains_iff_mem]
 refine ⟨fun h=>?_,fun h=>?_⟩
 ·rw [Ir c h];simp
 ·rcases Nat.lt_or_ge (tw c T).length T.length with h1 | h1
  ·exact h1
  ·have h2:=MH c T
   rw [List.take_of_length_le h1] at h2
   exact absurd rfl (dx c T c (by rw [<- h2];exact h))
theorem XY {c:UInt8} {T:Tx}:Lib.contains T [c]=T.contains c:=by
 unfold Lib.contains
 rw [Oe,Bool.eq_iff_iff,<- xX]
 split<;>simp<;>omega
theorem gH {T:Tx} (h:T.contains 10=false):FH T=(decide (1 <= T.length) && decide (T.length <= 40)):=by unfold FH;rw [h];simp
theorem A0H {b:UInt8} (h:(b.toNat:Int)=10):b=10:=UInt8.toNat_inj.1 (by show b.toNat=10;omega)
theorem su {T:Tx} {i:Nat} (h:i < T.length) (e:T[i]=10):T.contains 10=true:=by
 rw [List.contains_iff_mem,<- e];exact List.getElem_mem h
theorem yR {T:Tx} (h:∀ j (hj:j < T.length),T[j] ≠ 10):T.contains 10=false:=by
 cases e:T.contains 10 with
 | false=>rfl
 | true =>
  rw [List.contains_iff_mem] at e
  obtain ⟨j,hj,e⟩:=List.getElem_of_mem e
  exact absurd e (h j hj)
theorem f39 (s:Int) (T:Tx) (hT:T.length < 2000000):AR Tryz.prog 39 [i64 s,CY T] (.one (.dv (i64 (Cj (HY s) T:Nat)))):=by
 have hbd:=dz (s:=s)
 refine Bu Tryz.func39 rfl rfl (by rw [Tryz.ntmps39];simp) fun cx hP hn hg=>?_
 rw [Tryz.ntmps39] at hn
 rw [Bq,Bp]
 simp only [List.nil_append,List.append_nil,List.cons_append,BF,Nat.reduceAdd]
 refine sg ?_
 refine qv A9 ?_
 refine sg ?_
 refine qv A8 ?_
 refine qv Qn ?_
 refine qv A9 ?_
 refine AJ ?_
 refine sg ?_
 refine qv A8 ?_
 refine qv BQ ?_
 refine cd (fun hc0=>?_) (fun hc0=>?_)
 ·try simp at hc0
  have hs0:s.tmod 1000003+1000003=(HY s:Int):=by rw [<- eB,if_pos (by simpa using hc0)]
  refine rg ?_
  refine qv A8 ?_
  refine qv Am ?_
  refine qv A9 ?_
  refine AJ ?_
  refine sg ?_
  refine qv A8 ?_
  refine qv (Dr IC) ?_
  refine qv A8 ?_
  refine BD ?_
  refine Ag (ι:=Nat) (fun i=>⟨lk [(1,.dv (CY (T))),(5,.dv (i64 (Cj (HY s) (T.take i):Nat))),(14,.dv (i64 ((T.length:Int)))),(15,.dv (i64 (i:Nat)))],AA []⟩) (fun i=>i <= T.length) (fun i=>T.length - i) 0 (by simp) (tl [] (hF:=by simp [Ck,Aa,lk,AA,isLive,Ac,Cj,hs0]) (hM:=by simp [CV,Al,Aa,Ae,lk,AA,isLive,Ac,BK,BJ,Af,BI,BL,BO,BM,BN,Cj,hs0])) ?_
  intro i Aj
  refine sg ?_
  refine qv BQ ?_
  refine AJ ?_
  refine cd (fun hc1=>?_) (fun hc1=>?_)
  ·try simp at hc1
   refine AY ?_
   refine AJ ?_
   refine BD ?_
   refine sg ?_
   have hi:i < T.length:=by omega
   have hb:T[i]?=some T[i]:=List.getElem?_eq_getElem hi
   have hlt:=UInt8.toNat_lt T[i]
   have hwr:DV.int .i64 (IntKind.i64.wrap (T[i].toNat:Int))=i64 (T[i].toNat:Int):=by rw [wrap_i64 (by omega) (by omega)]
   have hsl:=Fa (RS s) (T.take i)
   have hse:=Pf (s:=HY s) hi
   refine qv A8 ?_
   refine qv A9 ?_
   refine rg ?_
   refine qv A8 ?_
   refine qv Mq ?_
   iterate 2 refine qv A8 ?_
   refine qv (Qm i IC hb) ?_
   refine qv (Qp kd5 gG (hw:=hwr)) ?_
   iterate 2 refine qv Am ?_
   refine qv Qn ?_
   refine qv A9 ?_
   refine rg ?_
   rw [hse]
   refine qv Am ?_
   refine qv A8 ?_
   exact ⟨i+1,hi,(by simp only;omega),(tl [])⟩
  ·try simp at hc1
   refine Ad ?_
   refine sg ?_
   refine qv A8 ?_
   refine qv A9 ?_
   refine AP ?_
   obtain rfl:i=T.length:=by omega
   rw [List.take_length]
   exact x1 (hr:=(CW))
 ·try simp at hc0
  have hs0:s.tmod 1000003=(HY s:Int):=by rw [<- eB,if_neg (by simpa using hc0)]
  refine AY ?_
  refine AJ ?_
  refine sg ?_
  refine qv A8 ?_
  refine qv (Dr IC) ?_
  refine qv A8 ?_
  refine BD ?_
  refine Ag (ι:=Nat) (fun i=>⟨lk [(1,.dv (CY (T))),(5,.dv (i64 (Cj (HY s) (T.take i):Nat))),(14,.dv (i64 ((T.length:Int)))),(15,.dv (i64 (i:Nat)))],AA []⟩) (fun i=>i <= T.length) (fun i=>T.length - i) 0 (by simp) (tl [] (hF:=by simp [Ck,Aa,lk,AA,isLive,Ac,Cj,hs0]) (hM:=by simp [CV,Al,Aa,Ae,lk,AA,isLive,Ac,BK,BJ,Af,BI,BL,BO,BM,BN,Cj,hs0])) ?_
  intro i Aj
  refine sg ?_
  refine qv BQ ?_
  refine AJ ?_
  refine cd (fun hc1=>?_) (fun hc1=>?_)
  ·try simp at hc1
   refine AY ?_
   refine AJ ?_
   refine BD ?_
   refine sg ?_
   have hi:i < T.length:=by omega
   have hb:T[i]?=some T[i]:=List.getElem?_eq_getElem hi
   have hlt:=UInt8.toNat_lt T[i]
   have hwr:DV.int .i64 (IntKind.i64.wrap (T[i].toNat:Int))=i64 (T[i].toNat:Int):=by rw [wrap_i64 (by omega) (by omega)]
   have hsl:=Fa (RS s) (T.take i)
   have hse:=Pf (s:=HY s) hi
   refine qv A8 ?_
   refine qv A9 ?_
   refine rg ?_
   refine qv A8 ?_
   refine qv Mq ?_
   iterate 2 refine qv A8 ?_
   refine qv (Qm i IC hb) ?_
   refine qv (Qp kd5 gG (hw:=hwr)) ?_
   iterate 2 refine qv Am ?_
   refine qv Qn ?_
   refine qv A9 ?_
   refine rg ?_
   rw [hse]
   refine qv Am ?_
   refine qv A8 ?_
   exact ⟨i+1,hi,(by simp only;omega),(tl [])⟩
  ·try simp at hc1
   refine Ad ?_
   refine sg ?_
   refine qv A8 ?_
   refine qv A9 ?_
   refine AP ?_
   obtain rfl:i=T.length:=by omega
   rw [List.take_length]
   exact x1 (hr:=(CW))
theorem f40 (s:Int) (T:Tx) (hT:T.length < 2000000):AR Tryz.prog 40 [i64 s,CY T] (.one (.dv (i64 (Cj (HY s) T:Nat)))):=by
 have hbd:=dz (s:=s)
 have hs0:=lH (s:=s)
 refine Bu Tryz.func40 rfl rfl (by rw [Tryz.ntmps40];simp) fun cx hP hn hg=>?_
 rw [Tryz.ntmps40] at hn
 rw [Bq,Bp]
 simp only [List.nil_append,List.append_nil,List.cons_append,BF,Nat.reduceAdd]
 refine sg ?_
 refine qv A9 ?_
 refine sg ?_
 refine qv A8 ?_
 refine qv Qn ?_
 refine qv Am ?_
 refine qv Qn ?_
 refine qv A9 ?_
 refine AJ ?_
 refine sg ?_
 refine qv A9 ?_
 refine BD ?_
 refine Ag (ι:=Nat) (fun i=>⟨lk [(1,.dv (CY (T))),(5,.dv (i64 (Cj (HY s) (T.take i):Nat))),(6,.dv (i64 (i:Nat)))],AA []⟩) (fun i=>i <= T.length) (fun i=>T.length - i) 0 (by simp) (tl [] (hF:=by simp [Ck,Aa,lk,AA,isLive,Ac,Cj,hs0]) (hM:=by simp [CV,Al,Aa,Ae,lk,AA,isLive,Ac,BK,BJ,Af,BI,BL,BO,BM,BN,Cj,hs0])) ?_
 intro i Aj
 refine AJ ?_
 refine sg ?_
 iterate 2 refine qv A8 ?_
 refine qv (Dr IC) ?_
 refine qv BQ ?_
 refine cd (fun hc0=>?_) (fun hc0=>?_)
 ·try simp at hc0
  refine AY ?_
  refine AJ ?_
  refine BD ?_
  refine rg ?_
  have hi:i < T.length:=by omega
  have hb:T[i]?=some T[i]:=List.getElem?_eq_getElem hi
  have hlt:=UInt8.toNat_lt T[i]
  have hwr:DV.int .i64 (IntKind.i64.wrap (T[i].toNat:Int))=i64 (T[i].toNat:Int):=by rw [wrap_i64 (by omega) (by omega)]
  have hsl:=Fa (RS s) (T.take i)
  have hse:=Pf (s:=HY s) hi
  refine qv A8 ?_
  refine qv Mq ?_
  iterate 2 refine qv A8 ?_
  refine qv (Qm i IC hb) ?_
  refine qv (Qp kd5 gG (hw:=hwr)) ?_
  iterate 2 refine qv Am ?_
  refine qv Qn ?_
  refine qv A9 ?_
  refine rg ?_
  rw [hse]
  refine qv A8 ?_
  refine qv Am ?_
  refine qv A9 ?_
  exact ⟨i+1,hi,(by simp only;omega),(tl [])⟩
 ·try simp at hc0
  refine Ad ?_
  refine sg ?_
  refine qv A8 ?_
  refine qv A9 ?_
  refine AP ?_
  obtain rfl:i=T.length:=by omega
  rw [List.take_length]
  exact x1 (hr:=(CW))
theorem f86 (T:Tx) (hT:T.length < 2000000):AR Tryz.prog 86 [CY T] (.one (.dv (.bool (FH T)))):=by
 refine Bu Tryz.func86 rfl rfl (by rw [Tryz.ntmps86];simp) fun cx hP hn hg=>?_
 rw [Tryz.ntmps86] at hn
 rw [Bq,Bp]
 simp only [List.nil_append,List.append_nil,List.cons_append,BF,Nat.reduceAdd]
 refine sg ?_
 refine qv A9 ?_
 refine AJ ?_
 refine sg ?_
 refine qv A9 ?_
 refine BD ?_
 refine Ag (ι:=Nat) (fun i=>⟨lk [(0,.dv (CY (T))),(3,.dv (i64 (i:Nat)))],AA []⟩) (fun i=>i <= T.length /\ ∀ j (hj:j < T.length),j < i -> T[j] ≠ 10) (fun i=>T.length - i) 0 (by simp) (tl []) ?_
 intro i Aj
 refine AJ ?_
 refine sg ?_
 iterate 2 refine qv A8 ?_
 refine qv (Dr IC) ?_
 refine qv BQ ?_
 refine cd (fun hc0=>?_) (fun hc0=>?_)
 ·try simp at hc0
  refine AY ?_
  refine AJ ?_
  refine BD ?_
  refine sg ?_
  have hi:i < T.length:=by omega
  have hb:T[i]?=some T[i]:=List.getElem?_eq_getElem hi
  iterate 2 refine qv A8 ?_
  refine qv (Qm i IC hb) ?_
  refine qv Bv ?_
  refine cd (fun hc1=>?_) (fun hc1=>?_)
  ·try simp at hc1
   refine sg ?_
   refine qv A9 ?_
   refine AP ?_
   exact x1 (hr:=(DX (by unfold FH;rw [su hi (A0H (by simpa using hc1))];simp)))
  ·try simp at hc1
   refine AY ?_
   refine rg ?_
   refine qv A8 ?_
   refine qv Am ?_
   refine qv A9 ?_
   exact ⟨i+1,⟨hi,fun j hj h=>by
    rcases Nat.lt_or_ge j i with h1 | h1
    ·exact Aj.2 j hj h1
    ·obtain rfl:j=i:=by omega
     exact fun e=>hc1 (by rw [e];rfl)⟩,(by simp only;omega),(tl [])⟩
 ·try simp at hc0
  have hno:=yR fun j hj=>Aj.2 j hj (by omega)
  refine Ad ?_
  refine sg ?_
  refine qv A8 ?_
  refine qv (Dr IC) ?_
  refine qv Df ?_
  refine qx A8 (fun QE=>?_) (fun QE=>?_)
  ·try simp at QE
   refine qv A8 ?_
   refine qv (Dr IC) ?_
   refine qv IU ?_
   refine qv Ai ?_
   refine qv A9 ?_
   refine AP ?_
   exact x1 (hr:=(DX (by rw [gH hno,Bool.eq_iff_iff];simp<;>omega)))
  ·try simp at QE
   iterate 3 refine qk ?_
   refine qv Ai ?_
   refine qv A9 ?_
   refine AP ?_
   exact x1 (hr:=(DX (by rw [gH hno,Bool.eq_iff_iff];simp<;>omega)))
theorem f84 (T:Tx) (hT:T.length < 2000000):AR Tryz.prog 84 [CY T] (.one (.dv (.bool (FH T)))):=by
 refine Bu Tryz.func84 rfl rfl (by rw [Tryz.ntmps84];simp) fun cx hP hn hg=>?_
 rw [Tryz.ntmps84] at hn
 rw [Bq,Bp]
 simp only [List.nil_append,List.append_nil,List.cons_append,BF,Nat.reduceAdd]
 refine sg ?_
 refine qv A9 ?_
 refine sg ?_
 refine qv A8 ?_
 refine qv (Dr IC) ?_
 refine qv Df ?_
 refine qx A8 (fun hg6=>?_) (fun hg6=>?_)
 ·try simp at hg6
  refine qv A8 ?_
  refine qv (Dr IC) ?_
  refine qv IU ?_
  refine qv Ai ?_
  refine qx A8 (fun GI=>?_) (fun GI=>?_)
  ·try simp at GI
   refine qv A8 ?_
   refine Bo (f127 T [10] (by omega)) ?_
   refine qv Bn ?_
   refine qv Ai ?_
   refine qv A9 ?_
   refine AP ?_
   exact x1 (hr:=(DX (by unfold FH;rw [<- XY,Bool.eq_iff_iff];simp<;>omega)))
  ·try simp at GI
   iterate 3 refine qk ?_
   refine qv Ai ?_
   refine qv A9 ?_
   refine AP ?_
   exact x1 (hr:=(DX (by unfold FH;rw [<- XY,Bool.eq_iff_iff];simp<;>omega)))
 ·try simp at hg6
  iterate 3 refine qk ?_
  refine qv Ai ?_
  refine qv A8 ?_
  iterate 3 refine qk ?_
  refine qv Ai ?_
  refine qv A9 ?_
  refine AP ?_
  exact x1 (hr:=(DX (by unfold FH;rw [<- XY,Bool.eq_iff_iff];simp<;>omega)))
end Go.Ab.Tryz
namespace Go.Ab.Tryz
open Go Go.Ab Go.Proofs Go.Ab.Ci Go.Ab.Gx
open Go.Ab.Heap (Az Ah BZ)
open Go.Ab.Heap (sm)
theorem KX (s:Nat):Lib.itoa (s:Int)=dd s:=by unfold Lib.itoa;rw [if_neg (by omega)];simp [dd]
theorem KO {n:Nat} (h:n < 1000003):HY (n:Int)=n:=by unfold HY;omega
def xK (L:List Tx):Prop:=L.length < 2000000 /\ ∀ i (hi:i < L.length),L[i].length < 2000000
theorem Nn {s:Nat} {L:List Tx} {i:Nat} (hi:i < L.length):Co s (L.take (i+1))=Co s (L.take i) ++ Fq (IW s (L.take i)) L[i]:=by
 rw [List.take_succ,List.getElem?_eq_getElem hi,WS]
 simp [Co]
theorem Vd {s:Nat} {L:List Tx} {i:Nat} (hi:i < L.length):IW s (L.take (i+1))=Cj (IW s (L.take i)) L[i]:=by
 unfold IW
 rw [List.take_succ,List.getElem?_eq_getElem hi,List.foldl_append]
 rfl
theorem TK {s:Nat} {T:Tx} (hs:s < 1000003):(Fq s T).length <= T.length+9:=by
 have:=dL (Fa hs T)
 simp only [Fq,List.length_append,List.length_cons,List.length_nil];omega
theorem U8 {L:List Tx} (h:xK L):∀ i,i <= L.length -> (Co 0 (L.take i)).length <= i * 2000010
 | 0,_=>by simp [Co]
 | i+1,hi=>by
  have h1:=U8 h i (by omega)
  have h2:=TK (s:=IW 0 (L.take i)) (T:=L[i]) (Wp (by decide) _)
  have h3:=h.2 i (by omega)
  rw [Nn (by omega),List.length_append]
  omega
def qm (L:List Tx):Int:=if 100 < L.length then 3 else if L.all FH then 0 else 1
def wrT (L:List Tx):Tx:=if qm L=0 then Co 0 L else []
theorem rF {L:List Tx} (h:100 < L.length):qm L=3:=by unfold qm;rw [if_pos h]
theorem rG {L:List Tx} (h:¬ 100 < L.length) {i:Nat} (hi:i < L.length) (hb:FH L[i]=false):qm L=1:=by
 unfold qm;rw [if_neg h,if_neg]
 rw [List.all_eq_true]
 exact fun e=>by have:=e _ (List.getElem_mem hi);rw [hb] at this;cases this
theorem xS {L:List Tx} (h:¬ 100 < L.length) (ha:∀ i (hi:i < L.length),FH L[i]=true):qm L=0:=by
 unfold qm;rw [if_neg h,if_pos]
 rw [List.all_eq_true]
 intro T hT
 obtain ⟨i,hi,rfl⟩:=List.getElem_of_mem hT
 exact ha i hi
theorem kW {L:List Tx} (h:qm L ≠ 0):wrT L=[]:=by unfold wrT;rw [if_neg h]
theorem rE {L:List Tx} (h:qm L=0):wrT L=Co 0 L:=by unfold wrT;rw [if_pos h]
theorem xW {a b:List Tx} (hl:a.length=b.length) (h:∀ j (h1:j < a.length) (h2:j < b.length),a[j]=b[j]):a=b:=List.ext_getElem hl fun j h1 h2=>h j h1 h2
theorem f85 (s:Int) (T:Tx) (hT:T.length < 2000000):AR Tryz.prog 85 [i64 s,CY T] (.many [.dv (CY (Fq (HY s) T)),.dv (i64 (Cj (HY s) T:Nat))]):=by
 have hsl:=Fa (RS s) T
 have hdl:=dL hsl
 have hit:=KX (Cj (HY s) T)
 refine Bu Tryz.func85 rfl rfl (by rw [Tryz.ntmps85];simp) fun cx hP hn hg=>?_
 rw [Tryz.ntmps85] at hn
 rw [Bq,Bp]
 simp only [List.nil_append,List.append_nil,List.cons_append,BF,Nat.reduceAdd]
 refine sg ?_
 iterate 2 refine qv A9 ?_
 refine sg ?_
 iterate 2 refine qv A8 ?_
 refine Bo (f39 s T hT) ?_
 refine qv A9 ?_
 refine sg ?_
 refine qv A8 ?_
 refine Bo (f87 (Cj (HY s) T:Nat) (by omega) (by omega)) ?_
 rw [hit]
 refine qv Yz ?_
 refine qv A8 ?_
 iterate 2 refine qv Yz ?_
 refine qv A8 ?_
 iterate 2 refine qv A9 ?_
 refine AP ?_
 exact x2 (hr:=(Nw)) (hr':=(CW))
theorem f47 (L:List Tx) (hF:xK L):AR Tryz.prog 47 [Gi L] (.one (.dv (CY (Co 0 L)))):=by
 have hL:=hF.1
 refine Bu Tryz.func47 rfl rfl (by rw [Tryz.ntmps47];simp) fun cx hP hn hg=>?_
 rw [Tryz.ntmps47] at hn
 rw [Bq,Bp]
 simp only [List.nil_append,List.append_nil,List.cons_append,BF,Nat.reduceAdd]
 refine sg ?_
 refine qv A9 ?_
 refine sg ?_
 refine qv A9 ?_
 refine sg ?_
 refine qv A9 ?_
 refine AJ ?_
 refine sg ?_
 refine qv A9 ?_
 refine BD ?_
 refine Ag (ι:=Nat) (fun i=>⟨lk [(0,.dv (.list ((L).map CY))),(3,.dv (CY (Co 0 (L.take i)))),(4,.dv (i64 (IW 0 (L.take i):Nat))),(5,.dv (i64 (i:Nat)))],AA []⟩) (fun i=>i <= L.length) (fun i=>L.length - i) 0 (by simp) (tl [] (hF:=by simp [Ck,Aa,lk,AA,isLive,Ac,IW,Co]) (hM:=by simp [CV,Al,Aa,Ae,lk,AA,isLive,Ac,BK,BJ,Af,BI,BL,BO,BM,BN,IW,Co])) ?_
 intro i Aj
 refine AJ ?_
 refine sg ?_
 iterate 2 refine qv A8 ?_
 refine qv (BH Dg) ?_
 refine qv BQ ?_
 refine cd (fun hc0=>?_) (fun hc0=>?_)
 ·try simp at hc0
  refine AY ?_
  refine AJ ?_
  refine BD ?_
  refine sg ?_
  have hi:i < L.length:=by omega
  have hx:L[i]?=some L[i]:=List.getElem?_eq_getElem hi
  have hfi:=hF.2 i hi
  have hse:=Wp (s:=0) (by decide) (L.take i)
  have hs0:=KO hse
  have hbl:=U8 hF i (by omega)
  have hsn:=Vd (s:=0) hi
  have hbn:=Nn (s:=0) hi
  have hsl:=Fa (by rw [hs0];exact hse:HY ((IW 0 (L.take i):Nat):Int) < 1000003) L[i]
  have hdl:=dL hsl
  have hit:=KX (Cj (HY ((IW 0 (L.take i):Nat):Int)) L[i])
  iterate 3 refine qv A8 ?_
  first | refine qv (BA CF DZ) ?_ | refine qv (Bd CF DZ) ?_
  refine qv (Bb DZ Mk) ?_
  refine Bo (f40 (IW 0 (L.take i):Nat) L[i] hfi) ?_
  refine qv A9 ?_
  refine rd mixed ?_
  iterate 2 refine zv A8 ?_
  refine GA (R:=[]) (f87 (Cj (HY ((IW 0 (L.take i):Nat):Int)) L[i]:Nat) (by omega) (by omega)) ?_
  rw [hit]
  refine zv Yz ?_
  iterate 2 refine zv A8 ?_
  first | refine zv (BA CF DZ) ?_ | refine zv (Bd CF DZ) ?_
  refine zv (Bb DZ Mk) ?_
  iterate 3 refine zv Yz ?_
  refine zv A9 ?_
  refine ⟨by rfl,?_⟩
  refine rg ?_
  rw [hs0,<- hsn,show Co 0 (L.take i) ++ (dd (IW 0 (L.take (i+1))) ++ [32] ++ L[i] ++ [10])=Co 0 (L.take (i+1)) by rw [hbn,hsn];rfl]
  refine qv A8 ?_
  refine qv Am ?_
  refine qv A9 ?_
  exact ⟨i+1,hi,(by simp only;omega),(tl [])⟩
 ·try simp at hc0
  refine Ad ?_
  refine sg ?_
  refine qv A8 ?_
  refine qv A9 ?_
  refine AP ?_
  obtain rfl:i=L.length:=by omega
  rw [List.take_length]
  exact x1 (hr:=(Nw))
theorem f38 (a b:List Tx) (ha:a.length < 2000000):AR Tryz.prog 38 [Gi a,Gi b] (.one (.dv (.bool (decide (a=b))))):=by
 refine Bu Tryz.func38 rfl rfl (by rw [Tryz.ntmps38];simp) fun cx hP hn hg=>?_
 rw [Tryz.ntmps38] at hn
 rw [Bq,Bp]
 simp only [List.nil_append,List.append_nil,List.cons_append,BF,Nat.reduceAdd]
 refine sg ?_
 refine qv A9 ?_
 refine AJ ?_
 refine sg ?_
 refine qv A8 ?_
 refine qv (BH Dg) ?_
 refine qv A8 ?_
 refine qv (BH Dg) ?_
 refine qv BP ?_
 refine cd (fun hc0=>?_) (fun hc0=>?_)
 ·try simp at hc0
  refine sg ?_
  refine qv A9 ?_
  refine AP ?_
  exact x1 (hr:=(DX (by symm;rw [decide_eq_false_iff_not];intro e;exact hc0 (by rw [e]))))
 ·try simp at hc0
  have hlab:a.length=b.length:=by omega
  refine AY ?_
  refine AJ ?_
  refine sg ?_
  refine qv A9 ?_
  refine BD ?_
  refine Ag (ι:=Nat) (fun i=>⟨lk [(0,.dv (.list ((a).map CY))),(1,.dv (.list ((b).map CY))),(5,.dv (i64 (i:Nat)))],AA []⟩) (fun i=>i <= a.length /\ ∀ j (h1:j < a.length) (h2:j < b.length),j < i -> a[j]=b[j]) (fun i=>a.length - i) 0 (by simp) (tl []) ?_
  intro i Aj
  refine AJ ?_
  refine sg ?_
  iterate 2 refine qv A8 ?_
  refine qv (BH Dg) ?_
  refine qv BQ ?_
  refine cd (fun hc1=>?_) (fun hc1=>?_)
  ·try simp at hc1
   refine AY ?_
   refine AJ ?_
   refine BD ?_
   refine AJ ?_
   have hi:i < a.length:=by omega
   have hib:i < b.length:=by omega
   have hga:a[i]?=some a[i]:=List.getElem?_eq_getElem hi
   have hgb:b[i]?=some b[i]:=List.getElem?_eq_getElem hib
   refine rd mixed ?_
   iterate 2 refine zv A8 ?_
   first | refine zv (BA CF DZ) ?_ | refine zv (Bd CF DZ) ?_
   refine zv (Bb DZ Mk) ?_
   iterate 2 refine zv A8 ?_
   first | refine zv (BA CF DZ) ?_ | refine zv (Bd CF DZ) ?_
   refine zv (Bb DZ Mk) ?_
   refine zv K4 ?_
   refine ⟨by rfl,?_⟩
   refine cd (fun hc2=>?_) (fun hc2=>?_)
   ·try simp at hc2
    refine sg ?_
    refine qv A9 ?_
    refine AP ?_
    exact x1 (hr:=(DX (by symm;rw [decide_eq_false_iff_not];intro e;subst e;simp at hc2)))
   ·try simp at hc2
    refine AY ?_
    refine rg ?_
    refine qv A8 ?_
    refine qv Am ?_
    refine qv A9 ?_
    exact ⟨i+1,⟨hi,fun j h1 h2 h=>by
     rcases Nat.lt_or_ge j i with h3 | h3
     ·exact Aj.2 j h1 h2 h3
     ·obtain rfl:j=i:=by omega
      simpa using hc2⟩,(by simp only;omega),(tl [])⟩
  ·try simp at hc1
   refine Ad ?_
   refine sg ?_
   refine qv A9 ?_
   refine AP ?_
   exact x1 (hr:=(DX (by symm;rw [decide_eq_true_iff];exact xW hlab fun j h1 h2=>Aj.2 j h1 h2 (by omega))))
theorem f119 (l:List Int) (hl:l.length < 1000) (hb:∀ i,i < l.length -> -1000000 <= Az l i /\ Az l i <= 1000000):AR Tryz.prog 119 [ints l] (.one (.dv (i64 (sm (Az l) l.length)))):=by
 refine Bu Tryz.func119 rfl rfl (by rw [Tryz.ntmps119];simp) fun cx hP hn hg=>?_
 rw [Tryz.ntmps119] at hn
 rw [Bq,Bp]
 simp only [List.nil_append,List.append_nil,List.cons_append,BF,Nat.reduceAdd]
 refine sg ?_
 refine qv A9 ?_
 refine sg ?_
 refine qv A9 ?_
 refine AJ ?_
 refine sg ?_
 refine qv A9 ?_
 refine BD ?_
 refine Ag (ι:=Nat) (fun i=>⟨lk [(0,.dv (ints (l))),(3,.dv (i64 (sm (Az l) i))),(4,.dv (i64 (i:Nat)))],AA []⟩) (fun i=>i <= l.length /\ -(i * 1000000:Int) <= sm (Az l) i /\ sm (Az l) i <= i * 1000000) (fun i=>l.length - i) 0 (by simp [sm]) (tl [] (hF:=by simp [Ck,Aa,lk,AA,isLive,Ac,sm]) (hM:=by simp [CV,Al,Aa,Ae,lk,AA,isLive,Ac,BK,BJ,Af,BI,BL,BO,BM,BN,sm])) ?_
 intro i Aj
 refine AJ ?_
 refine sg ?_
 iterate 2 refine qv A8 ?_
 refine qv (BH CZ) ?_
 refine qv BQ ?_
 refine cd (fun hc0=>?_) (fun hc0=>?_)
 ·try simp at hc0
  refine AY ?_
  refine AJ ?_
  refine BD ?_
  refine rg ?_
  have hi:i < l.length:=by omega
  have hgi:=Ah hi
  have hbi:=hb i hi
  iterate 3 refine qv A8 ?_
  first | refine qv (BA Ap Ak) ?_ | refine qv (Bd Ap Ak) ?_
  refine qv (Bb Ak Br) ?_
  refine qv Am ?_
  refine qv A9 ?_
  refine rg ?_
  refine qv A8 ?_
  refine qv Am ?_
  refine qv A9 ?_
  exact ⟨i+1,⟨hi,by simp only [sm];omega,by simp only [sm];omega⟩,(by simp only;omega),(tl [] (hF:=by simp [Ck,Aa,lk,AA,isLive,Ac,sm]) (hM:=by simp [CV,Al,Aa,Ae,lk,AA,isLive,Ac,BK,BJ,Af,BI,BL,BO,BM,BN,sm]))⟩
 ·try simp at hc0
  refine Ad ?_
  refine sg ?_
  refine qv A8 ?_
  refine qv A9 ?_
  refine AP ?_
  obtain rfl:i=l.length:=by omega
  exact x1 (hr:=(CW))
end Go.Ab.Tryz
