/- BogB1, BogB2. -/
import Derived.Test.YtjcecljhjailiaaGreatDoorBogG20
import Derived.Test.YtjcecljhjailiaaGreatDoorBogG12
import Derived.Test.YtjcecljhjailiaaGreatDoorBogG07
set_option linter.all false
namespace Go.Ab.Tryz
open Go Go.Ab Go.Proofs Go.Ab.Ck Go.Ab.Gi
open Go.Ab.Heap (Az Ap BX)
theorem Zr {s:Int}:(if s.tmod 1000003 < 0 then s.tmod 1000003+1000003 else s.tmod 1000003)=(FE s:Int):=by
 have h:=Int.tmod_eq_emod (a:=s) (b:=1000003)
 unfold FE
 split at h<;>split<;>omega
theorem iQ {s:Int}:(s.tmod 1000003+1000003).tmod 1000003=(FE s:Int):=by
 have h:=Int.tmod_eq_emod (a:=s) (b:=1000003)
 have h2:0 <= s.tmod 1000003+1000003:=by split at h<;>omega
 rw [Int.tmod_eq_emod_of_nonneg h2]
 unfold FE
 split at h<;>omega
theorem Zq {s:Int}:-1000003 < s.tmod 1000003 /\ s.tmod 1000003 < 1000003:=by
 have h:=Int.tmod_eq_emod (a:=s) (b:=1000003)
 split at h<;>omega
theorem iO {s:Nat} {T:Tx} {i:Nat} (h:i < T.length):Cn s (T.take (i+1))=(Cn s (T.take i) * 257+T[i].toNat+1) % 1000003:=by
 rw [List.take_succ,List.getElem?_eq_getElem h]
 rw [iP]
 rfl
theorem O0 {s:Nat} {T:Tx} {i:Nat} (h:i < T.length):(((Cn s (T.take i):Nat):Int) * 257+(T[i].toNat:Int)+1).tmod 1000003=(Cn s (T.take (i+1)):Int):=by
 rw [iO h,Int.tmod_eq_emod_of_nonneg (by omega)]
 omega
theorem uT {c:UInt8} {T:Tx}:(tw c T).length < T.length ↔ T.contains c=true:=by
 rw [List.contains_iff_mem]
 refine ⟨fun h=>?_,fun h=>?_⟩
 ·rw [He c h];simp
 ·rcases Nat.lt_or_ge (tw c T).length T.length with h1 | h1
  ·exact h1
  ·have h2:=MQ c T
   rw [List.take_of_length_le h1] at h2
   exact absurd rfl (Zo c T c (by rw [<- h2];exact h))
theorem V8 {c:UInt8} {T:Tx}:Lib.contains T [c]=T.contains c:=by
 unfold Lib.contains
 rw [NJ,Bool.eq_iff_iff,<- uT]
 split<;>simp<;>omega
theorem f39 (s:Int) (T:Tx) (hT:T.length < 2000000):AR Tryz.prog 39 [i64 s,Cg T] (.one (.dv (i64 (Cn (FE s) T:Nat)))):=by
 have hbd:=Zq (s:=s)
 refine Bv Tryz.func39 rfl rfl (by rw [Tryz.ntmps39];simp) fun cx hP hn hg=>?_
 rw [Tryz.ntmps39] at hn
 rw [Br,Bq]
 simp only [List.nil_append,List.append_nil,List.cons_append,BH,Nat.reduceAdd]
 refine sg ?_
 refine qv A9 ?_
 refine sg ?_
 refine qv A8 ?_
 refine qv KJ ?_
 refine qv A9 ?_
 refine AL ?_
 refine sg ?_
 refine qv A8 ?_
 refine qv BK ?_
 refine cd (fun hc0=>?_) (fun hc0=>?_)
 ·try simp at hc0
  have hs0:s.tmod 1000003+1000003=(FE s:Int):=by rw [<- Zr,if_pos (by simpa using hc0)]
  refine rg ?_
  refine qv A8 ?_
  refine qv Aq ?_
  refine qv A9 ?_
  refine AL ?_
  refine sg ?_
  refine qv A8 ?_
  refine qv (EH K4) ?_
  refine qv A8 ?_
  refine BI ?_
  refine Ao (ι:=Nat) (fun i=>⟨lk [(1,.dv (Cg (T))),(5,.dv (i64 (Cn (FE s) (T.take i):Nat))),(14,.dv (i64 ((T.length:Int)))),(15,.dv (i64 (i:Nat)))],AA []⟩) (fun i=>i <= T.length) (fun i=>T.length - i) 0 (by simp) (tl [] (hF:=by simp [DK,AX,lk,AA,isLive,AZ,Cn,hs0]) (hM:=by simp [Cm,Ar,AX,Aa,lk,AA,isLive,AZ,BO,BN,Al,BL,BP,BS,BQ,BR,Cn,hs0])) ?_
  intro i BM
  refine sg ?_
  refine qv BK ?_
  refine AL ?_
  refine cd (fun hc1=>?_) (fun hc1=>?_)
  ·try simp at hc1
   refine Af ?_
   refine AL ?_
   refine BI ?_
   refine sg ?_
   have hi:i < T.length:=by omega
   have hb:T[i]?=some T[i]:=List.getElem?_eq_getElem hi
   have hlt:=UInt8.toNat_lt T[i]
   have hwr:DV.int .i64 (IntKind.i64.wrap (T[i].toNat:Int))=i64 (T[i].toNat:Int):=by rw [wrap_i64 (by omega) (by omega)]
   have hsl:=Gl (PV s) (T.take i)
   have hse:=O0 (s:=FE s) hi
   refine qv A8 ?_
   refine qv A9 ?_
   refine rg ?_
   refine qv A8 ?_
   refine qv Qr ?_
   iterate 2 refine qv A8 ?_
   refine qv (jW i K4 hb) ?_
   refine qv (FU kd5 Te (hw:=hwr)) ?_
   iterate 2 refine qv Aq ?_
   refine qv KJ ?_
   refine qv A9 ?_
   refine rg ?_
   rw [hse]
   refine qv Aq ?_
   refine qv A8 ?_
   exact ⟨i+1,hi,(by simp only;omega),(tl [])⟩
  ·try simp at hc1
   refine Ai ?_
   refine sg ?_
   refine qv A8 ?_
   refine qv A9 ?_
   refine AV ?_
   obtain rfl:i=T.length:=by omega
   rw [List.take_length]
   exact x1 (hr:=(Cc))
 ·try simp at hc0
  have hs0:s.tmod 1000003=(FE s:Int):=by rw [<- Zr,if_neg (by simpa using hc0)]
  refine Af ?_
  refine AL ?_
  refine sg ?_
  refine qv A8 ?_
  refine qv (EH K4) ?_
  refine qv A8 ?_
  refine BI ?_
  refine Ao (ι:=Nat) (fun i=>⟨lk [(1,.dv (Cg (T))),(5,.dv (i64 (Cn (FE s) (T.take i):Nat))),(14,.dv (i64 ((T.length:Int)))),(15,.dv (i64 (i:Nat)))],AA []⟩) (fun i=>i <= T.length) (fun i=>T.length - i) 0 (by simp) (tl [] (hF:=by simp [DK,AX,lk,AA,isLive,AZ,Cn,hs0]) (hM:=by simp [Cm,Ar,AX,Aa,lk,AA,isLive,AZ,BO,BN,Al,BL,BP,BS,BQ,BR,Cn,hs0])) ?_
  intro i BM
  refine sg ?_
  refine qv BK ?_
  refine AL ?_
  refine cd (fun hc1=>?_) (fun hc1=>?_)
  ·try simp at hc1
   refine Af ?_
   refine AL ?_
   refine BI ?_
   refine sg ?_
   have hi:i < T.length:=by omega
   have hb:T[i]?=some T[i]:=List.getElem?_eq_getElem hi
   have hlt:=UInt8.toNat_lt T[i]
   have hwr:DV.int .i64 (IntKind.i64.wrap (T[i].toNat:Int))=i64 (T[i].toNat:Int):=by rw [wrap_i64 (by omega) (by omega)]
   have hsl:=Gl (PV s) (T.take i)
   have hse:=O0 (s:=FE s) hi
   refine qv A8 ?_
   refine qv A9 ?_
   refine rg ?_
   refine qv A8 ?_
   refine qv Qr ?_
   iterate 2 refine qv A8 ?_
   refine qv (jW i K4 hb) ?_
   refine qv (FU kd5 Te (hw:=hwr)) ?_
   iterate 2 refine qv Aq ?_
   refine qv KJ ?_
   refine qv A9 ?_
   refine rg ?_
   rw [hse]
   refine qv Aq ?_
   refine qv A8 ?_
   exact ⟨i+1,hi,(by simp only;omega),(tl [])⟩
  ·try simp at hc1
   refine Ai ?_
   refine sg ?_
   refine qv A8 ?_
   refine qv A9 ?_
   refine AV ?_
   obtain rfl:i=T.length:=by omega
   rw [List.take_length]
   exact x1 (hr:=(Cc))
theorem f40 (s:Int) (T:Tx) (hT:T.length < 2000000):AR Tryz.prog 40 [i64 s,Cg T] (.one (.dv (i64 (Cn (FE s) T:Nat)))):=by
 have hbd:=Zq (s:=s)
 have hs0:=iQ (s:=s)
 refine Bv Tryz.func40 rfl rfl (by rw [Tryz.ntmps40];simp) fun cx hP hn hg=>?_
 rw [Tryz.ntmps40] at hn
 rw [Br,Bq]
 simp only [List.nil_append,List.append_nil,List.cons_append,BH,Nat.reduceAdd]
 refine sg ?_
 refine qv A9 ?_
 refine sg ?_
 refine qv A8 ?_
 refine qv KJ ?_
 refine qv Aq ?_
 refine qv KJ ?_
 refine qv A9 ?_
 refine AL ?_
 refine sg ?_
 refine qv A9 ?_
 refine BI ?_
 refine Ao (ι:=Nat) (fun i=>⟨lk [(1,.dv (Cg (T))),(5,.dv (i64 (Cn (FE s) (T.take i):Nat))),(6,.dv (i64 (i:Nat)))],AA []⟩) (fun i=>i <= T.length) (fun i=>T.length - i) 0 (by simp) (tl [] (hF:=by simp [DK,AX,lk,AA,isLive,AZ,Cn,hs0]) (hM:=by simp [Cm,Ar,AX,Aa,lk,AA,isLive,AZ,BO,BN,Al,BL,BP,BS,BQ,BR,Cn,hs0])) ?_
 intro i BM
 refine AL ?_
 refine sg ?_
 iterate 2 refine qv A8 ?_
 refine qv (EH K4) ?_
 refine qv BK ?_
 refine cd (fun hc0=>?_) (fun hc0=>?_)
 ·try simp at hc0
  refine Af ?_
  refine AL ?_
  refine BI ?_
  refine rg ?_
  have hi:i < T.length:=by omega
  have hb:T[i]?=some T[i]:=List.getElem?_eq_getElem hi
  have hlt:=UInt8.toNat_lt T[i]
  have hwr:DV.int .i64 (IntKind.i64.wrap (T[i].toNat:Int))=i64 (T[i].toNat:Int):=by rw [wrap_i64 (by omega) (by omega)]
  have hsl:=Gl (PV s) (T.take i)
  have hse:=O0 (s:=FE s) hi
  refine qv A8 ?_
  refine qv Qr ?_
  iterate 2 refine qv A8 ?_
  refine qv (jW i K4 hb) ?_
  refine qv (FU kd5 Te (hw:=hwr)) ?_
  iterate 2 refine qv Aq ?_
  refine qv KJ ?_
  refine qv A9 ?_
  refine rg ?_
  rw [hse]
  refine qv A8 ?_
  refine qv Aq ?_
  refine qv A9 ?_
  exact ⟨i+1,hi,(by simp only;omega),(tl [])⟩
 ·try simp at hc0
  refine Ai ?_
  refine sg ?_
  refine qv A8 ?_
  refine qv A9 ?_
  refine AV ?_
  obtain rfl:i=T.length:=by omega
  rw [List.take_length]
  exact x1 (hr:=(Cc))
theorem f84 (T:Tx) (hT:T.length < 2000000):AR Tryz.prog 84 [Cg T] (.one (.dv (.bool (Es T)))):=by
 refine Bv Tryz.func84 rfl rfl (by rw [Tryz.ntmps84];simp) fun cx hP hn hg=>?_
 rw [Tryz.ntmps84] at hn
 rw [Br,Bq]
 simp only [List.nil_append,List.append_nil,List.cons_append,BH,Nat.reduceAdd]
 refine sg ?_
 refine qv A9 ?_
 refine sg ?_
 refine qv A8 ?_
 refine qv (EH K4) ?_
 refine qv FT ?_
 refine qx A8 (fun hg6=>?_) (fun hg6=>?_)
 ·try simp at hg6
  refine qv A8 ?_
  refine qv (EH K4) ?_
  refine qv LD ?_
  refine qv Ae ?_
  refine qx A8 (fun Lu=>?_) (fun Lu=>?_)
  ·try simp at Lu
   refine qv A8 ?_
   refine CF (f127 T [10] (by omega)) ?_
   refine qv CP ?_
   refine qv Ae ?_
   refine qv A9 ?_
   refine AV ?_
   exact x1 (hr:=(Ej (by unfold Es;rw [<- V8,Bool.eq_iff_iff];simp<;>omega)))
  ·try simp at Lu
   iterate 3 refine qk ?_
   refine qv Ae ?_
   refine qv A9 ?_
   refine AV ?_
   exact x1 (hr:=(Ej (by unfold Es;rw [<- V8,Bool.eq_iff_iff];simp<;>omega)))
 ·try simp at hg6
  iterate 3 refine qk ?_
  refine qv Ae ?_
  refine qv A8 ?_
  iterate 3 refine qk ?_
  refine qv Ae ?_
  refine qv A9 ?_
  refine AV ?_
  exact x1 (hr:=(Ej (by unfold Es;rw [<- V8,Bool.eq_iff_iff];simp<;>omega)))
end Go.Ab.Tryz
namespace Go.Ab.Tryz
open Go Go.Ab Go.Proofs Go.Ab.Ck Go.Ab.Gi
open Go.Ab.Heap (Az Ap BX)
open Go.Ab.Heap (sm)
theorem aU (s:Nat):Lib.itoa (s:Int)=dd s:=by unfold Lib.itoa;rw [if_neg (by omega)];simp [dd]
theorem LX {n:Nat} (h:n < 1000003):FE (n:Int)=n:=by unfold FE;omega
def uK (L:List Tx):Prop:=L.length < 2000000 /\ ∀ i (hi:i < L.length),L[i].length < 2000000
theorem MG {s:Nat} {L:List Tx} {i:Nat} (hi:i < L.length):Am s (L.take (i+1))=Am s (L.take i) ++ Dl (Gm s (L.take i)) L[i]:=by
 rw [List.take_succ,List.getElem?_eq_getElem hi,U5]
 simp [Am]
theorem Sv {s:Nat} {L:List Tx} {i:Nat} (hi:i < L.length):Gm s (L.take (i+1))=Cn (Gm s (L.take i)) L[i]:=by
 unfold Gm
 rw [List.take_succ,List.getElem?_eq_getElem hi,List.foldl_append]
 rfl
theorem Qw {s:Nat} {T:Tx} (hs:s < 1000003):(Dl s T).length <= T.length+9:=by
 have:=ZR (Gl hs T)
 simp only [Dl,List.length_append,List.length_cons,List.length_nil];omega
theorem Rh {L:List Tx} (h:uK L):∀ i,i <= L.length -> (Am 0 (L.take i)).length <= i * 2000010
 | 0,_=>by simp [Am]
 | i+1,hi=>by
  have h1:=Rh h i (by omega)
  have h2:=Qw (s:=Gm 0 (L.take i)) (T:=L[i]) (UY (by decide) _)
  have h3:=h.2 i (by omega)
  rw [MG (by omega),List.length_append]
  omega
def iB (L:List Tx):Int:=if 100 < L.length then 3 else if L.all Es then 0 else 1
def yE (L:List Tx):Tx:=if iB L=0 then Am 0 L else []
theorem nQ {L:List Tx} (h:100 < L.length):iB L=3:=by unfold iB;rw [if_pos h]
theorem nR {L:List Tx} (h:¬ 100 < L.length) {i:Nat} (hi:i < L.length) (hb:Es L[i]=false):iB L=1:=by
 unfold iB;rw [if_neg h,if_neg]
 rw [List.all_eq_true]
 exact fun e=>by have:=e _ (List.getElem_mem hi);rw [hb] at this;cases this
theorem iA {L:List Tx} (h:¬ 100 < L.length) (ha:∀ i (hi:i < L.length),Es L[i]=true):iB L=0:=by
 unfold iB;rw [if_neg h,if_pos]
 rw [List.all_eq_true]
 intro T hT
 obtain ⟨i,hi,rfl⟩:=List.getElem_of_mem hT
 exact ha i hi
theorem gy {L:List Tx} (h:iB L ≠ 0):yE L=[]:=by unfold yE;rw [if_neg h]
theorem Zj {L:List Tx} (h:iB L=0):yE L=Am 0 L:=by unfold yE;rw [if_pos h]
theorem uS {a b:List Tx} (hl:a.length=b.length) (h:∀ j (h1:j < a.length) (h2:j < b.length),a[j]=b[j]):a=b:=List.ext_getElem hl fun j h1 h2=>h j h1 h2
theorem f85 (s:Int) (T:Tx) (hT:T.length < 2000000):AR Tryz.prog 85 [i64 s,Cg T] (.many [.dv (Cg (Dl (FE s) T)),.dv (i64 (Cn (FE s) T:Nat))]):=by
 have hsl:=Gl (PV s) T
 have hdl:=ZR hsl
 have hit:=aU (Cn (FE s) T)
 refine Bv Tryz.func85 rfl rfl (by rw [Tryz.ntmps85];simp) fun cx hP hn hg=>?_
 rw [Tryz.ntmps85] at hn
 rw [Br,Bq]
 simp only [List.nil_append,List.append_nil,List.cons_append,BH,Nat.reduceAdd]
 refine sg ?_
 iterate 2 refine qv A9 ?_
 refine sg ?_
 iterate 2 refine qv A8 ?_
 refine CF (f39 s T hT) ?_
 refine qv A9 ?_
 refine sg ?_
 refine qv A8 ?_
 refine CF (f87 (Cn (FE s) T:Nat) (by omega) (by omega)) ?_
 rw [hit]
 refine qv Wq ?_
 refine qv A8 ?_
 iterate 2 refine qv Wq ?_
 refine qv A8 ?_
 iterate 2 refine qv A9 ?_
 refine AV ?_
 exact x2 (hr:=(Uq)) (hr':=(Cc))
theorem f47 (L:List Tx) (hF:uK L):AR Tryz.prog 47 [GL L] (.one (.dv (Cg (Am 0 L)))):=by
 have hL:=hF.1
 refine Bv Tryz.func47 rfl rfl (by rw [Tryz.ntmps47];simp) fun cx hP hn hg=>?_
 rw [Tryz.ntmps47] at hn
 rw [Br,Bq]
 simp only [List.nil_append,List.append_nil,List.cons_append,BH,Nat.reduceAdd]
 refine sg ?_
 refine qv A9 ?_
 refine sg ?_
 refine qv A9 ?_
 refine sg ?_
 refine qv A9 ?_
 refine AL ?_
 refine sg ?_
 refine qv A9 ?_
 refine BI ?_
 refine Ao (ι:=Nat) (fun i=>⟨lk [(0,.dv (.list ((L).map Cg))),(3,.dv (Cg (Am 0 (L.take i)))),(4,.dv (i64 (Gm 0 (L.take i):Nat))),(5,.dv (i64 (i:Nat)))],AA []⟩) (fun i=>i <= L.length) (fun i=>L.length - i) 0 (by simp) (tl [] (hF:=by simp [DK,AX,lk,AA,isLive,AZ,Gm,Am]) (hM:=by simp [Cm,Ar,AX,Aa,lk,AA,isLive,AZ,BO,BN,Al,BL,BP,BS,BQ,BR,Gm,Am])) ?_
 intro i BM
 refine AL ?_
 refine sg ?_
 iterate 2 refine qv A8 ?_
 refine qv (BD Ce) ?_
 refine qv BK ?_
 refine cd (fun hc0=>?_) (fun hc0=>?_)
 ·try simp at hc0
  refine Af ?_
  refine AL ?_
  refine BI ?_
  refine sg ?_
  have hi:i < L.length:=by omega
  have hx:L[i]?=some L[i]:=List.getElem?_eq_getElem hi
  have hfi:=hF.2 i hi
  have hse:=UY (s:=0) (by decide) (L.take i)
  have hs0:=LX hse
  have hbl:=Rh hF i (by omega)
  have hsn:=Sv (s:=0) hi
  have hbn:=MG (s:=0) hi
  have hsl:=Gl (by rw [hs0];exact hse:FE ((Gm 0 (L.take i):Nat):Int) < 1000003) L[i]
  have hdl:=ZR hsl
  have hit:=aU (Cn (FE ((Gm 0 (L.take i):Nat):Int)) L[i])
  iterate 3 refine qv A8 ?_
  first | refine qv (BF CS Dh) ?_ | refine qv (Bf CS Dh) ?_
  refine qv (Bb Dh MK) ?_
  refine CF (f40 (Gm 0 (L.take i):Nat) L[i] hfi) ?_
  refine qv A9 ?_
  refine rd mixed ?_
  iterate 2 refine zv A8 ?_
  refine Kz (R:=[]) (f87 (Cn (FE ((Gm 0 (L.take i):Nat):Int)) L[i]:Nat) (by omega) (by omega)) ?_
  rw [hit]
  refine zv Wq ?_
  iterate 2 refine zv A8 ?_
  first | refine zv (BF CS Dh) ?_ | refine zv (Bf CS Dh) ?_
  refine zv (Bb Dh MK) ?_
  iterate 3 refine zv Wq ?_
  refine zv A9 ?_
  refine ⟨by rfl,?_⟩
  refine rg ?_
  rw [hs0,<- hsn,show Am 0 (L.take i) ++ (dd (Gm 0 (L.take (i+1))) ++ [32] ++ L[i] ++ [10])=Am 0 (L.take (i+1)) by rw [hbn,hsn];rfl]
  refine qv A8 ?_
  refine qv Aq ?_
  refine qv A9 ?_
  exact ⟨i+1,hi,(by simp only;omega),(tl [])⟩
 ·try simp at hc0
  refine Ai ?_
  refine sg ?_
  refine qv A8 ?_
  refine qv A9 ?_
  refine AV ?_
  obtain rfl:i=L.length:=by omega
  rw [List.take_length]
  exact x1 (hr:=(Uq))
theorem f38 (a b:List Tx) (ha:a.length < 2000000):AR Tryz.prog 38 [GL a,GL b] (.one (.dv (.bool (decide (a=b))))):=by
 refine Bv Tryz.func38 rfl rfl (by rw [Tryz.ntmps38];simp) fun cx hP hn hg=>?_
 rw [Tryz.ntmps38] at hn
 rw [Br,Bq]
 simp only [List.nil_append,List.append_nil,List.cons_append,BH,Nat.reduceAdd]
 refine sg ?_
 refine qv A9 ?_
 refine AL ?_
 refine sg ?_
 refine qv A8 ?_
 refine qv (BD Ce) ?_
 refine qv A8 ?_
 refine qv (BD Ce) ?_
 refine qv Ay ?_
 refine cd (fun hc0=>?_) (fun hc0=>?_)
 ·try simp at hc0
  refine sg ?_
  refine qv A9 ?_
  refine AV ?_
  exact x1 (hr:=(Ej (by symm;rw [decide_eq_false_iff_not];intro e;exact hc0 (by rw [e]))))
 ·try simp at hc0
  have hlab:a.length=b.length:=by omega
  refine Af ?_
  refine AL ?_
  refine sg ?_
  refine qv A9 ?_
  refine BI ?_
  refine Ao (ι:=Nat) (fun i=>⟨lk [(0,.dv (.list ((a).map Cg))),(1,.dv (.list ((b).map Cg))),(5,.dv (i64 (i:Nat)))],AA []⟩) (fun i=>i <= a.length /\ ∀ j (h1:j < a.length) (h2:j < b.length),j < i -> a[j]=b[j]) (fun i=>a.length - i) 0 (by simp) (tl []) ?_
  intro i BM
  refine AL ?_
  refine sg ?_
  iterate 2 refine qv A8 ?_
  refine qv (BD Ce) ?_
  refine qv BK ?_
  refine cd (fun hc1=>?_) (fun hc1=>?_)
  ·try simp at hc1
   refine Af ?_
   refine AL ?_
   refine BI ?_
   refine AL ?_
   have hi:i < a.length:=by omega
   have hib:i < b.length:=by omega
   have hga:a[i]?=some a[i]:=List.getElem?_eq_getElem hi
   have hgb:b[i]?=some b[i]:=List.getElem?_eq_getElem hib
   refine rd mixed ?_
   iterate 2 refine zv A8 ?_
   first | refine zv (BF CS Dh) ?_ | refine zv (Bf CS Dh) ?_
   refine zv (Bb Dh MK) ?_
   iterate 2 refine zv A8 ?_
   first | refine zv (BF CS Dh) ?_ | refine zv (Bf CS Dh) ?_
   refine zv (Bb Dh MK) ?_
   refine zv DY ?_
   refine ⟨by rfl,?_⟩
   refine cd (fun hc2=>?_) (fun hc2=>?_)
   ·try simp at hc2
    refine sg ?_
    refine qv A9 ?_
    refine AV ?_
    exact x1 (hr:=(Ej (by symm;rw [decide_eq_false_iff_not];intro e;subst e;simp at hc2)))
   ·try simp at hc2
    refine Af ?_
    refine rg ?_
    refine qv A8 ?_
    refine qv Aq ?_
    refine qv A9 ?_
    exact ⟨i+1,⟨hi,fun j h1 h2 h=>by
     rcases Nat.lt_or_ge j i with h3 | h3
     ·exact BM.2 j h1 h2 h3
     ·obtain rfl:j=i:=by omega
      simpa using hc2⟩,(by simp only;omega),(tl [])⟩
  ·try simp at hc1
   refine Ai ?_
   refine sg ?_
   refine qv A9 ?_
   refine AV ?_
   exact x1 (hr:=(Ej (by symm;rw [decide_eq_true_iff];exact uS hlab fun j h1 h2=>BM.2 j h1 h2 (by omega))))
end Go.Ab.Tryz
