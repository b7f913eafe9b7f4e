/- The functions of the bog laws: cuttings, part 63. The walks are written by wip/gen/gw.py. -/
import Derived.Test.YtjcecljhjailiaaGreatDoorBogG27
import Derived.Test.YtjcecljhjailiaaGreatDoorBogG19
import Derived.Test.YtjcecljhjailiaaGreatDoorBogG07
set_option linter.all false
namespace Go.Ab.Tryz
open Go Go.Ab Go.Proofs Go.Ab.Ci Go.Ab.Gx
open Go.Ab.Heap (Az Ah BZ)
open H (Uu Ed)
open Go.Ab.Heap (Hp Et validate sm)
set_option maxHeartbeats 2000000 in
theorem f80 (b:Bg) (ok:PW b):GR Tryz.prog 80 [KJ b] (.one (.dv (KJ b))):=by
 have Uz:=ok.n6
 have hn0:=ok.n0
 have hd4:=ok.d4
 refine KE Tryz.func80 rfl rfl (by rw [Tryz.ntmps80];simp) fun cx hP hn hg=>?_
 rw [Tryz.ntmps80] at hn
 rw [Bq,Bp]
 simp only [List.nil_append,List.append_nil,List.cons_append,BF,Nat.reduceAdd]
 refine sg ?_
 refine qp BX ?_
 refine qp (Fj rD) ?_
 refine sg ?_
 refine qp (Fj rD) ?_
 refine AJ ?_
 refine sg ?_
 refine qv A9 ?_
 refine BD ?_
 refine Ag (ι:=Nat) (fun i=>⟨lk [(1,.pt 1 0 0),(2,.pt 2 0 0),(3,.pt 3 0 0),(4,.dv (i64 (i:Nat)))],AA [(1,0,some ⟨[.dv (.list ((b.worth).map ints))],0,24,0,false⟩),(2,0,some ⟨[.Bw],0,24,0,false⟩),(3,0,some ⟨[.sl 22 0 0 i],0,24,0,false⟩),(22,0,some (Uu (b.worth.take i)))]⟩) (fun i=>i <= b.worth.length) (fun i=>b.worth.length - i) 0 (by simp) (tl [(1,1),(2,2),(3,3)] (hF:=by simp [Ck,Aa,lk,AA,isLive,Ac,XH]) (hM:=by simp [CV,Al,Aa,Ae,lk,AA,isLive,Ac,BK,BJ,Af,BI,BL,BO,BM,BN,XH])) ?_
 intro i Aj
 refine AJ ?_
 refine sg ?_
 refine qv A8 ?_
 refine qv (AB Cb) ?_
 refine qv (AL DF Da) ?_
 refine qv (BH Ka) ?_
 refine qv BQ ?_
 refine cd (fun hc0=>?_) (fun hc0=>?_)
 ·try simp at hc0
  refine AY ?_
  refine AJ ?_
  refine BD ?_
  refine rd mixed ?_
  have hi:i < b.worth.length:=by omega
  have hx:b.worth[i]?=some b.worth[i]:=List.getElem?_eq_getElem hi
  have hts:b.worth.take (i+1)=b.worth.take i ++ [b.worth[i]]:=by rw [List.take_succ,hx];rfl
  have htl:(b.worth.take i).length=i:=by simp;omega
  have hri:b.worth[i].length < 2000000:=by
   have:=ok.len i hi
   have e:b.col i=b.worth[i]:=Option.some.inj ((Ef hi).symm.trans hx)
   rw [e] at this;omega
  refine zv (AB Cb) ?_
  refine zv (AL DF Da) ?_
  refine zr (D7 Ap Jq Ak) ?_
  refine zv (AB Cb) ?_
  refine zv (AL DF Da) ?_
  refine zv A8 ?_
  first | refine zv (BA CO Av) ?_ | refine zv (Bd CO Av) ?_
  refine zv (Bb Av Bl) ?_
  refine za1 (DK Ap Ap Jq Ak U7) ?_
  refine zr (D7 CO Ry Av) ?_
  first | refine za0 (bL CO CO Ry Av A0I) ?_ | refine za1 (DK CO CO Ry Av A0I) ?_
  refine zv (AB Cb) ?_
  refine zs (CK DF) ?_
  refine ⟨by rfl,?_⟩
  refine G9 20 ?_
  refine kK 22 (cs:=(Uu (b.worth.take (i+1))).cells) (by simp only [AA,reduceIte,Nat.reduceEqDiff]<;>rfl) ?_ hg ?_
  ·rw [hts]
   simp only [Uu,List.map_append,List.map_cons,List.map_nil]
   exact Vi (SL _) ⟨.inr ⟨_,rfl,BS (L:=b.worth[i]) (by simp only [AA,reduceIte,Nat.reduceEqDiff]<;>rfl) rfl (by first | rfl | simp) rfl rfl (fun _=>trivial)⟩,trivial⟩
  refine rg ?_
  refine qv A8 ?_
  refine qv Am ?_
  refine qv A9 ?_
  exact ⟨i+1,hi,(by simp only;omega),(tl [(1,1),(2,2),(3,3),(22,22)] (hF:=by simp [Ck,Aa,lk,AA,isLive,Ac,XH]) (hM:=by simp [CV,Al,Aa,Ae,lk,AA,isLive,Ac,BK,BJ,Af,BI,BL,BO,BM,BN,XH]))⟩
 ·try simp at hc0
  refine Ad ?_
  refine sg ?_
  refine qv (AQ D9 DW) ?_
  refine qs (CK D9) ?_
  refine AP ?_
  obtain rfl:i=b.worth.length:=by omega
  exact Heap.ZR (.inr rfl) (s1:=.agg [.sl 22 0 0 b.worth.length]) (by simp only [Dt,D9,DW,St.look,St.ev,lk,AA,AV,Au,Ar,reduceIte,Nat.reduceAdd,Nat.reduceEqDiff,Nat.reduceMul];rfl) (.agg _ _ rfl fun j s c hs hd=>by match j,hs,hd with | 0,hs,hd=>cases hs;cases hd;exact Ed (L:=b.worth) (by simp only [AA,reduceIte,Nat.reduceEqDiff,List.take_length]<;>rfl) trivial rfl (fun _=>trivial))
end Go.Ab.Tryz
