/- The functions of the bog laws: cuttings, part 63. The walks are written by wip/gen/gw.py. -/
import Derived.Test.YtjcecljhjailiaaGreatDoorBogG27
import Derived.Test.YtjcecljhjailiaaGreatDoorBogG19
import Derived.Test.YtjcecljhjailiaaGreatDoorBogG07
set_option linter.all false
namespace Go.Ab.Tryz
open Go Go.Ab Go.Proofs Go.Ab.Ck Go.Ab.Gi
open Go.Ab.Heap (Az Ap BX)
open H (SL Et)
open Go.Ab.Heap (Hp GX validate sm)
set_option maxHeartbeats 2000000 in
theorem f80 (b:Bg) (ok:Ob b):FN Tryz.prog 80 [RX b] (.one (.dv (RX b))):=by
 have X8:=ok.n6
 have hn0:=ok.n0
 have hd4:=ok.d4
 refine JM Tryz.func80 rfl rfl (by rw [Tryz.ntmps80];simp) fun cx hP hn hg=>?_
 rw [Tryz.ntmps80] at hn
 rw [Br,Bq]
 simp only [List.nil_append,List.append_nil,List.cons_append,BH,Nat.reduceAdd]
 refine sg ?_
 refine qp Bu ?_
 refine qp (IJ nP) ?_
 refine sg ?_
 refine qp (IJ nP) ?_
 refine AL ?_
 refine sg ?_
 refine qv A9 ?_
 refine BI ?_
 refine Ao (ι:=Nat) (fun i=>⟨lk [(1,.pt 1 0 0),(2,.pt 2 0 0),(3,.pt 3 0 0),(4,.dv (i64 (i:Nat)))],AA [(1,0,some ⟨[.dv (.list ((b.worth).map ints))],0,24,0,false⟩),(2,0,some ⟨[.Bh],0,24,0,false⟩),(3,0,some ⟨[.sl 22 0 0 i],0,24,0,false⟩),(22,0,some (SL (b.worth.take i)))]⟩) (fun i=>i <= b.worth.length) (fun i=>b.worth.length - i) 0 (by simp) (tl [(1,1),(2,2),(3,3)] (hF:=by simp [DK,AX,lk,AA,isLive,AZ,V3]) (hM:=by simp [Cm,Ar,AX,Aa,lk,AA,isLive,AZ,BO,BN,Al,BL,BP,BS,BQ,BR,V3])) ?_
 intro i BM
 refine AL ?_
 refine sg ?_
 refine qv A8 ?_
 refine qv (AB Ch) ?_
 refine qv (AQ DJ DW) ?_
 refine qv (BD KO) ?_
 refine qv BK ?_
 refine cd (fun hc0=>?_) (fun hc0=>?_)
 ·try simp at hc0
  refine Af ?_
  refine AL ?_
  refine BI ?_
  refine rd mixed ?_
  have hi:i < b.worth.length:=by omega
  have hx:b.worth[i]?=some b.worth[i]:=List.getElem?_eq_getElem hi
  have hts:b.worth.take (i+1)=b.worth.take i ++ [b.worth[i]]:=by rw [List.take_succ,hx];rfl
  have htl:(b.worth.take i).length=i:=by simp;omega
  have hri:b.worth[i].length < 2000000:=by
   have:=ok.len i hi
   have e:b.col i=b.worth[i]:=Option.some.inj ((Eu hi).symm.trans hx)
   rw [e] at this;omega
  refine zv (AB Ch) ?_
  refine zv (AQ DJ DW) ?_
  refine zr (FV BG Nu Aw) ?_
  refine zv (AB Ch) ?_
  refine zv (AQ DJ DW) ?_
  refine zv A8 ?_
  first | refine zv (BF CJ Av) ?_ | refine zv (Bf CJ Av) ?_
  refine zv (Bb Av Bz) ?_
  refine za1 (Iu BG BG Nu Aw ZY) ?_
  refine zr (FV CJ UM Av) ?_
  first | refine za0 (jY CJ CJ UM Av xS) ?_ | refine za1 (Iu CJ CJ UM Av xS) ?_
  refine zv (AB Ch) ?_
  refine zs (Cu DJ) ?_
  refine ⟨by rfl,?_⟩
  refine Dz 20 ?_
  refine gP 22 (cs:=(SL (b.worth.take (i+1))).cells) (by simp only [AA,reduceIte,Nat.reduceEqDiff]<;>rfl) ?_ hg ?_
  ·rw [hts]
   simp only [SL,List.map_append,List.map_cons,List.map_nil]
   exact TF (QT _) ⟨.inr ⟨_,rfl,Bc (L:=b.worth[i]) (by simp only [AA,reduceIte,Nat.reduceEqDiff]<;>rfl) rfl (by first | rfl | simp) rfl rfl (fun _=>trivial)⟩,trivial⟩
  refine rg ?_
  refine qv A8 ?_
  refine qv Aq ?_
  refine qv A9 ?_
  exact ⟨i+1,hi,(by simp only;omega),(tl [(1,1),(2,2),(3,3),(22,22)] (hF:=by simp [DK,AX,lk,AA,isLive,AZ,V3]) (hM:=by simp [Cm,Ar,AX,Aa,lk,AA,isLive,AZ,BO,BN,Al,BL,BP,BS,BQ,BR,V3]))⟩
 ·try simp at hc0
  refine Ai ?_
  refine sg ?_
  refine qv (AY Dw EC) ?_
  refine qs (Cu Dw) ?_
  refine AV ?_
  obtain rfl:i=b.worth.length:=by omega
  exact Heap.Xj (.inr rfl) (s1:=.agg [.sl 22 0 0 b.worth.length]) (by simp only [Dr,Dw,EC,St.look,St.ev,lk,AA,AO,Ah,Ag,reduceIte,Nat.reduceAdd,Nat.reduceEqDiff,Nat.reduceMul];rfl) (.agg _ _ rfl fun j s c hs hd=>by match j,hs,hd with | 0,hs,hd=>cases hs;cases hd;exact Et (L:=b.worth) (by simp only [AA,reduceIte,Nat.reduceEqDiff,List.take_length]<;>rfl) trivial rfl (fun _=>trivial))
end Go.Ab.Tryz
