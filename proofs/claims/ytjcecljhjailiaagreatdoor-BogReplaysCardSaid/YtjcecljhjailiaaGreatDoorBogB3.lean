/- The functions of the bog laws: cuttings, part 13. The walks are written by wip/gen/gw.py. -/
import Derived.Test.YtjcecljhjailiaaGreatDoorBogG21
import Derived.Test.YtjcecljhjailiaaGreatDoorBogG07
set_option linter.all false
namespace Go.Ab.Tryz
open Go Go.Ab Go.Proofs Go.Ab.Ci Go.Ab.Gx
open Go.Ab.Heap (Az Ah BZ)
structure RInv (B:Tx) (out:List Tx) (s:Nat) (R:Tx):Prop where
 eq:Aq 100 0 B=(out ++ (Aq (100 - out.length) s R).1,(Aq (100 - out.length) s R).2)
 le:out.length <= 100
 rl:R.length <= B.length
 sl:s < 1000003
theorem RInv.start (B:Tx):RInv B [] 0 B:=⟨by simp,by simp,Nat.le_refl _,by decide⟩
theorem RInv.stop {B:Tx} {out:List Tx} {s:Nat} {R:Tx} (h:RInv B out s R) (hf:100 <= out.length \/ Eo s R=none):Aq 100 0 B=(out,R):=by
 have e:Aq (100 - out.length) s R=([],R):=by
  rcases hf with h1 | h1
  ·rw [show 100 - out.length=0 by omega];rfl
  ·cases 100 - out.length with
   | zero=>rfl
   | succ f=>simp only [Aq,h1]
 rw [h.eq,e];simp
theorem RInv.next {B:Tx} {out:List Tx} {s:Nat} {R:Tx} (h:RInv B out s R) (hl:out.length < 100) {o:Tx} {s':Nat} {R':Tx} (hr:Eo s R=some (o,s',R')):RInv B (out ++ [o]) s' R':=by
 obtain ⟨h1,h2,h3⟩:=rd_some hr
 refine ⟨?_,by simp;omega,?_,by rw [h2];exact Fa h.sl o⟩
 ·rw [h.eq]
  obtain ⟨f,hf⟩:∃ f,100 - out.length=f+1:=⟨99 - out.length,by omega⟩
  rw [hf,show 100 - (out ++ [o]).length=f by simp;omega]
  simp only [Aq,hr,List.append_assoc,List.cons_append,List.nil_append]
 ·have:=h.rl
  rw [h3] at this
  simp only [List.length_append] at this
  omega
theorem FE {s:Nat} {R:Tx} (h:(tw 10 R).length=R.length):Eo s R=none:=by unfold Eo;rw [if_pos (.inl h)]
theorem FD {s:Nat} {R:Tx} (h:(tw 32 (tw 10 R)).length=(tw 10 R).length):Eo s R=none:=by unfold Eo;rw [if_pos (.inr h)]
theorem mF {s:Nat} {R:Tx} (h:FH ((tw 10 R).drop ((tw 32 (tw 10 R)).length+1))=false):Eo s R=none:=by
 unfold Eo
 split
 ·rfl
 ·rfl
theorem mD {s:Nat} {R:Tx} (h:¬ dd (Cj s ((tw 10 R).drop ((tw 32 (tw 10 R)).length+1)))=tw 32 (tw 10 R)):Eo s R=none:=by
 unfold Eo
 split
 ·rfl
 ·split
  ·rfl
  ·rfl
theorem lu {s:Nat} {R:Tx} (h1:(tw 10 R).length < R.length) (h2:(tw 32 (tw 10 R)).length < (tw 10 R).length) (h3:FH ((tw 10 R).drop ((tw 32 (tw 10 R)).length+1))=true) (h4:dd (Cj s ((tw 10 R).drop ((tw 32 (tw 10 R)).length+1)))=tw 32 (tw 10 R)) :
  Eo s R=some ((tw 10 R).drop ((tw 32 (tw 10 R)).length+1),Cj s ((tw 10 R).drop ((tw 32 (tw 10 R)).length+1)),R.drop ((tw 10 R).length+1)):=by
 unfold Eo
 rw [if_neg (by omega),if_neg (by rw [h3];decide),if_pos h4]
theorem Mr {s:Nat} {X:Tx} (h2:(tw 32 X).length < X.length):(Fq s (X.drop ((tw 32 X).length+1))=X ++ [10]) ↔ dd (Cj s (X.drop ((tw 32 X).length+1)))=tw 32 X:=by
 have e:=Ir 32 h2
 generalize hY:X.drop ((tw 32 X).length+1)=Y at *
 unfold Fq
 refine ⟨fun h=>?_,fun h=>?_⟩
 ·rw [e] at h
  have h':dd (Cj s Y) ++ (32 :: (Y ++ [10]))=tw 32 X ++ (32 :: (Y ++ [10])):=by simpa using h
  exact List.append_cancel_right h'
 ·rw [h]
  conv=>rhs;rw [e]
  simp
theorem Ov {c:UInt8} {T:Tx} (h:(Lib.cut T [c]).2.2=true):(tw c T).length < T.length /\ Lib.cut T [c]=(tw c T,T.drop ((tw c T).length+1),true):=by
 rw [Xl] at h ⊢
 split
 ·rename_i h1;exact ⟨h1,rfl⟩
 ·rename_i h1;rw [if_neg h1] at h;cases h
theorem qJ {c:UInt8} {T:Tx} (h:(Lib.cut T [c]).2.2=false):(tw c T).length=T.length:=by
 rw [Xl] at h
 have:=I4 c T
 split at h
 ·cases h
 ·omega
theorem vV (c:UInt8) (T:Tx):(Lib.cut T [c]).1.length <= T.length:=by
 rw [Xl]
 have:=I4 c T
 split<;>simp<;>omega
theorem vU (c:UInt8) (T:Tx):(Lib.cut T [c]).2.1.length <= T.length:=by
 rw [Xl]
 split<;>simp
def Nb (R:Tx):Tx:=(Lib.cut R [10]).1
def KU (R:Tx):Tx:=(Lib.cut (Nb R) [32]).2.1
theorem gP (R:Tx):(Nb R).length <= R.length:=vV 10 R
theorem sV (R:Tx):(KU R).length <= R.length:=Nat.le_trans (vU 32 (Nb R)) (gP R)
theorem mJ {s:Nat} {R:Tx} (h:(Lib.cut R [10]).2.2=false):Eo s R=none:=FE (qJ h)
theorem Na {R:Tx} (h:(Lib.cut R [10]).2.2=true):Nb R=tw 10 R:=by unfold Nb;rw [(Ov h).2]
theorem mH {s:Nat} {R:Tx} (h1:(Lib.cut R [10]).2.2=true) (h2:(Lib.cut (Nb R) [32]).2.2=false):Eo s R=none:=by
 rw [Na h1] at h2
 exact FD (qJ h2)
theorem X9 {R:Tx} (h1:(Lib.cut R [10]).2.2=true) (h2:(Lib.cut (Nb R) [32]).2.2=true):KU R=(tw 10 R).drop ((tw 32 (tw 10 R)).length+1):=by
 unfold KU
 rw [(Ov h2).2,Na h1]
theorem rd_c {s:Nat} {R:Tx} (h1:(Lib.cut R [10]).2.2=true) (h2:(Lib.cut (Nb R) [32]).2.2=true) (h3:FH (KU R)=false):Eo s R=none:=by
 rw [X9 h1 h2] at h3
 exact mF h3
theorem mG {s:Nat} {R:Tx} (h1:(Lib.cut R [10]).2.2=true) (h2:(Lib.cut (Nb R) [32]).2.2=true) (h4:¬ Fq s (KU R)=Nb R ++ [10]):Eo s R=none:=by
 have h5:=(Ov h2).1
 rw [Na h1] at h5
 rw [X9 h1 h2,Na h1,Mr h5] at h4
 exact mD h4
theorem rd_e {s:Nat} {R:Tx} (h1:(Lib.cut R [10]).2.2=true) (h2:(Lib.cut (Nb R) [32]).2.2=true) (h3:FH (KU R)=true) (h4:Fq s (KU R)=Nb R ++ [10]) :
  Eo s R=some (KU R,Cj s (KU R),R.drop (Fq s (KU R)).length) /\ (Fq s (KU R)).length <= R.length:=by
 have h5:=(Ov h2).1
 have h6:=(Ov h1).1
 have h7:(Fq s (KU R)).length=(tw 10 R).length+1:=by rw [h4,Na h1];simp
 rw [Na h1] at h5
 rw [h7]
 rw [X9 h1 h2,Na h1,Mr h5] at h4
 rw [X9 h1 h2] at h3 ⊢
 exact ⟨lu h6 h5 h3 h4,by omega⟩
set_option maxHeartbeats 1000000 in
theorem f36 (B:Tx) (hB:B.length < 2000000):AR Tryz.prog 36 [CY B] (.many [rX (Aq 100 0 B).1,.dv (CY (Aq 100 0 B).2)]):=by
 refine Bu Tryz.func36 rfl rfl (by rw [Tryz.ntmps36];simp) fun cx hP hn hg=>?_
 rw [Tryz.ntmps36] at hn
 rw [Bq,Bp]
 simp only [List.nil_append,List.append_nil,List.cons_append,BF,Nat.reduceAdd]
 refine sg ?_
 iterate 2 refine qv A9 ?_
 refine sg ?_
 refine qv A9 ?_
 refine sg ?_
 refine qv A9 ?_
 refine AJ ?_
 refine BD ?_
 refine Ag (ι:=List Tx × Nat × Tx) (fun s=>⟨lk [(0,.dv (CY s.2.2)),(4,.sl 4 0 0 ((s.1).length)),(5,.dv (i64 (s.2.1:Nat)))],AA [(4,0,some (LD s.1))]⟩) (fun s=>RInv B s.1 s.2.1 s.2.2) (fun s=>100 - s.1.length) ([],0,B) (RInv.start B) (tl [] (hF:=by simp [Ck,Aa,lk,AA,isLive,Ac,CR]) (hM:=by simp [CV,Al,Aa,Ae,lk,AA,isLive,Ac,BK,BJ,Af,BI,BL,BO,BM,BN,CR])) ?_
 intro ⟨out,sm,R⟩ Aj
 dsimp only at Aj ⊢
 have hle:=Aj.le
 have hrl:=Aj.rl
 have hsl:=Aj.sl
 have hs0:=KO hsl
 have hfl:=gP R
 have hol:=sV R
 refine AJ ?_
 refine sg ?_
 refine qv A8 ?_
 refine qv (Cg Dg) ?_
 refine qv BQ ?_
 refine cd (fun hc0=>?_) (fun hc0=>?_)
 ·try simp at hc0
  refine AY ?_
  refine BD ?_
  refine sg ?_
  have ho:out.length < 100:=by omega
  refine qv A8 ?_
  refine Bo (f83 R [10] (by omega)) ?_
  refine qv A8 ?_
  rw [show (Lib.cut R [10]).1=Nb R from rfl]
  iterate 3 refine qv Bf ?_
  iterate 3 refine qv A9 ?_
  refine sg ?_
  refine qv A8 ?_
  refine Bo (f83 (Nb R) [32] (by omega)) ?_
  refine qv A8 ?_
  rw [show (Lib.cut (Nb R) [32]).2.1=KU R from rfl]
  iterate 3 refine qv Bf ?_
  iterate 3 refine qv A9 ?_
  refine AJ ?_
  refine sg ?_
  refine qv A8 ?_
  refine qv Bn ?_
  refine qx A8 (fun XV=>?_) (fun XV=>?_)
  ·try simp at XV
   iterate 2 refine qk ?_
   refine qv Ai ?_
   refine qv A8 ?_
   iterate 3 refine qk ?_
   refine qv Ai ?_
   refine Dw (hb:=by first | rfl | simp | simp_all) (ht:=?_)
   refine Ad ?_
   refine AJ ?_
   have hdn:Aq 100 0 B=(out,R):=by
    first
    | exact Aj.stop (.inl (by omega))
    | exact Aj.stop (.inr (mJ (by assumption)))
    | exact Aj.stop (.inr (mH (by assumption) (by assumption)))
    | exact Aj.stop (.inr (rd_c (by assumption) (by assumption) (by assumption)))
    | exact Aj.stop (.inr (mG (by assumption) (by assumption) (by assumption)))
   refine rg ?_
   iterate 2 refine qv A8 ?_
   iterate 2 refine qv A9 ?_
   refine AP ?_
   exact x2 (hr:=(Un (by rw [hdn]))) (hr':=(Nw (by rw [hdn])))
  ·try simp at XV
   refine qv A8 ?_
   refine qv Bn ?_
   refine qv Ai ?_
   refine qx A8 (fun bY=>?_) (fun bY=>?_)
   ·try simp at bY
    iterate 3 refine qk ?_
    refine qv Ai ?_
    refine Dw (hb:=by first | rfl | simp | simp_all) (ht:=?_)
    refine Ad ?_
    refine AJ ?_
    have hdn:Aq 100 0 B=(out,R):=by
     first
     | exact Aj.stop (.inl (by omega))
     | exact Aj.stop (.inr (mJ (by assumption)))
     | exact Aj.stop (.inr (mH (by assumption) (by assumption)))
     | exact Aj.stop (.inr (rd_c (by assumption) (by assumption) (by assumption)))
     | exact Aj.stop (.inr (mG (by assumption) (by assumption) (by assumption)))
    refine rg ?_
    iterate 2 refine qv A8 ?_
    iterate 2 refine qv A9 ?_
    refine AP ?_
    exact x2 (hr:=(Un (by rw [hdn]))) (hr':=(Nw (by rw [hdn])))
   ·try simp at bY
    refine qv A8 ?_
    refine Bo (f84 (KU R) (by omega)) ?_
    refine qv Bn ?_
    refine qv Ai ?_
    refine cd (fun hc1=>?_) (fun hc1=>?_)
    ·try simp at hc1
     refine Ad ?_
     refine AJ ?_
     have hdn:Aq 100 0 B=(out,R):=by
      first
      | exact Aj.stop (.inl (by omega))
      | exact Aj.stop (.inr (mJ (by assumption)))
      | exact Aj.stop (.inr (mH (by assumption) (by assumption)))
      | exact Aj.stop (.inr (rd_c (by assumption) (by assumption) (by assumption)))
      | exact Aj.stop (.inr (mG (by assumption) (by assumption) (by assumption)))
     refine rg ?_
     iterate 2 refine qv A8 ?_
     iterate 2 refine qv A9 ?_
     refine AP ?_
     exact x2 (hr:=(Un (by rw [hdn]))) (hr':=(Nw (by rw [hdn])))
    ·try simp at hc1
     refine AY ?_
     refine sg ?_
     iterate 2 refine qv A8 ?_
     refine Bo (f85 (sm:Nat) (KU R) (by omega)) ?_
     refine qv A8 ?_
     rw [hs0]
     iterate 2 refine qv Bf ?_
     iterate 2 refine qv A9 ?_
     refine AJ ?_
     refine sg ?_
     iterate 2 refine qv A8 ?_
     refine qv Yz ?_
     refine qv K4 ?_
     refine cd (fun hc2=>?_) (fun hc2=>?_)
     ·try simp at hc2
      refine Ad ?_
      refine AJ ?_
      have hdn:Aq 100 0 B=(out,R):=by
       first
       | exact Aj.stop (.inl (by omega))
       | exact Aj.stop (.inr (mJ (by assumption)))
       | exact Aj.stop (.inr (mH (by assumption) (by assumption)))
       | exact Aj.stop (.inr (rd_c (by assumption) (by assumption) (by assumption)))
       | exact Aj.stop (.inr (mG (by assumption) (by assumption) (by assumption)))
      refine rg ?_
      iterate 2 refine qv A8 ?_
      iterate 2 refine qv A9 ?_
      refine AP ?_
      exact x2 (hr:=(Un (by rw [hdn]))) (hr':=(Nw (by rw [hdn])))
     ·try simp at hc2
      obtain ⟨hre,hll⟩:=rd_e (s:=sm) (by assumption) (by assumption) (by assumption) (by simpa using hc2)
      have hnx:=Aj.next ho hre
      refine AY ?_
      refine rd mixed ?_
      iterate 2 refine zv A8 ?_
      refine zr (D7 CF KL DZ) ?_
      refine za1 (DK CF CF KL DZ WQ (hc:=El)) ?_
      iterate 3 refine zv A8 ?_
      refine zv (Dr IC) ?_
      refine zv (F4 (Fq sm (KU R)).length R.length IC hll (Nat.le_refl _)) ?_
      iterate 3 refine zv A9 ?_
      refine ⟨by rfl,?_⟩
      exact ⟨(out ++ [KU R],Cj sm (KU R),R.drop (Fq sm (KU R)).length),hnx,(by simp;omega),(tl [(4,53)] (hF:=by simp [Ck,Aa,lk,AA,isLive,Ac,CR]) (hM:=by simp [CV,Al,Aa,Ae,lk,AA,isLive,Ac,BK,BJ,Af,BI,BL,BO,BM,BN,CR]))⟩
 ·try simp at hc0
  refine Ad ?_
  refine AJ ?_
  have hdn:Aq 100 0 B=(out,R):=by
   first
   | exact Aj.stop (.inl (by omega))
   | exact Aj.stop (.inr (mJ (by assumption)))
   | exact Aj.stop (.inr (mH (by assumption) (by assumption)))
   | exact Aj.stop (.inr (rd_c (by assumption) (by assumption) (by assumption)))
   | exact Aj.stop (.inr (mG (by assumption) (by assumption) (by assumption)))
  refine rg ?_
  iterate 2 refine qv A8 ?_
  iterate 2 refine qv A9 ?_
  refine AP ?_
  exact x2 (hr:=(Un (by rw [hdn]))) (hr':=(Nw (by rw [hdn])))
end Go.Ab.Tryz
