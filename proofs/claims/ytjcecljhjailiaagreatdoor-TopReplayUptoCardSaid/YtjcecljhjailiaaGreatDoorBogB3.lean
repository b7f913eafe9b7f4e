/- The functions of the bog laws: cuttings, part 13. The walks are written by wip/gen/gw.py. -/
import Derived.Test.YtjcecljhjailiaaGreatDoorBogG21
import Derived.Test.YtjcecljhjailiaaGreatDoorBogG07
set_option linter.all false
namespace Go.Ab.Tryz
open Go Go.Ab Go.Proofs Go.Ab.Ck Go.Ab.Gi
open Go.Ab.Heap (Az Ap BX)
structure RInv (B:Tx) (out:List Tx) (s:Nat) (R:Tx):Prop where
 eq:Ak 100 0 B=(out ++ (Ak (100 - out.length) s R).1,(Ak (100 - out.length) s R).2)
 le:out.length <= 100
 rl:R.length <= B.length
 sl:s < 1000003
theorem RInv.start (B:Tx):RInv B [] 0 B:=⟨by simp,by simp,Nat.le_refl _,by decide⟩
theorem RInv.stop {B:Tx} {out:List Tx} {s:Nat} {R:Tx} (h:RInv B out s R) (hf:100 <= out.length \/ ET s R=none):Ak 100 0 B=(out,R):=by
 have e:Ak (100 - out.length) s R=([],R):=by
  rcases hf with h1 | h1
  ·rw [show 100 - out.length=0 by omega];rfl
  ·cases 100 - out.length with
   | zero=>rfl
   | succ f=>simp only [Ak,h1]
 rw [h.eq,e];simp
theorem RInv.next {B:Tx} {out:List Tx} {s:Nat} {R:Tx} (h:RInv B out s R) (hl:out.length < 100) {o:Tx} {s':Nat} {R':Tx} (hr:ET s R=some (o,s',R')):RInv B (out ++ [o]) s' R':=by
 obtain ⟨h1,h2,h3⟩:=rd_some hr
 refine ⟨?_,by simp;omega,?_,by rw [h2];exact Gl h.sl o⟩
 ·rw [h.eq]
  obtain ⟨f,hf⟩:∃ f,100 - out.length=f+1:=⟨99 - out.length,by omega⟩
  rw [hf,show 100 - (out ++ [o]).length=f by simp;omega]
  simp only [Ak,hr,List.append_assoc,List.cons_append,List.nil_append]
 ·have:=h.rl
  rw [h3] at this
  simp only [List.length_append] at this
  omega
theorem vE {s:Nat} {R:Tx} (h:(tw 10 R).length=R.length):ET s R=none:=by unfold ET;rw [if_pos (.inl h)]
theorem vD {s:Nat} {R:Tx} (h:(tw 32 (tw 10 R)).length=(tw 10 R).length):ET s R=none:=by unfold ET;rw [if_pos (.inr h)]
theorem vC {s:Nat} {R:Tx} (h:Es ((tw 10 R).drop ((tw 32 (tw 10 R)).length+1))=false):ET s R=none:=by
 unfold ET
 split
 ·rfl
 ·rfl
theorem vB {s:Nat} {R:Tx} (h:¬ dd (Cn s ((tw 10 R).drop ((tw 32 (tw 10 R)).length+1)))=tw 32 (tw 10 R)):ET s R=none:=by
 unfold ET
 split
 ·rfl
 ·split
  ·rfl
  ·rfl
theorem uz {s:Nat} {R:Tx} (h1:(tw 10 R).length < R.length) (h2:(tw 32 (tw 10 R)).length < (tw 10 R).length) (h3:Es ((tw 10 R).drop ((tw 32 (tw 10 R)).length+1))=true) (h4:dd (Cn s ((tw 10 R).drop ((tw 32 (tw 10 R)).length+1)))=tw 32 (tw 10 R)) :
  ET s R=some ((tw 10 R).drop ((tw 32 (tw 10 R)).length+1),Cn s ((tw 10 R).drop ((tw 32 (tw 10 R)).length+1)),R.drop ((tw 10 R).length+1)):=by
 unfold ET
 rw [if_neg (by omega),if_neg (by rw [h3];decide),if_pos h4]
theorem LH {s:Nat} {X:Tx} (h2:(tw 32 X).length < X.length):(Dl s (X.drop ((tw 32 X).length+1))=X ++ [10]) ↔ dd (Cn s (X.drop ((tw 32 X).length+1)))=tw 32 X:=by
 have e:=He 32 h2
 generalize hY:X.drop ((tw 32 X).length+1)=Y at *
 unfold Dl
 refine ⟨fun h=>?_,fun h=>?_⟩
 ·rw [e] at h
  have h':dd (Cn s Y) ++ (32 :: (Y ++ [10]))=tw 32 X ++ (32 :: (Y ++ [10])):=by simpa using h
  exact List.append_cancel_right h'
 ·rw [h]
  conv=>rhs;rw [e]
  simp
theorem NZ {c:UInt8} {T:Tx} (h:(Lib.cut T [c]).2.2=true):(tw c T).length < T.length /\ Lib.cut T [c]=(tw c T,T.drop ((tw c T).length+1),true):=by
 rw [VN] at h ⊢
 split
 ·rename_i h1;exact ⟨h1,rfl⟩
 ·rename_i h1;rw [if_neg h1] at h;cases h
theorem lX {c:UInt8} {T:Tx} (h:(Lib.cut T [c]).2.2=false):(tw c T).length=T.length:=by
 rw [VN] at h
 have:=QA c T
 split at h
 ·cases h
 ·omega
theorem rP (c:UInt8) (T:Tx):(Lib.cut T [c]).1.length <= T.length:=by
 rw [VN]
 have:=QA c T
 split<;>simp<;>omega
theorem rO (c:UInt8) (T:Tx):(Lib.cut T [c]).2.1.length <= T.length:=by
 rw [VN]
 split<;>simp
def M4 (R:Tx):Tx:=(Lib.cut R [10]).1
def Jc (R:Tx):Tx:=(Lib.cut (M4 R) [32]).2.1
theorem ak (R:Tx):(M4 R).length <= R.length:=rP 10 R
theorem oI (R:Tx):(Jc R).length <= R.length:=Nat.le_trans (rO 32 (M4 R)) (ak R)
theorem j6 {s:Nat} {R:Tx} (h:(Lib.cut R [10]).2.2=false):ET s R=none:=vE (lX h)
theorem Lx {R:Tx} (h:(Lib.cut R [10]).2.2=true):M4 R=tw 10 R:=by unfold M4;rw [(NZ h).2]
theorem j5 {s:Nat} {R:Tx} (h1:(Lib.cut R [10]).2.2=true) (h2:(Lib.cut (M4 R) [32]).2.2=false):ET s R=none:=by
 rw [Lx h1] at h2
 exact vD (lX h2)
theorem Ut {R:Tx} (h1:(Lib.cut R [10]).2.2=true) (h2:(Lib.cut (M4 R) [32]).2.2=true):Jc R=(tw 10 R).drop ((tw 32 (tw 10 R)).length+1):=by
 unfold Jc
 rw [(NZ h2).2,Lx h1]
theorem rd_c {s:Nat} {R:Tx} (h1:(Lib.cut R [10]).2.2=true) (h2:(Lib.cut (M4 R) [32]).2.2=true) (h3:Es (Jc R)=false):ET s R=none:=by
 rw [Ut h1 h2] at h3
 exact vC h3
theorem j4 {s:Nat} {R:Tx} (h1:(Lib.cut R [10]).2.2=true) (h2:(Lib.cut (M4 R) [32]).2.2=true) (h4:¬ Dl s (Jc R)=M4 R ++ [10]):ET s R=none:=by
 have h5:=(NZ h2).1
 rw [Lx h1] at h5
 rw [Ut h1 h2,Lx h1,LH h5] at h4
 exact vB h4
theorem rd_e {s:Nat} {R:Tx} (h1:(Lib.cut R [10]).2.2=true) (h2:(Lib.cut (M4 R) [32]).2.2=true) (h3:Es (Jc R)=true) (h4:Dl s (Jc R)=M4 R ++ [10]) :
  ET s R=some (Jc R,Cn s (Jc R),R.drop (Dl s (Jc R)).length) /\ (Dl s (Jc R)).length <= R.length:=by
 have h5:=(NZ h2).1
 have h6:=(NZ h1).1
 have h7:(Dl s (Jc R)).length=(tw 10 R).length+1:=by rw [h4,Lx h1];simp
 rw [Lx h1] at h5
 rw [h7]
 rw [Ut h1 h2,Lx h1,LH h5] at h4
 rw [Ut h1 h2] at h3 ⊢
 exact ⟨uz h6 h5 h3 h4,by omega⟩
set_option maxHeartbeats 1000000 in
theorem f36 (B:Tx) (hB:B.length < 2000000):AR Tryz.prog 36 [Cg B] (.many [rX (Ak 100 0 B).1,.dv (Cg (Ak 100 0 B).2)]):=by
 refine Bv Tryz.func36 rfl rfl (by rw [Tryz.ntmps36];simp) fun cx hP hn hg=>?_
 rw [Tryz.ntmps36] at hn
 rw [Br,Bq]
 simp only [List.nil_append,List.append_nil,List.cons_append,BH,Nat.reduceAdd]
 refine sg ?_
 iterate 2 refine qv A9 ?_
 refine sg ?_
 refine qv A9 ?_
 refine sg ?_
 refine qv A9 ?_
 refine AL ?_
 refine BI ?_
 refine Ao (ι:=List Tx × Nat × Tx) (fun s=>⟨lk [(0,.dv (Cg s.2.2)),(4,.sl 4 0 0 ((s.1).length)),(5,.dv (i64 (s.2.1:Nat)))],AA [(4,0,some (Jz s.1))]⟩) (fun s=>RInv B s.1 s.2.1 s.2.2) (fun s=>100 - s.1.length) ([],0,B) (RInv.start B) (tl [] (hF:=by simp [DK,AX,lk,AA,isLive,AZ,CW]) (hM:=by simp [Cm,Ar,AX,Aa,lk,AA,isLive,AZ,BO,BN,Al,BL,BP,BS,BQ,BR,CW])) ?_
 intro ⟨out,sm,R⟩ BM
 dsimp only at BM ⊢
 have hle:=BM.le
 have hrl:=BM.rl
 have hsl:=BM.sl
 have hs0:=LX hsl
 have hfl:=ak R
 have hol:=oI R
 refine AL ?_
 refine sg ?_
 refine qv A8 ?_
 refine qv (CZ Ce) ?_
 refine qv BK ?_
 refine cd (fun hc0=>?_) (fun hc0=>?_)
 ·try simp at hc0
  refine Af ?_
  refine BI ?_
  refine sg ?_
  have ho:out.length < 100:=by omega
  refine qv A8 ?_
  refine CF (f83 R [10] (by omega)) ?_
  refine qv A8 ?_
  rw [show (Lib.cut R [10]).1=M4 R from rfl]
  iterate 3 refine qv BZ ?_
  iterate 3 refine qv A9 ?_
  refine sg ?_
  refine qv A8 ?_
  refine CF (f83 (M4 R) [32] (by omega)) ?_
  refine qv A8 ?_
  rw [show (Lib.cut (M4 R) [32]).2.1=Jc R from rfl]
  iterate 3 refine qv BZ ?_
  iterate 3 refine qv A9 ?_
  refine AL ?_
  refine sg ?_
  refine qv A8 ?_
  refine qv CP ?_
  refine qx A8 (fun J3=>?_) (fun J3=>?_)
  ·try simp at J3
   iterate 2 refine qk ?_
   refine qv Ae ?_
   refine qv A8 ?_
   iterate 3 refine qk ?_
   refine qv Ae ?_
   refine G5 (hb:=by first | rfl | simp | simp_all) (ht:=?_)
   refine Ai ?_
   refine AL ?_
   have hdn:Ak 100 0 B=(out,R):=by
    first
    | exact BM.stop (.inl (by omega))
    | exact BM.stop (.inr (j6 (by assumption)))
    | exact BM.stop (.inr (j5 (by assumption) (by assumption)))
    | exact BM.stop (.inr (rd_c (by assumption) (by assumption) (by assumption)))
    | exact BM.stop (.inr (j4 (by assumption) (by assumption) (by assumption)))
   refine rg ?_
   iterate 2 refine qv A8 ?_
   iterate 2 refine qv A9 ?_
   refine AV ?_
   exact x2 (hr:=(zC (by rw [hdn]))) (hr':=(Uq (by rw [hdn])))
  ·try simp at J3
   refine qv A8 ?_
   refine qv CP ?_
   refine qv Ae ?_
   refine qx A8 (fun ZC=>?_) (fun ZC=>?_)
   ·try simp at ZC
    iterate 3 refine qk ?_
    refine qv Ae ?_
    refine G5 (hb:=by first | rfl | simp | simp_all) (ht:=?_)
    refine Ai ?_
    refine AL ?_
    have hdn:Ak 100 0 B=(out,R):=by
     first
     | exact BM.stop (.inl (by omega))
     | exact BM.stop (.inr (j6 (by assumption)))
     | exact BM.stop (.inr (j5 (by assumption) (by assumption)))
     | exact BM.stop (.inr (rd_c (by assumption) (by assumption) (by assumption)))
     | exact BM.stop (.inr (j4 (by assumption) (by assumption) (by assumption)))
    refine rg ?_
    iterate 2 refine qv A8 ?_
    iterate 2 refine qv A9 ?_
    refine AV ?_
    exact x2 (hr:=(zC (by rw [hdn]))) (hr':=(Uq (by rw [hdn])))
   ·try simp at ZC
    refine qv A8 ?_
    refine CF (f84 (Jc R) (by omega)) ?_
    refine qv CP ?_
    refine qv Ae ?_
    refine cd (fun hc1=>?_) (fun hc1=>?_)
    ·try simp at hc1
     refine Ai ?_
     refine AL ?_
     have hdn:Ak 100 0 B=(out,R):=by
      first
      | exact BM.stop (.inl (by omega))
      | exact BM.stop (.inr (j6 (by assumption)))
      | exact BM.stop (.inr (j5 (by assumption) (by assumption)))
      | exact BM.stop (.inr (rd_c (by assumption) (by assumption) (by assumption)))
      | exact BM.stop (.inr (j4 (by assumption) (by assumption) (by assumption)))
     refine rg ?_
     iterate 2 refine qv A8 ?_
     iterate 2 refine qv A9 ?_
     refine AV ?_
     exact x2 (hr:=(zC (by rw [hdn]))) (hr':=(Uq (by rw [hdn])))
    ·try simp at hc1
     refine Af ?_
     refine sg ?_
     iterate 2 refine qv A8 ?_
     refine CF (f85 (sm:Nat) (Jc R) (by omega)) ?_
     refine qv A8 ?_
     rw [hs0]
     iterate 2 refine qv BZ ?_
     iterate 2 refine qv A9 ?_
     refine AL ?_
     refine sg ?_
     iterate 2 refine qv A8 ?_
     refine qv Wq ?_
     refine qv DY ?_
     refine cd (fun hc2=>?_) (fun hc2=>?_)
     ·try simp at hc2
      refine Ai ?_
      refine AL ?_
      have hdn:Ak 100 0 B=(out,R):=by
       first
       | exact BM.stop (.inl (by omega))
       | exact BM.stop (.inr (j6 (by assumption)))
       | exact BM.stop (.inr (j5 (by assumption) (by assumption)))
       | exact BM.stop (.inr (rd_c (by assumption) (by assumption) (by assumption)))
       | exact BM.stop (.inr (j4 (by assumption) (by assumption) (by assumption)))
      refine rg ?_
      iterate 2 refine qv A8 ?_
      iterate 2 refine qv A9 ?_
      refine AV ?_
      exact x2 (hr:=(zC (by rw [hdn]))) (hr':=(Uq (by rw [hdn])))
     ·try simp at hc2
      obtain ⟨hre,hll⟩:=rd_e (s:=sm) (by assumption) (by assumption) (by assumption) (by simpa using hc2)
      have hnx:=BM.next ho hre
      refine Af ?_
      refine rd mixed ?_
      iterate 2 refine zv A8 ?_
      refine zr (FV CS YQ Dh) ?_
      refine za1 (Iu CS CS YQ Dh uI (hc:=MP)) ?_
      iterate 3 refine zv A8 ?_
      refine zv (EH K4) ?_
      refine zv (Fz (Dl sm (Jc R)).length R.length K4 hll (Nat.le_refl _)) ?_
      iterate 3 refine zv A9 ?_
      refine ⟨by rfl,?_⟩
      exact ⟨(out ++ [Jc R],Cn sm (Jc R),R.drop (Dl sm (Jc R)).length),hnx,(by simp;omega),(tl [(4,53)] (hF:=by simp [DK,AX,lk,AA,isLive,AZ,CW]) (hM:=by simp [Cm,Ar,AX,Aa,lk,AA,isLive,AZ,BO,BN,Al,BL,BP,BS,BQ,BR,CW]))⟩
 ·try simp at hc0
  refine Ai ?_
  refine AL ?_
  have hdn:Ak 100 0 B=(out,R):=by
   first
   | exact BM.stop (.inl (by omega))
   | exact BM.stop (.inr (j6 (by assumption)))
   | exact BM.stop (.inr (j5 (by assumption) (by assumption)))
   | exact BM.stop (.inr (rd_c (by assumption) (by assumption) (by assumption)))
   | exact BM.stop (.inr (j4 (by assumption) (by assumption) (by assumption)))
  refine rg ?_
  iterate 2 refine qv A8 ?_
  iterate 2 refine qv A9 ?_
  refine AV ?_
  exact x2 (hr:=(zC (by rw [hdn]))) (hr':=(Uq (by rw [hdn])))
end Go.Ab.Tryz
