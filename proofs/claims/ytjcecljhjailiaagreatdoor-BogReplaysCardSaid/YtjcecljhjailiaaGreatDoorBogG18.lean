/- BogH3, BogH4, BogH5. -/
import Derived.Test.YtjcecljhjailiaaGreatDoorBogG17
import Derived.Test.YtjcecljhjailiaaGreatDoorBogG07
import Derived.Test.YtjcecljhjailiaaGreatDoorBogG16
set_option linter.all false
namespace Go.Ab.Tryz.H
open Go Go.Ab Go.Ab.Tryz Go.Proofs Go.Ab.Heap
set_option maxHeartbeats 4000000 in
theorem f78 (h:Hp):AR Tryz.prog 78 [Et h] (.one (.dv (i64 (validate h)))):=by
 rw [<- Uq]
 refine Bu Tryz.func78 rfl rfl (by rw [Tryz.ntmps78];simp) fun cx hP hn hg=>?_
 rw [Tryz.ntmps78] at hn
 rw [Bq,Bp]
 simp only [List.nil_append,List.append_nil,List.cons_append,BF,Nat.reduceAdd]
 refine sg ?_
 refine qp BX ?_
 refine qv A9 ?_
 refine sg ?_
 refine qv (AB F6) ?_
 refine qv (AL Av Bl) ?_
 refine qv (BH CZ) ?_
 refine qv A9 ?_
 refine AJ ?_
 refine sg ?_
 refine qv A8 ?_
 refine Bo (f121 (h.ground.length) 1 5) ?_
 refine qv Bn ?_
 refine qx A8 (fun Kc=>?_) (fun Kc=>?_)
 ·try simp at Kc
  iterate 5 refine qk ?_
  refine qv Ai ?_
  refine Dw (hb:=by first | rfl | simp | simp_all) (ht:=?_)
  refine sg ?_
  refine qv A9 ?_
  refine AP ?_
  exact x1 (hr:=(CW (by rw [Iq (dn (by rintro ⟨a,b,c⟩;simp_all [KI];try omega))])))
 ·try simp at Kc
  refine qv (AB EK) ?_
  refine qv (AL DF Da) ?_
  refine qv (BH Ka) ?_
  refine qv A8 ?_
  refine qv BP ?_
  refine qv Ai ?_
  refine cd (fun hc0=>?_) (fun hc0=>?_)
  ·try simp at hc0
   refine sg ?_
   refine qv A9 ?_
   refine AP ?_
   exact x1 (hr:=(CW (by rw [Iq (dn (by rintro ⟨a,b,c⟩;simp_all [KI];try omega))])))
  ·try simp at hc0
   have hn:1 <= h.ground.length /\ h.ground.length <= 5 /\ h.links.length=h.ground.length:=by
    simp only [KI,Bool.and_eq_true,decide_eq_true_eq] at Kc
    exact ⟨by omega,by omega,by omega⟩
   refine AY ?_
   refine AJ ?_
   refine sg ?_
   refine qv A9 ?_
   refine BD ?_
   refine Ag (ι:=Nat) (fun i=>⟨lk [(1,.pt 1 0 0),(3,.dv (i64 ((h.ground.length:Int)))),(4,.dv (i64 (i:Nat)))],AA [(1,0,some ⟨[.dv (.list ((h.links).map ints)),.dv (ints (h.ground))],0,27,0,false⟩)]⟩) (fun i=>i <= h.ground.length /\ ∀ j,j < i -> (IX h j).length=h.ground.length /\ KI (LH h j) 0 2=true) (fun i=>h.ground.length - i) 0 (by simp) (tl [(1,1)]) ?_
   intro i Aj
   refine AJ ?_
   refine sg ?_
   iterate 2 refine qv A8 ?_
   refine qv BQ ?_
   refine cd (fun hc1=>?_) (fun hc1=>?_)
   ·try simp at hc1
    refine AY ?_
    refine AJ ?_
    refine BD ?_
    refine sg ?_
    have hi0:i < h.ground.length:=by omega
    have hgl:=XC hn.2.2 hi0
    have hgg:=Kh hi0
    refine qv (AB EK) ?_
    refine qv (AL DF Da) ?_
    refine qv A8 ?_
    first | refine qv (BA CO Av) ?_ | refine qv (Bd CO Av) ?_
    refine qv (Bb Av Bl) ?_
    refine qv (BH CZ) ?_
    refine qv A8 ?_
    refine qv BP ?_
    refine qx A8 (fun XU=>?_) (fun XU=>?_)
    ·try simp at XU
     iterate 7 refine qk ?_
     refine qv Ai ?_
     refine Dw (hb:=by first | rfl | simp | simp_all) (ht:=?_)
     refine sg ?_
     refine qv A9 ?_
     refine AP ?_
     exact x1 (hr:=(CW (by rw [Iq (by first | exact Wj hi0 (by exact_mod_cast XU) | exact O0 hi0 (by simp_all [IV]))])))
    ·try simp at XU
     refine qv (AB F6) ?_
     refine qv (AL Av Bl) ?_
     refine qv A8 ?_
     first | refine qv (BA Ap Ak) ?_ | refine qv (Bd Ap Ak) ?_
     refine qv (Bb Ak Br) ?_
     refine Bo (f121 (LH h i) 0 2) ?_
     refine qv Bn ?_
     refine qv Ai ?_
     refine cd (fun hc2=>?_) (fun hc2=>?_)
     ·try simp at hc2
      refine sg ?_
      refine qv A9 ?_
      refine AP ?_
      exact x1 (hr:=(CW (by rw [Iq (by first | exact Wj hi0 (by exact_mod_cast XU) | exact O0 hi0 (by simp_all [IV]))])))
     ·try simp at hc2
      have hln:(IX h i).length=h.ground.length:=by exact_mod_cast XU
      refine AY ?_
      refine rg ?_
      refine qv A8 ?_
      refine qv Am ?_
      refine qv A9 ?_
      refine ⟨i+1,?_,(by simp only;omega),(tl [(1,1)])⟩
      refine ⟨by omega,fun j hj=>?_⟩
      rcases Nat.lt_or_ge j i with h1 | h1
      ·exact Aj.2 j h1
      ·obtain rfl:j=i:=by omega
       exact ⟨hln,by simpa using hc2⟩
   ·try simp at hc1
    have hrow:∀ j,j < h.ground.length -> (IX h j).length=h.ground.length:=fun j hj=>(Aj.2 j (by omega)).1
    have hgnd:∀ j,j < h.ground.length -> KI (LH h j) 0 2=true:=fun j hj=>(Aj.2 j (by omega)).2
    refine Ad ?_
    refine AJ ?_
    refine sg ?_
    refine qv A9 ?_
    refine BD ?_
    refine Ag (ι:=Nat) (fun i=>⟨lk [(1,.pt 1 0 0),(3,.dv (i64 ((h.ground.length:Int)))),(5,.dv (i64 (i:Nat)))],AA [(1,0,some ⟨[.dv (.list ((h.links).map ints)),.dv (ints (h.ground))],0,27,0,false⟩)]⟩) (fun i=>i <= h.ground.length /\ ∀ j,j < i -> ∀ k,k < h.ground.length -> FN h j k=true /\ (j=k -> IY h j k=0)) (fun i=>h.ground.length - i) 0 (by simp) (tl [(1,1)]) ?_
    intro i Es
    refine AJ ?_
    refine sg ?_
    skip
    iterate 2 refine qv A8 ?_
    refine qv BQ ?_
    refine cd (fun hc3=>?_) (fun hc3=>?_)
    ·try simp at hc3
     have hi1:i < h.ground.length:=by exact_mod_cast hc3
     have hgl:=XC hn.2.2 hi1
     refine AY ?_
     refine AJ ?_
     refine BD ?_
     refine sg ?_
     refine qv A9 ?_
     refine BD ?_
     refine Ag (ι:=Nat) (fun k=>⟨lk [(1,.pt 1 0 0),(3,.dv (i64 ((h.ground.length:Int)))),(5,.dv (i64 (i:Nat))),(6,.dv (i64 (k:Nat)))],AA [(1,0,some ⟨[.dv (.list ((h.links).map ints)),.dv (ints (h.ground))],0,27,0,false⟩)]⟩) (fun k=>k <= h.ground.length /\ ∀ j,j < k -> FN h i j=true /\ (i=j -> IY h i j=0)) (fun k=>h.ground.length - k) 0 (by simp) (tl [(1,1)]) ?_
     intro k Gy
     refine AJ ?_
     refine sg ?_
     iterate 2 refine qv A8 ?_
     refine qv BQ ?_
     refine cd (fun hc4=>?_) (fun hc4=>?_)
     ·try simp at hc4
      have hk2:k < h.ground.length:=by exact_mod_cast hc4
      have hgk:=XC hn.2.2 hk2
      have hl2:=Qq (hrow i hi1) hk2
      have hl3:=Qq (hrow k hk2) hi1
      refine AY ?_
      refine AJ ?_
      refine BD ?_
      refine AJ ?_
      refine rd mixed ?_
      refine zv (AB EK) ?_
      refine zv (AL DF Da) ?_
      refine zv A8 ?_
      first | refine zv (BA CO Av) ?_ | refine zv (Bd CO Av) ?_
      refine zv (Bb Av Bl) ?_
      refine zv A8 ?_
      first | refine zv (BA Ap Ak) ?_ | refine zv (Bd Ap Ak) ?_
      refine zv (Bb Ak Br) ?_
      refine GA (R:=[]) (f121 (IY h i k) 0 2) ?_
      refine zv Bn ?_
      refine zx A8 (fun IQ=>?_) (fun IQ=>?_)
      ·try simp at IQ
       iterate 17 refine zk ?_
       refine zv Ai ?_
       refine zv A8 ?_
       iterate 14 refine zk ?_
       refine zv Ai ?_
       refine ⟨by rfl,?_⟩
       refine Dw (hb:=by first | rfl | simp | simp_all) (ht:=?_)
       refine sg ?_
       refine qv A9 ?_
       refine AP ?_
       exact x1 (hr:=(CW (by rw [Iq (by first | exact aM hi1 (by omega) XW | exact Nz hi1 hk2 (by first | (simp only [FN,IQ,Bool.false_and];done) | (simp only [FN,Bool.and_eq_false_iff,beq_eq_false_iff_ne];exact .inr (by simpa using ZI))))])))
      ·try simp at IQ
       refine zv (AB EK) ?_
       refine zv (AL DF Da) ?_
       refine zv A8 ?_
       first | refine zv (BA CO Av) ?_ | refine zv (Bd CO Av) ?_
       refine zv (Bb Av Bl) ?_
       refine zv A8 ?_
       first | refine zv (BA Ap Ak) ?_ | refine zv (Bd Ap Ak) ?_
       refine zv (Bb Ak Br) ?_
       refine zv (AB EK) ?_
       refine zv (AL DF Da) ?_
       refine zv A8 ?_
       first | refine zv (BA CO Av) ?_ | refine zv (Bd CO Av) ?_
       refine zv (Bb Av Bl) ?_
       refine zv A8 ?_
       first | refine zv (BA Ap Ak) ?_ | refine zv (Bd Ap Ak) ?_
       refine zv (Bb Ak Br) ?_
       refine zv BP ?_
       refine zv Ai ?_
       refine zx A8 (fun ZI=>?_) (fun ZI=>?_)
       ·try simp at ZI
        iterate 14 refine zk ?_
        refine zv Ai ?_
        refine ⟨by rfl,?_⟩
        refine Dw (hb:=by first | rfl | simp | simp_all) (ht:=?_)
        refine sg ?_
        refine qv A9 ?_
        refine AP ?_
        exact x1 (hr:=(CW (by rw [Iq (by first | exact aM hi1 (by omega) XW | exact Nz hi1 hk2 (by first | (simp only [FN,IQ,Bool.false_and];done) | (simp only [FN,Bool.and_eq_false_iff,beq_eq_false_iff_ne];exact .inr (by simpa using ZI))))])))
       ·try simp at ZI
        iterate 2 refine zv A8 ?_
        refine zv Bv ?_
        refine zx A8 (fun zG=>?_) (fun zG=>?_)
        ·try simp at zG
         refine zv (AB EK) ?_
         refine zv (AL DF Da) ?_
         refine zv A8 ?_
         first | refine zv (BA CO Av) ?_ | refine zv (Bd CO Av) ?_
         refine zv (Bb Av Bl) ?_
         refine zv A8 ?_
         first | refine zv (BA Ap Ak) ?_ | refine zv (Bd Ap Ak) ?_
         refine zv (Bb Ak Br) ?_
         refine zv BP ?_
         iterate 2 refine zv Ai ?_
         refine ⟨by rfl,?_⟩
         refine cd (fun XW=>?_) (fun XW=>?_)
         ·try simp at XW
          refine sg ?_
          refine qv A9 ?_
          refine AP ?_
          exact x1 (hr:=(CW (by rw [Iq (by first | exact aM hi1 (by omega) XW | exact Nz hi1 hk2 (by first | (simp only [FN,IQ,Bool.false_and];done) | (simp only [FN,Bool.and_eq_false_iff,beq_eq_false_iff_ne];exact .inr (by simpa using ZI))))])))
         ·try simp at XW
          refine AY ?_
          refine rg ?_
          refine qv A8 ?_
          refine qv Am ?_
          refine qv A9 ?_
          refine ⟨k+1,?_,(by simp only;omega),(tl [(1,1)])⟩
          refine ⟨by omega,fun j hj=>?_⟩
          rcases Nat.lt_or_ge j k with h1 | h1
          ·exact Gy.2 j h1
          ·obtain rfl:j=k:=by omega
           have hno:FN h i j=true:=by
            simp only [FN,Bool.and_eq_true,beq_iff_eq]
            exact ⟨by simpa using IQ,by simpa using ZI⟩
           refine ⟨hno,fun e=>?_⟩
           first | exact XW | (exfalso;omega)
        ·try simp at zG
         iterate 9 refine zk ?_
         iterate 2 refine zv Ai ?_
         refine ⟨by rfl,?_⟩
         refine Cv (hb:=by first | rfl | simp | simp_all) (ht:=?_)
         refine AY ?_
         refine rg ?_
         refine qv A8 ?_
         refine qv Am ?_
         refine qv A9 ?_
         refine ⟨k+1,?_,(by simp only;omega),(tl [(1,1)])⟩
         refine ⟨by omega,fun j hj=>?_⟩
         rcases Nat.lt_or_ge j k with h1 | h1
         ·exact Gy.2 j h1
         ·obtain rfl:j=k:=by omega
          have hno:FN h i j=true:=by
           simp only [FN,Bool.and_eq_true,beq_iff_eq]
           exact ⟨by simpa using IQ,by simpa using ZI⟩
          refine ⟨hno,fun e=>?_⟩
          first | exact XW | (exfalso;omega)
     ·try simp at hc4
      refine Ad ?_
      refine rg ?_
      refine qv A8 ?_
      refine qv Am ?_
      refine qv A9 ?_
      refine ⟨i+1,?_,(by simp only;omega),(tl [(1,1)])⟩
      refine ⟨by omega,fun j hj=>?_⟩
      rcases Nat.lt_or_ge j i with h1 | h1
      ·exact Es.2 j h1
      ·obtain rfl:j=i:=by omega
       exact fun k hk=>Gy.2 k (by omega)
    ·try simp at hc3
     have hok:GX h=true:=Yv hn hrow fun j hj=>⟨by simp only [IV,Bool.and_eq_true,beq_iff_eq];exact ⟨hgnd j hj,(Es.2 j (by omega) j hj).2 rfl⟩,fun k hk=>(Es.2 j (by omega) k hk).1⟩
     refine Ad ?_
     refine sg ?_
     refine qv A8 ?_
     refine qr (wW FP ze4 H8 by4) ?_
     refine qv A9 ?_
     refine AJ ?_
     refine sg ?_
     refine qv A9 ?_
     refine BD ?_
     refine Ag (ι:=Nat) (fun r=>⟨lk [(1,.pt 1 0 0),(3,.dv (i64 ((h.ground.length:Int)))),(7,.sl 7 0 0 h.ground.length),(8,.dv (i64 (r:Nat)))],AA [(1,0,some ⟨[.dv (.list ((h.links).map ints)),.dv (ints (h.ground))],0,27,0,false⟩),(7,0,some (Ut 4 (Fe h r)))]⟩) (fun r=>r <= h.ground.length+1) (fun r=>h.ground.length+1 - r) 0 (by simp) (tl [(1,1),(7,103)] (hF:=by simp [Ck,Aa,lk,AA,isLive,Ac,Fe,Int.toNat_natCast]) (hM:=by simp [CV,Al,Aa,Ae,lk,AA,isLive,Ac,BK,BJ,Af,BI,BL,BO,BM,BN,Fe,Int.toNat_natCast])) ?_
     intro r hφ3
     refine AJ ?_
     refine sg ?_
     iterate 2 refine qv A8 ?_
     refine qv IU ?_
     refine cd (fun hc6=>?_) (fun hc6=>?_)
     ·try simp at hc6
      refine AY ?_
      refine AJ ?_
      refine BD ?_
      refine sg ?_
      refine qv A9 ?_
      refine BD ?_
      refine Ag (ι:=Nat) (fun i=>⟨lk [(1,.pt 1 0 0),(3,.dv (i64 ((h.ground.length:Int)))),(7,.sl 7 0 0 h.ground.length),(8,.dv (i64 (r:Nat))),(9,.dv (i64 (i:Nat)))],AA [(1,0,some ⟨[.dv (.list ((h.links).map ints)),.dv (ints (h.ground))],0,27,0,false⟩),(7,0,some (Ut 4 (G5 h (Fe h r) i)))]⟩) (fun i=>i <= h.ground.length) (fun i=>h.ground.length - i) 0 (by simp) (tl [(1,1),(7,7)] (hF:=by simp [Ck,Aa,lk,AA,isLive,Ac,G5]) (hM:=by simp [CV,Al,Aa,Ae,lk,AA,isLive,Ac,BK,BJ,Af,BI,BL,BO,BM,BN,G5])) ?_
      intro i hφ4
      refine AJ ?_
      refine sg ?_
      iterate 2 refine qv A8 ?_
      refine qv BQ ?_
      refine cd (fun uP=>?_) (fun uP=>?_)
      ·try simp at uP
       have hi4:i < h.ground.length:=by exact_mod_cast uP
       have hgl:=XC hn.2.2 hi4
       have hgg:=Kh hi4
       have hpl:(G5 h (Fe h r) i).length=h.ground.length:=by rw [Gn,I5]
       have hb0:=Jh (d:=G5 h (Fe h r) i) (i:=i) (by omega)
       refine AY ?_
       refine AJ ?_
       refine BD ?_
       refine sg ?_
       iterate 4 refine qv A8 ?_
       refine qv (CB FP H8) ?_
       refine qv (Qo H8 YG (hq:=hb0)) ?_
       refine qx A8 (fun TS=>?_) (fun TS=>?_)
       ·try simp at TS
        iterate 6 refine qk ?_
        refine qv Ai ?_
        refine qv (CB FP H8) ?_
        refine qs (LA H8 (ho:=by omega)) ?_
        refine sg ?_
        refine qv A9 ?_
        refine BD ?_
        refine Ag (ι:=Nat) (fun k=>⟨lk [(1,.pt 1 0 0),(3,.dv (i64 ((h.ground.length:Int)))),(7,.sl 7 0 0 h.ground.length),(8,.dv (i64 (r:Nat))),(9,.dv (i64 (i:Nat))),(10,.dv (i64 (k:Nat)))],AA [(1,0,some ⟨[.dv (.list ((h.links).map ints)),.dv (ints (h.ground))],0,27,0,false⟩),(7,0,some (Ut 4 (FI h (G5 h (Fe h r) i) i k)))]⟩) (fun k=>k <= h.ground.length) (fun k=>h.ground.length - k) 0 (by simp) (tl [(1,1),(7,7)] (hF:=by simp [Ck,Aa,lk,AA,isLive,Ac,FI, *]) (hM:=by simp [CV,Al,Aa,Ae,lk,AA,isLive,Ac,BK,BJ,Af,BI,BL,BO,BM,BN,FI, *])) ?_
        intro k A2L
        refine AJ ?_
        refine sg ?_
        iterate 2 refine qv A8 ?_
        refine qv BQ ?_
        refine cd (fun hc8=>?_) (fun hc8=>?_)
        ·try simp at hc8
         have hk5:k < h.ground.length:=by exact_mod_cast hc8
         have hl2:=Qq (hrow i hi4) hk5
         have hil:=IE (h:=h) (d:=G5 h (Fe h r) i) (i:=i) k
         rw [Gn,I5] at hil
         have hbi:=Jh (d:=FI h (G5 h (Fe h r) i) i k) (i:=i) (by omega)
         have hbk:=Jh (d:=FI h (G5 h (Fe h r) i) i k) (i:=k) (by omega)
         refine AY ?_
         refine AJ ?_
         refine BD ?_
         refine rg ?_
         iterate 4 refine qv A8 ?_
         refine qv (CB FP H8) ?_
         refine qv (Qo H8 YG (hq:=hbi)) ?_
         refine qx A8 (fun Mt=>?_) (fun Mt=>?_)
         ·try simp at Mt
          iterate 15 refine qk ?_
          refine qv Ai ?_
          refine qv (CB FP H8) ?_
          refine qs (LA H8) ?_
          refine rg ?_
          refine qv A8 ?_
          refine qv Am ?_
          refine qv A9 ?_
          exact ⟨k+1,hk5,(by simp only;omega),(tl [(1,1),(7,7)] (hF:=by simp [Ck,Aa,lk,AA,isLive,Ac,FI, *]) (hM:=by simp [CV,Al,Aa,Ae,lk,AA,isLive,Ac,BK,BJ,Af,BI,BL,BO,BM,BN,FI, *]))⟩
         ·try simp at Mt
          iterate 2 refine qv A8 ?_
          refine qv (CB FP H8) ?_
          refine qv (Qo H8 YG (hq:=hbk)) ?_
          refine qx A8 (fun TQ=>?_) (fun TQ=>?_)
          ·try simp at TQ
           refine qv (AB EK) ?_
           refine qv (AL DF Da) ?_
           refine qv A8 ?_
           first | refine qv (BA CO Av) ?_ | refine qv (Bd CO Av) ?_
           refine qv (Bb Av Bl) ?_
           refine qv A8 ?_
           first | refine qv (BA Ap Ak) ?_ | refine qv (Bd Ap Ak) ?_
           refine qv (Bb Ak Br) ?_
           refine qv Dj ?_
           iterate 2 refine qv Ai ?_
           refine qv (CB FP H8) ?_
           refine qs (LA H8) ?_
           refine rg ?_
           refine qv A8 ?_
           refine qv Am ?_
           refine qv A9 ?_
           exact ⟨k+1,hk5,(by simp only;omega),(tl [(1,1),(7,7)] (hF:=by simp [Ck,Aa,lk,AA,isLive,Ac,FI, *]) (hM:=by simp [CV,Al,Aa,Ae,lk,AA,isLive,Ac,BK,BJ,Af,BI,BL,BO,BM,BN,FI, *]))⟩
          ·try simp at TQ
           iterate 9 refine qk ?_
           iterate 2 refine qv Ai ?_
           refine qv (CB FP H8) ?_
           refine qs (LA H8) ?_
           refine rg ?_
           refine qv A8 ?_
           refine qv Am ?_
           refine qv A9 ?_
           exact ⟨k+1,hk5,(by simp only;omega),(tl [(1,1),(7,7)] (hF:=by simp [Ck,Aa,lk,AA,isLive,Ac,FI, *]) (hM:=by simp [CV,Al,Aa,Ae,lk,AA,isLive,Ac,BK,BJ,Af,BI,BL,BO,BM,BN,FI, *]))⟩
        ·try simp at hc8
         have hps:G5 h (Fe h r) (i+1)=FI h (G5 h (Fe h r) i) i k:=by rw [show k=h.ground.length by omega];rfl
         refine Ad ?_
         refine rg ?_
         refine qv A8 ?_
         refine qv Am ?_
         refine qv A9 ?_
         exact ⟨i+1,hi4,(by simp only;omega),(tl [(1,1),(7,7)] (hF:=by simp [Ck,Aa,lk,AA,isLive,Ac,hps]) (hM:=by simp [CV,Al,Aa,Ae,lk,AA,isLive,Ac,BK,BJ,Af,BI,BL,BO,BM,BN,hps]))⟩
       ·try simp at TS
        refine qv (AB F6) ?_
        refine qv (AL Av Bl) ?_
        refine qv A8 ?_
        first | refine qv (BA Ap Ak) ?_ | refine qv (Bd Ap Ak) ?_
        refine qv (Bb Ak Br) ?_
        refine qv Dj ?_
        refine qv Ai ?_
        refine qv (CB FP H8) ?_
        refine qs (LA H8 (ho:=by omega)) ?_
        refine sg ?_
        refine qv A9 ?_
        refine BD ?_
        refine Ag (ι:=Nat) (fun k=>⟨lk [(1,.pt 1 0 0),(3,.dv (i64 ((h.ground.length:Int)))),(7,.sl 7 0 0 h.ground.length),(8,.dv (i64 (r:Nat))),(9,.dv (i64 (i:Nat))),(10,.dv (i64 (k:Nat)))],AA [(1,0,some ⟨[.dv (.list ((h.links).map ints)),.dv (ints (h.ground))],0,27,0,false⟩),(7,0,some (Ut 4 (FI h (G5 h (Fe h r) i) i k)))]⟩) (fun k=>k <= h.ground.length) (fun k=>h.ground.length - k) 0 (by simp) (tl [(1,1),(7,7)] (hF:=by simp [Ck,Aa,lk,AA,isLive,Ac,FI, *]) (hM:=by simp [CV,Al,Aa,Ae,lk,AA,isLive,Ac,BK,BJ,Af,BI,BL,BO,BM,BN,FI, *])) ?_
        intro k A2L
        refine AJ ?_
        refine sg ?_
        iterate 2 refine qv A8 ?_
        refine qv BQ ?_
        refine cd (fun hc8=>?_) (fun hc8=>?_)
        ·try simp at hc8
         have hk5:k < h.ground.length:=by exact_mod_cast hc8
         have hl2:=Qq (hrow i hi4) hk5
         have hil:=IE (h:=h) (d:=G5 h (Fe h r) i) (i:=i) k
         rw [Gn,I5] at hil
         have hbi:=Jh (d:=FI h (G5 h (Fe h r) i) i k) (i:=i) (by omega)
         have hbk:=Jh (d:=FI h (G5 h (Fe h r) i) i k) (i:=k) (by omega)
         refine AY ?_
         refine AJ ?_
         refine BD ?_
         refine rg ?_
         iterate 4 refine qv A8 ?_
         refine qv (CB FP H8) ?_
         refine qv (Qo H8 YG (hq:=hbi)) ?_
         refine qx A8 (fun Mt=>?_) (fun Mt=>?_)
         ·try simp at Mt
          iterate 15 refine qk ?_
          refine qv Ai ?_
          refine qv (CB FP H8) ?_
          refine qs (LA H8) ?_
          refine rg ?_
          refine qv A8 ?_
          refine qv Am ?_
          refine qv A9 ?_
          exact ⟨k+1,hk5,(by simp only;omega),(tl [(1,1),(7,7)] (hF:=by simp [Ck,Aa,lk,AA,isLive,Ac,FI, *]) (hM:=by simp [CV,Al,Aa,Ae,lk,AA,isLive,Ac,BK,BJ,Af,BI,BL,BO,BM,BN,FI, *]))⟩
         ·try simp at Mt
          iterate 2 refine qv A8 ?_
          refine qv (CB FP H8) ?_
          refine qv (Qo H8 YG (hq:=hbk)) ?_
          refine qx A8 (fun TQ=>?_) (fun TQ=>?_)
          ·try simp at TQ
           refine qv (AB EK) ?_
           refine qv (AL DF Da) ?_
           refine qv A8 ?_
           first | refine qv (BA CO Av) ?_ | refine qv (Bd CO Av) ?_
           refine qv (Bb Av Bl) ?_
           refine qv A8 ?_
           first | refine qv (BA Ap Ak) ?_ | refine qv (Bd Ap Ak) ?_
           refine qv (Bb Ak Br) ?_
           refine qv Dj ?_
           iterate 2 refine qv Ai ?_
           refine qv (CB FP H8) ?_
           refine qs (LA H8) ?_
           refine rg ?_
           refine qv A8 ?_
           refine qv Am ?_
           refine qv A9 ?_
           exact ⟨k+1,hk5,(by simp only;omega),(tl [(1,1),(7,7)] (hF:=by simp [Ck,Aa,lk,AA,isLive,Ac,FI, *]) (hM:=by simp [CV,Al,Aa,Ae,lk,AA,isLive,Ac,BK,BJ,Af,BI,BL,BO,BM,BN,FI, *]))⟩
          ·try simp at TQ
           iterate 9 refine qk ?_
           iterate 2 refine qv Ai ?_
           refine qv (CB FP H8) ?_
           refine qs (LA H8) ?_
           refine rg ?_
           refine qv A8 ?_
           refine qv Am ?_
           refine qv A9 ?_
           exact ⟨k+1,hk5,(by simp only;omega),(tl [(1,1),(7,7)] (hF:=by simp [Ck,Aa,lk,AA,isLive,Ac,FI, *]) (hM:=by simp [CV,Al,Aa,Ae,lk,AA,isLive,Ac,BK,BJ,Af,BI,BL,BO,BM,BN,FI, *]))⟩
        ·try simp at hc8
         have hps:G5 h (Fe h r) (i+1)=FI h (G5 h (Fe h r) i) i k:=by rw [show k=h.ground.length by omega];rfl
         refine Ad ?_
         refine rg ?_
         refine qv A8 ?_
         refine qv Am ?_
         refine qv A9 ?_
         exact ⟨i+1,hi4,(by simp only;omega),(tl [(1,1),(7,7)] (hF:=by simp [Ck,Aa,lk,AA,isLive,Ac,hps]) (hM:=by simp [CV,Al,Aa,Ae,lk,AA,isLive,Ac,BK,BJ,Af,BI,BL,BO,BM,BN,hps]))⟩
      ·try simp at uP
       have hrd:Fe h (r+1)=G5 h (Fe h r) i:=by rw [show i=h.ground.length by omega];rfl
       refine Ad ?_
       refine rg ?_
       refine qv A8 ?_
       refine qv Am ?_
       refine qv A9 ?_
       exact ⟨r+1,by omega,(by simp only;omega),(tl [(1,1),(7,7)] (hF:=by simp [Ck,Aa,lk,AA,isLive,Ac,hrd]) (hM:=by simp [CV,Al,Aa,Ae,lk,AA,isLive,Ac,BK,BJ,Af,BI,BL,BO,BM,BN,hrd]))⟩
     ·try simp at hc6
      obtain rfl:r=h.ground.length+1:=by omega
      have hrl:=I5 (h:=h) (h.ground.length+1)
      refine Ad ?_
      refine AJ ?_
      refine sg ?_
      refine qv A9 ?_
      refine BD ?_
      refine Ag (ι:=Nat) (fun i=>⟨lk [(3,.dv (i64 ((h.ground.length:Int)))),(7,.sl 7 0 0 h.ground.length),(11,.dv (i64 (i:Nat)))],AA [(7,0,some (Ut 4 (Fe h (h.ground.length+1))))]⟩) (fun i=>i <= h.ground.length /\ ∀ j,j < i -> Ns (Fe h (h.ground.length+1)) j=true) (fun i=>h.ground.length - i) 0 (by simp) (tl [(7,7)]) ?_
      intro i A2K
      refine AJ ?_
      refine sg ?_
      iterate 2 refine qv A8 ?_
      refine qv BQ ?_
      refine cd (fun uO=>?_) (fun uO=>?_)
      ·try simp at uO
       have hi6:i < h.ground.length:=by exact_mod_cast uO
       have hb6:=Jh (d:=Fe h (h.ground.length+1)) (i:=i) (by omega)
       refine AY ?_
       refine AJ ?_
       refine BD ?_
       refine sg ?_
       iterate 2 refine qv A8 ?_
       refine qv (CB FP H8) ?_
       refine qv (Qo H8 YG (hq:=hb6)) ?_
       refine qv Bn ?_
       refine cd (fun ZK=>?_) (fun ZK=>?_)
       ·try simp at ZK
        refine sg ?_
        refine qv A9 ?_
        refine AP ?_
        exact x1 (hr:=(CW (by rw [VZ hok,if_pos];rw [List.contains_iff_mem];have:=List.mem_of_getElem? hb6;simp_all)))
       ·try simp at ZK
        refine AY ?_
        refine rg ?_
        refine qv A8 ?_
        refine qv Am ?_
        refine qv A9 ?_
        refine ⟨i+1,?_,(by simp only;omega),(tl [(7,7)])⟩
        refine ⟨by omega,fun j hj=>?_⟩
        rcases Nat.lt_or_ge j i with h1 | h1
        ·exact A2K.2 j h1
        ·obtain rfl:j=i:=by omega
         simpa using ZK
      ·try simp at uO
       refine Ad ?_
       refine sg ?_
       refine qv A9 ?_
       refine AP ?_
       exact x1 (hr:=(CW (by rw [VZ hok,if_neg];rw [Bool.not_eq_true,Sw];exact fun j hj=>A2K.2 j (by omega))))
end Go.Ab.Tryz.H
namespace Go.Ab.Tryz.H
open Go Go.Ab Go.Ab.Tryz Go.Proofs Go.Ab.Heap
def uL (h:Hp) (c:List Int) (i:Nat):Bool:=decide (h.sp.lim i <= Az c i)
def high (h:Hp) (c:List Int):Int:=match (List.range h.ground.length).find? (uL h c) with | some i=>i | none=>-1
theorem o8 {h:Hp} {c:List Int} {i:Nat} (hi:i < h.ground.length) (hp:h.sp.lim i <= Az c i) (hj:∀ j,j < i -> Az c j < h.sp.lim j):high h c=i:=by
 have:(List.range h.ground.length).find? (uL h c)=some i:=by
  rw [List.find?_range_eq_some]
  exact ⟨by simp [uL,hp],by simpa using hi,fun j h2=>by have:=hj j h2;simp [uL];omega⟩
 unfold high;rw [this]
theorem WC {h:Hp} {c:List Int} (hj:H6 h c):high h c=-1:=by
 have:(List.range h.ground.length).find? (uL h c)=none:=by
  rw [List.find?_eq_none]
  intro j h2;have:=hj j (by simpa using h2);simp [uL];omega
 unfold high;rw [this]
theorem J9 (h:Hp) (c:List Int):(high h c=-1 /\ H6 h c) \/ ∃ i,i < h.ground.length /\ high h c=(i:Nat) /\ h.sp.lim i <= Az c i:=by
 by_cases hc:H6 h c
 ·exact .inl ⟨WC hc,hc⟩
 ·right
  cases e:(List.range h.ground.length).find? (uL h c) with
  | none =>
   exfalso
   rw [List.find?_eq_none] at e
   refine hc fun j hj=>?_
   have:=e j (by simpa using hj)
   simp [uL] at this;omega
  | some i =>
   have h1:=List.find?_some e
   have h2:=List.mem_of_find?_eq_some e
   exact ⟨i,by simpa using h2,by unfold high;rw [e],by simpa [uL] using h1⟩
def Qw (h:Hp) (c:List Int):Bool:=decide (high h c < 0)
theorem QL {h:Hp} {c:List Int}:Qw h c=true ↔ H6 h c:=by
 unfold Qw
 rcases J9 h c with ⟨h1,h2⟩ | ⟨i,hi,h1,h2⟩
 ·rw [h1];simp [h2]
 ·rw [h1]
  constructor
  ·intro h3;simp at h3;omega
  ·intro h3;have:=h3 i hi;omega
theorem qL {h:Hp} {c:List Int} {i:Nat} (hi:i < h.ground.length) (hp:h.sp.lim i <= Az c i):Qw h c=false:=by
 cases e:Qw h c with
 | false=>rfl
 | true=>have:=QL.1 e i hi;omega
theorem MZ {h:Hp} {c:List Int} (hc:H6 h c):Qw h c=true:=QL.2 hc
def iY (h:Hp) (L:List Int) (i:Nat) (k:Int) (q:Nat):List Int:=(List.range h.ground.length).map fun j=>Az L j - (if j=i then k * h.sp.lim i else 0)+(if j < q then k * IY h i j else 0)
def aP (h:Hp) (L:List Int) (i:Nat) (k:Int) (q:Nat):List Int:=(List.range h.ground.length).map fun j=>Az L j+(if j < q then k * IY h i j else 0)
theorem map_set {n p:Nat} {f g:Nat -> Int} {x:Int} (h:∀ q,q < n -> q ≠ p -> f q=g q) (hv:p < n -> x=g p):((List.range n).map f).set p x=(List.range n).map g:=by
 apply List.ext_getElem
 ·simp
 ·intro j h1 h2
  have hj:j < n:=by simpa using h2
  rw [List.getElem_set]
  split
  ·rename_i e;subst e;simpa using hv hj
  ·rename_i e;simpa using h j hj (fun e'=>e e'.symm)
theorem rU {h:Hp} {L:List Int} {i q:Nat} {k:Int}:(iY h L i k q).length=h.ground.length:=by simp [iY]
theorem O3 {h:Hp} {L:List Int} {i q:Nat} {k:Int}:(aP h L i k q).length=h.ground.length:=by simp [aP]
theorem l7 {h:Hp} {L:List Int} {i q j:Nat} {k:Int} (hj:j < h.ground.length):Az (iY h L i k q) j=Az L j - (if j=i then k * h.sp.lim i else 0)+(if j < q then k * IY h i j else 0):=QV hj
theorem Wn {h:Hp} {L:List Int} {i q j:Nat} {k:Int} (hj:j < h.ground.length):Az (aP h L i k q) j=Az L j+(if j < q then k * IY h i j else 0):=QV hj
theorem ku {h:Hp} {L:List Int} {i:Nat} {k:Int} (hl:L.length=h.ground.length):L.set i (Az L i - k * h.sp.lim i)=iY h L i k 0:=by
 rw [Ll (a:=L) (n:=h.ground.length) (f:=Az L) hl fun _ _=>rfl]
 refine (map_set (fun q hq hne=>?_) fun hi=>?_).trans rfl
 ·rw [if_neg hne,if_neg (Nat.not_lt_zero q)]
  rw [QV hq];omega
 ·rw [if_pos rfl,if_neg (Nat.not_lt_zero i),QV hi];omega
theorem l5 {h:Hp} {L:List Int} {i q:Nat} {k:Int} (hq:q < h.ground.length):(iY h L i k q).set q (Az (iY h L i k q) q+k * IY h i q)=iY h L i k (q+1):=by
 refine map_set (fun j _ hne=>?_) fun _=>?_
 ·by_cases h1:j < q
  ·rw [if_pos h1,if_pos (show j < q+1 by omega)]
  ·rw [if_neg h1,if_neg (show ¬ j < q+1 by omega)]
 ·rw [l7 hq,if_neg (Nat.lt_irrefl q),if_pos (Nat.lt_succ_self q)];omega
theorem l6 {h:Hp} {L:List Int} {i:Nat} {k:Int}:iY h L i k h.ground.length=Mi h L i k:=by
 unfold iY Mi
 refine List.map_congr_left fun j hj=>?_
 rw [if_pos (show j < h.ground.length by simpa using hj)]
theorem kg {h:Hp} {L:List Int} {i:Nat} {k:Int} (hl:L.length=h.ground.length):L=aP h L i k 0:=by
 refine Ll hl fun j _=>?_
 rw [if_neg (Nat.not_lt_zero j)];omega
theorem ko {h:Hp} {L:List Int} {i q:Nat} {k:Int} (hq:q < h.ground.length):(aP h L i k q).set q (Az (aP h L i k q) q+k * IY h i q)=aP h L i k (q+1):=by
 refine map_set (fun j _ hne=>?_) fun _=>?_
 ·by_cases h1:j < q
  ·rw [if_pos h1,if_pos (show j < q+1 by omega)]
  ·rw [if_neg h1,if_neg (show ¬ j < q+1 by omega)]
 ·rw [Wn hq,if_neg (Nat.lt_irrefl q),if_pos (Nat.lt_succ_self q)];omega
theorem kr {h:Hp} {L:List Int} {i:Nat} {k:Int} (hi:i < h.ground.length):(aP h L i k h.ground.length).set i (Az (aP h L i k h.ground.length) i - k * h.sp.lim i)=Mi h L i k:=by
 refine map_set (fun j hj hne=>?_) fun _=>?_
 ·rw [if_pos hj,if_neg hne];omega
 ·rw [Wn hi,if_pos hi,if_pos rfl];omega
theorem MO {k l K:Int} (h1:-K <= k) (h2:k <= K) (h3:0 <= l) (h4:l <= 12):-(12 * K) <= k * l /\ k * l <= 12 * K:=by
 have:=sw (a:=k) (b:=l) (A:=K) (B:=12) h1 h2 (by omega) h4
 omega
theorem bO {h:Hp} (v:VH h) {i q:Nat} (hi:i < h.ground.length) (hq:q < h.ground.length):0 <= IY h i q /\ IY h i q <= 12:=by have:=v.lb i q hi hq;omega
theorem f130 (h:Hp) (v:VH h) (c:List Int) (hc:c.length=h.ground.length):AR Tryz.prog 130 [Et h,ints c] (.one (.dv (i64 (high h c)))):=by
 have h5:=v.n5
 refine Bu Tryz.func130 rfl rfl (by rw [Tryz.ntmps130];simp) fun cx hP hn hg=>?_
 rw [Tryz.ntmps130] at hn
 rw [Bq,Bp]
 simp only [List.nil_append,List.append_nil,List.cons_append,BF,Nat.reduceAdd]
 refine sg ?_
 refine qp BX ?_
 refine qv A9 ?_
 refine AJ ?_
 refine sg ?_
 refine qv A8 ?_
 refine qv (BH CZ) ?_
 refine qv A8 ?_
 refine BD ?_
 refine Ag (ι:=Nat) (fun i=>⟨lk [(2,.pt 2 0 0),(7,.dv (ints (c))),(8,.dv (i64 ((c.length:Int)))),(9,.dv (i64 (i:Nat)))],AA [(2,0,some ⟨[.dv (.list ((h.links).map ints)),.dv (ints (h.ground))],0,27,0,false⟩)]⟩) (fun i=>i <= h.ground.length /\ ∀ j,j < i -> Az c j < h.sp.lim j) (fun i=>h.ground.length - i) 0 (by simp) (tl [(2,2)]) ?_
 intro i Aj
 refine sg ?_
 refine qv BQ ?_
 refine AJ ?_
 refine cd (fun hc0=>?_) (fun hc0=>?_)
 ·try simp at hc0
  refine AY ?_
  refine AJ ?_
  refine BD ?_
  refine sg ?_
  have hi:i < h.ground.length:=by omega
  have hgi:=Ah (a:=c) (i:=i) (by omega)
  refine qv A8 ?_
  first | refine qv (BA Ap Ak) ?_ | refine qv (Bd Ap Ak) ?_
  refine qv (Bb Ak Br) ?_
  iterate 2 refine qv A9 ?_
  refine sg ?_
  refine qv A8 ?_
  refine qv (AQ Cq Cr) ?_
  refine qv A8 ?_
  refine Bo (f166 h v i hi) ?_
  refine qv Df ?_
  refine cd (fun hc1=>?_) (fun hc1=>?_)
  ·try simp at hc1
   refine sg ?_
   refine qv A8 ?_
   refine qv A9 ?_
   refine AP ?_
   exact x1 (hr:=(CW (by rw [o8 hi (by omega) Aj.2])))
  ·try simp at hc1
   refine AY ?_
   refine rg ?_
   refine qv Am ?_
   refine qv A8 ?_
   refine ⟨i+1,?_,(by simp only;omega),(tl [(2,2)])⟩
   refine ⟨by omega,fun j hj=>?_⟩
   rcases Nat.lt_or_ge j i with h1 | h1
   ·exact Aj.2 j h1
   ·obtain rfl:j=i:=by omega
    omega
 ·try simp at hc0
  refine Ad ?_
  refine sg ?_
  refine qv A9 ?_
  refine AP ?_
  exact x1 (hr:=(CW (by rw [WC fun j hj=>Aj.2 j (by omega)])))
theorem f67 (h:Hp) (v:VH h) (c:List Int) (hc:c.length=h.ground.length):AR Tryz.prog 67 [Et h,ints c] (.one (.dv (.bool (Qw h c)))):=by
 have h5:=v.n5
 refine Bu Tryz.func67 rfl rfl (by rw [Tryz.ntmps67];simp) fun cx hP hn hg=>?_
 rw [Tryz.ntmps67] at hn
 rw [Bq,Bp]
 simp only [List.nil_append,List.append_nil,List.cons_append,BF,Nat.reduceAdd]
 refine sg ?_
 refine qp BX ?_
 refine qv A9 ?_
 refine AJ ?_
 refine sg ?_
 refine qv A9 ?_
 refine BD ?_
 refine Ag (ι:=Nat) (fun i=>⟨lk [(1,.dv (ints (c))),(2,.pt 2 0 0),(5,.dv (i64 (i:Nat)))],AA [(2,0,some ⟨[.dv (.list ((h.links).map ints)),.dv (ints (h.ground))],0,27,0,false⟩)]⟩) (fun i=>i <= h.ground.length /\ ∀ j,j < i -> Az c j < h.sp.lim j) (fun i=>h.ground.length - i) 0 (by simp) (tl [(2,2)]) ?_
 intro i Aj
 refine AJ ?_
 refine sg ?_
 iterate 2 refine qv A8 ?_
 refine qv (BH CZ) ?_
 refine qv BQ ?_
 refine cd (fun hc0=>?_) (fun hc0=>?_)
 ·try simp at hc0
  refine AY ?_
  refine AJ ?_
  refine BD ?_
  refine AJ ?_
  have hi:i < h.ground.length:=by omega
  have hgi:=Ah (a:=c) (i:=i) (by omega)
  refine rd mixed ?_
  iterate 2 refine zv A8 ?_
  first | refine zv (BA Ap Ak) ?_ | refine zv (Bd Ap Ak) ?_
  refine zv (Bb Ak Br) ?_
  refine zv (AQ Cq Cr) ?_
  refine zv A8 ?_
  refine GA (R:=[]) (f104 h v i hi) ?_
  refine zv Df ?_
  refine ⟨by rfl,?_⟩
  refine cd (fun hc1=>?_) (fun hc1=>?_)
  ·try simp at hc1
   refine sg ?_
   refine qv A9 ?_
   refine AP ?_
   exact x1 (hr:=(DX (by rw [qL hi (by omega)])))
  ·try simp at hc1
   refine AY ?_
   refine rg ?_
   refine qv A8 ?_
   refine qv Am ?_
   refine qv A9 ?_
   refine ⟨i+1,?_,(by simp only;omega),(tl [(2,2)])⟩
   refine ⟨by omega,fun j hj=>?_⟩
   rcases Nat.lt_or_ge j i with h1 | h1
   ·exact Aj.2 j h1
   ·obtain rfl:j=i:=by omega
    omega
 ·try simp at hc0
  refine Ad ?_
  refine sg ?_
  refine qv A9 ?_
  refine AP ?_
  exact x1 (hr:=(DX (by rw [MZ fun j hj=>Aj.2 j (by omega)])))
set_option maxHeartbeats 4000000 in
theorem f233 (h:Hp) (v:VH h) (L:List Int) (i:Nat) (k:Int) (hl:L.length=h.ground.length) (hi:i < h.ground.length) (hb:∀ j,j < h.ground.length -> -1000000000 <= Az L j /\ Az L j <= 1000000000) (hk:-1000000 <= k /\ k <= 1000000) :
  Aw Tryz.prog 233 [.dv (Et h),.sl 100000 0 0 h.ground.length,.dv (i64 (i:Int)),.dv (i64 k)] (Ba [(100000,nT 0 L)]) ⟨[],Ba [(100000,nT 0 (Mi h L i k))]⟩:=by
 have hgl:=v.get hi
 have hrl:=v.row i hi
 have h5:=v.n5
 have hL1:=v.jR hi
 have hL2:=v.Z8 hi
 have hbi:=hb i hi
 have hgi:=Ah (a:=L) (i:=i) (by omega)
 have hkl:=MO hk.1 hk.2 (l:=h.sp.lim i) (by omega) hL2
 refine DC Tryz.func233 rfl rfl (by rw [Tryz.ntmps233];simp) fun cx hP hn hg=>?_
 rw [Tryz.ntmps233] at hn
 refine Bj ?_
 refine sg ?_
 refine qp BX ?_
 refine AJ ?_
 refine rd mixed ?_
 iterate 2 refine zv A8 ?_
 refine zv (CB Ap Ak) ?_
 refine zv (EG Ak Br (hq:=hgi)) ?_
 refine zv A8 ?_
 refine zv (AQ Cq Cr) ?_
 refine zv A8 ?_
 refine GA (R:=[]) (f166 h v i hi) ?_
 refine zv Mq ?_
 refine zv FW ?_
 refine zv (CB Ap Ak) ?_
 first | refine zs (Gp Ak) ?_ | refine zs (CK Ak) ?_
 refine ⟨by rfl,?_⟩
 refine AJ ?_
 have hz:=ku (i:=i) (k:=k) hl
 refine rg ?_
 refine qv (AB EK) ?_
 refine qv (AL DF Da) ?_
 refine qv A8 ?_
 first | refine qv (BA CO Av) ?_ | refine qv (Bd CO Av) ?_
 refine qv (Bb Av Bl) ?_
 refine qv (BH CZ) ?_
 refine qv A8 ?_
 refine BD ?_
 refine Ag (ι:=Nat) (fun q=>⟨lk [(1,.sl 100000 0 0 h.ground.length),(3,.dv (i64 (k))),(25,.dv (ints (IX h i))),(26,.dv (i64 (((IX h i).length:Int)))),(27,.dv (i64 (q:Nat)))],AA [(100000,0,some (nT 0 (iY h L i k q)))]⟩) (fun q=>q <= h.ground.length) (fun q=>h.ground.length - q) 0 (by simp) (tl [(100000,100000)] (hF:=by simp [Ck,Aa,lk,AA,isLive,Ac,hz]) (hM:=by simp [CV,Al,Aa,Ae,lk,AA,isLive,Ac,BK,BJ,Af,BI,BL,BO,BM,BN,hz])) ?_
 intro q Aj
 refine sg ?_
 refine qv BQ ?_
 refine AJ ?_
 refine cd (fun hc0=>?_) (fun hc0=>?_)
 ·try simp at hc0
  refine AY ?_
  refine AJ ?_
  refine BD ?_
  refine sg ?_
  have hq:q < h.ground.length:=by omega
  have hl2:=v.jY hi hq
  have hlb:=bO v hi hq
  have htl:=rU (h:=h) (L:=L) (i:=i) (q:=q) (k:=k)
  have hgq:=Ah (a:=iY h L i k q) (i:=q) (by omega)
  have hsc:=l5 (L:=L) (i:=i) (k:=k) hq
  have hbq:=hb q hq
  have hkq:=MO hk.1 hk.2 hlb.1 hlb.2
  have hat:=l7 (L:=L) (i:=i) (q:=q) (k:=k) hq
  have hab:-1100000000 <= Az (iY h L i k q) q /\ Az (iY h L i k q) q <= 1100000000:=by
   rw [hat,if_neg (Nat.lt_irrefl q)]
   split<;>omega
  refine qv A8 ?_
  first | refine qv (BA Ap Ak) ?_ | refine qv (Bd Ap Ak) ?_
  refine qv (Bb Ak Br) ?_
  iterate 2 refine qv A9 ?_
  refine rg ?_
  iterate 2 refine qv A8 ?_
  refine qv (CB Ap Ak) ?_
  first | refine qv (EG Ak Br) ?_ | refine qv (AL Ak Br) ?_
  iterate 2 refine qv A8 ?_
  refine qv Mq ?_
  refine qv Am ?_
  refine qv (CB Ap Ak) ?_
  first | refine qs (Gp Ak) ?_ | refine qs (CK Ak) ?_
  refine rg ?_
  refine qv Am ?_
  refine qv A8 ?_
  exact ⟨q+1,hq,(by simp only;omega),(tl [(100000,100000)] (hF:=by simp [Ck,Aa,lk,AA,isLive,Ac,hsc]) (hM:=by simp [CV,Al,Aa,Ae,lk,AA,isLive,Ac,BK,BJ,Af,BI,BL,BO,BM,BN,hsc]))⟩
 ·try simp at hc0
  refine Ad ?_
  obtain rfl:q=h.ground.length:=by omega
  rw [l6]
  exact xg [(100000,100000)]
set_option maxHeartbeats 4000000 in
theorem f189 (h:Hp) (v:VH h) (L:List Int) (i:Nat) (k:Int) (hl:L.length=h.ground.length) (hi:i < h.ground.length) (hb:∀ j,j < h.ground.length -> -1000000000 <= Az L j /\ Az L j <= 1000000000) (hk:-1000000 <= k /\ k <= 1000000) :
  AR Tryz.prog 189 [Et h,ints L,i64 (i:Int),i64 k] (.one (rI (Mi h L i k))):=by
 have hgl:=v.get hi
 have hrl:=v.row i hi
 have h5:=v.n5
 have hL1:=v.jR hi
 have hL2:=v.Z8 hi
 have hbi:=hb i hi
 have hgi:=Ah (a:=L) (i:=i) (by omega)
 have hkl:=MO hk.1 hk.2 (l:=h.sp.lim i) (by omega) hL2
 refine Bu Tryz.func189 rfl rfl (by rw [Tryz.ntmps189];simp) fun cx hP hn hg=>?_
 rw [Tryz.ntmps189] at hn
 rw [Bq,Bp]
 simp only [List.nil_append,List.append_nil,List.cons_append,BF,Nat.reduceAdd]
 refine sg ?_
 refine qp BX ?_
 refine qv A9 ?_
 refine sg ?_
 refine qr (D7 Ap Jq Ak) ?_
 refine qv A8 ?_
 refine Qg (DK Ap Ap Jq Ak U7) ?_
 refine qv A9 ?_
 refine AJ ?_
 refine sg ?_
 refine qv A9 ?_
 refine BD ?_
 have hz:=kg (h:=h) (i:=i) (k:=k) hl
 refine Ag (ι:=Nat) (fun q=>⟨lk [(2,.dv (i64 (i:Int))),(3,.dv (i64 (k))),(4,.pt 4 0 0),(9,.sl 9 0 0 ((aP h L i k q).length)),(10,.dv (i64 (q:Nat)))],AA [(4,0,some ⟨[.dv (.list ((h.links).map ints)),.dv (ints (h.ground))],0,27,0,false⟩),(9,0,some (Jv (aP h L i k q)))]⟩) (fun q=>q <= h.ground.length) (fun q=>h.ground.length - q) 0 (by simp) (tl [(4,4),(9,13)] (hF:=by simp [Ck,Aa,lk,AA,isLive,Ac,<- hz,hl]) (hM:=by simp [CV,Al,Aa,Ae,lk,AA,isLive,Ac,BK,BJ,Af,BI,BL,BO,BM,BN,<- hz,hl])) ?_
 intro q Aj
 refine AJ ?_
 refine sg ?_
 skip
 iterate 2 refine qv A8 ?_
 refine qv (Cg CZ) ?_
 refine qv BQ ?_
 refine cd (fun hc0=>?_) (fun hc0=>?_)
 ·try simp at hc0
  refine AY ?_
  refine AJ ?_
  refine BD ?_
  have hq:q < h.ground.length:=by have:=O3 (h:=h) (L:=L) (i:=i) (q:=q) (k:=k);omega
  have hl2:=v.jY hi hq
  have hlb:=bO v hi hq
  have htl:=O3 (h:=h) (L:=L) (i:=i) (q:=q) (k:=k)
  have hgq:=Ah (a:=aP h L i k q) (i:=q) (by omega)
  have hsc:=ko (L:=L) (i:=i) (k:=k) hq
  have hbq:=hb q hq
  have hkq:=MO hk.1 hk.2 hlb.1 hlb.2
  have hat:=Wn (L:=L) (i:=i) (q:=q) (k:=k) hq
  have hab:-1100000000 <= Az (aP h L i k q) q /\ Az (aP h L i k q) q <= 1100000000:=by
   rw [hat,if_neg (Nat.lt_irrefl q)]
   omega
  refine rd mixed ?_
  iterate 2 refine zv A8 ?_
  refine zv (CB Ap Ak) ?_
  first | refine zv (EG Ak Br) ?_ | refine zv (AL Ak Br) ?_
  refine zv A8 ?_
  refine zv (AB EK) ?_
  refine zv (AL DF Da) ?_
  refine zv A8 ?_
  first | refine zv (BA CO Av) ?_ | refine zv (Bd CO Av) ?_
  refine zv (Bb Av Bl) ?_
  refine zv A8 ?_
  first | refine zv (BA Ap Ak) ?_ | refine zv (Bd Ap Ak) ?_
  refine zv (Bb Ak Br) ?_
  refine zv Mq ?_
  refine zv Am ?_
  refine zv (CB Ap Ak) ?_
  first | refine zs (Gp Ak) ?_ | refine zs (CK Ak) ?_
  refine ⟨by rfl,?_⟩
  refine rg ?_
  refine qv A8 ?_
  refine qv Am ?_
  refine qv A9 ?_
  exact ⟨q+1,hq,(by simp only;omega),(tl [(4,4),(9,9)] (hF:=by simp [Ck,Aa,lk,AA,isLive,Ac,hsc,O3]) (hM:=by simp [CV,Al,Aa,Ae,lk,AA,isLive,Ac,BK,BJ,Af,BI,BL,BO,BM,BN,hsc,O3]))⟩
 ·try simp at hc0
  refine Ad ?_
  refine AJ ?_
  have htl:=O3 (h:=h) (L:=L) (i:=i) (q:=q) (k:=k)
  obtain rfl:q=h.ground.length:=by omega
  have hgq:=Ah (a:=aP h L i k h.ground.length) (i:=i) (by omega)
  have hlb:=bO v hi hi
  have hkq:=MO hk.1 hk.2 hlb.1 hlb.2
  have hat:=Wn (L:=L) (i:=i) (q:=h.ground.length) (k:=k) hi
  rw [if_pos hi] at hat
  have hfu:=kr (L:=L) (k:=k) hi
  refine rd mixed ?_
  iterate 2 refine zv A8 ?_
  refine zv (CB Ap Ak) ?_
  first | refine zv (EG Ak Br) ?_ | refine zv (AL Ak Br) ?_
  refine zv A8 ?_
  refine zv (AQ Cq Cr) ?_
  refine zv A8 ?_
  refine GA (R:=[]) (f104 h v i hi) ?_
  refine zv Mq ?_
  refine zv FW ?_
  refine zv (CB Ap Ak) ?_
  first | refine zs (Gp Ak) ?_ | refine zs (CK Ak) ?_
  refine ⟨by rfl,?_⟩
  refine sg ?_
  refine qv A8 ?_
  refine qv A9 ?_
  refine AP ?_
  exact x1 (hr:=(eu hfu))
end Go.Ab.Tryz.H
namespace Go.Ab.Tryz.H
open Go Go.Ab Go.Ab.Tryz Go.Proofs Go.Ab.Heap
def K7 (h:Hp) (a:List Int):Bool:=a.length == h.ground.length && !a.any fun x=>!KI x 0 30
def Cu (h:Hp) (l:List (List Int)):Int:=if validate h ≠ 0 then validate h else if l.all (K7 h) then 0 else 1
theorem WM {h:Hp} {l:List (List Int)} (e:validate h ≠ 0):Cu h l=validate h:=by unfold Cu;rw [if_pos e]
theorem U2 {h:Hp} {l:List (List Int)} (e:validate h=0) {j:Nat} {a:List Int} (ha:l[j]?=some a) (hb:K7 h a=false):Cu h l=1:=by
 unfold Cu;rw [if_neg (by simp [e]),if_neg]
 intro hh
 rw [List.all_eq_true] at hh
 rw [hh a (List.mem_of_getElem? ha)] at hb;cases hb
theorem QJ {h:Hp} {l:List (List Int)} (e:validate h=0) (hb:∀ (j:Nat) (a:List Int),l[j]?=some a -> K7 h a=true):Cu h l=0:=by
 unfold Cu;rw [if_neg (by simp [e]),if_pos]
 rw [List.all_eq_true]
 intro a ha
 obtain ⟨j,hj,rfl⟩:=List.getElem_of_mem ha
 exact hb j _ (List.getElem?_eq_getElem hj)
structure PV (h:Hp) (a:List Int):Prop where
 len:a.length=h.ground.length
 bd:∀ i,i < h.ground.length -> 0 <= Az a i /\ Az a i <= 30
theorem PV.hpg {h:Hp} {a:List Int} (x:PV h a):wI h a:=⟨x.len,fun i hi=>(x.bd i hi).1⟩
theorem uI {h:Hp} {a:List Int} (e:K7 h a=true):PV h a:=by
 simp only [K7,Bool.and_eq_true,beq_iff_eq,Bool.not_eq_true',List.any_eq_false] at e
 refine ⟨e.1,fun i hi=>?_⟩
 have:=e.2 _ (List.mem_of_getElem? (Ah (a:=a) (i:=i) (by omega)))
 simpa [KI] using this
theorem uJ {h:Hp} {a:List Int} (e:PV h a):K7 h a=true:=by
 simp only [K7,Bool.and_eq_true,beq_iff_eq,Bool.not_eq_true',List.any_eq_false]
 refine ⟨e.len,fun x hx=>?_⟩
 obtain ⟨j,hj,rfl⟩:=List.getElem_of_mem hx
 have:=e.bd j (by have:=e.len;omega)
 unfold Az at this
 rw [List.getD_eq_getElem?_getD,List.getElem?_eq_getElem hj] at this
 simpa [KI] using this
theorem U1 {h:Hp} {l:List (List Int)} (e:Cu h l=0):VH h /\ ∀ a ∈ l,PV h a:=by
 unfold Cu at e
 split at e
 ·rename_i hv;exact absurd e hv
 ·rename_i hv
  split at e
  ·rename_i ha
   exact ⟨YO (by simpa using hv),fun a h2=>uI (List.all_eq_true.1 ha a h2)⟩
  ·cases e
theorem NA {h:Hp} (e:validate h=0):h.ground.length <= 5:=(YO e).n5
theorem XP {h:Hp} {a:List Int} (e:a.length ≠ h.ground.length):K7 h a=false:=by
 unfold K7;rw [beq_eq_false_iff_ne.2 e];rfl
theorem uH {h:Hp} {a:List Int} {x:Int} {j:Nat} (hx:a[j]?=some x) (e:KI x 0 30=false):K7 h a=false:=by
 unfold K7
 rw [Bool.and_eq_false_iff]
 right
 simp only [Bool.not_eq_false']
 exact List.any_eq_true.2 ⟨x,List.mem_of_getElem? hx,by simp [e]⟩
theorem uG {h:Hp} {a:List Int} (e:a.length=h.ground.length) (h2:∀ (j:Nat) (x:Int),a[j]?=some x -> KI x 0 30=true):K7 h a=true:=by
 unfold K7
 simp only [Bool.and_eq_true,beq_iff_eq,Bool.not_eq_true',List.any_eq_false]
 refine ⟨e,fun x hx=>?_⟩
 obtain ⟨j,hj,rfl⟩:=List.getElem_of_mem hx
 simp [h2 j _ (List.getElem?_eq_getElem hj)]
theorem f129 (h:Hp) (l:List (List Int)) (hl:l.length < 1000):AR Tryz.prog 129 [Et h,.list (l.map ints)] (.one (.dv (i64 (Cu h l)))):=by
 refine Bu Tryz.func129 rfl rfl (by rw [Tryz.ntmps129];simp) fun cx hP hn hg=>?_
 rw [Tryz.ntmps129] at hn
 rw [Bq,Bp]
 simp only [List.nil_append,List.append_nil,List.cons_append,BF,Nat.reduceAdd]
 refine sg ?_
 refine qp BX ?_
 refine qv A9 ?_
 refine AJ ?_
 refine sg ?_
 refine qv (AQ Cq Cr) ?_
 refine Bo (f94 h) ?_
 refine qv A9 ?_
 refine sg ?_
 refine qv A8 ?_
 refine qv BP ?_
 refine cd (fun hc0=>?_) (fun hc0=>?_)
 ·skip
  have hv0:validate h ≠ 0:=by simpa using hc0
  refine sg ?_
  refine qv A8 ?_
  refine qv A9 ?_
  refine AP ?_
  exact x1 (hr:=(CW (by rw [WM hv0])))
 ·skip
  have hv0:validate h=0:=by simpa using hc0
  have h5:=NA hv0
  refine AY ?_
  refine AJ ?_
  refine sg ?_
  refine qv A8 ?_
  refine qv (BH Ka) ?_
  refine qv A8 ?_
  refine BD ?_
  refine Ag (ι:=Nat) (fun i=>⟨lk [(2,.pt 2 0 0),(13,.dv (.list ((l).map ints))),(14,.dv (i64 ((l.length:Int)))),(15,.dv (i64 (i:Nat)))],AA [(2,0,some ⟨[.dv (.list ((h.links).map ints)),.dv (ints (h.ground))],0,27,0,false⟩)]⟩) (fun i=>i <= l.length /\ ∀ (j:Nat) (a:List Int),j < i -> l[j]?=some a -> K7 h a=true) (fun i=>l.length - i) 0 (by simp) (tl [(2,2)]) ?_
  intro i Aj
  refine sg ?_
  refine qv BQ ?_
  refine AJ ?_
  refine cd (fun hc1=>?_) (fun hc1=>?_)
  ·try simp at hc1
   refine AY ?_
   refine AJ ?_
   refine BD ?_
   refine sg ?_
   obtain ⟨a,hga⟩:∃ a,l[i]?=some a:=⟨_,List.getElem?_eq_getElem (by omega)⟩
   first | refine qv (BA CO Av) ?_ | refine qv (Bd CO Av) ?_
   refine qv (Bb Av Bl) ?_
   refine qv A9 ?_
   refine sg ?_
   refine qv A8 ?_
   refine qv (BH CZ) ?_
   refine qv (AB F6) ?_
   refine qv (AL Av Bl) ?_
   refine qv (BH CZ) ?_
   refine qv BP ?_
   refine qx A8 (fun bn=>?_) (fun bn=>?_)
   ·try simp at bn
    iterate 2 refine qk ?_
    refine qv Ai ?_
    refine Dw (hb:=by first | rfl | simp | simp_all) (ht:=?_)
    refine sg ?_
    refine qv A9 ?_
    refine AP ?_
    exact x1 (hr:=(CW (by rw [U2 hv0 hga (by first | exact XP (by intro e;exact bn (by exact_mod_cast e)) | (unfold K7;simp [hc2]))])))
   ·try simp at bn
    have hal:a.length=h.ground.length:=by exact_mod_cast bn
    refine qv A8 ?_
    refine Bo (f106 a 165 (fun x=>!KI x 0 30) (fun x _=>f165 x) (by omega)) ?_
    refine qv Ai ?_
    refine cd (fun hc2=>?_) (fun hc2=>?_)
    ·try simp only [Bool.not_eq_true] at hc2
     refine sg ?_
     refine qv A9 ?_
     refine AP ?_
     exact x1 (hr:=(CW (by rw [U2 hv0 hga (by first | exact XP (by intro e;exact bn (by exact_mod_cast e)) | (unfold K7;simp [hc2]))])))
    ·try simp only [Bool.not_eq_true] at hc2
     refine AY ?_
     refine rg ?_
     refine qv Am ?_
     refine qv A8 ?_
     refine ⟨i+1,?_,(by simp only;omega),(tl [(2,2)])⟩
     refine ⟨by omega,fun j b hj hb=>?_⟩
     rcases Nat.lt_or_ge j i with h1 | h1
     ·exact Aj.2 j b h1 hb
     ·obtain rfl:j=i:=by omega
      rw [hga] at hb;cases hb
      unfold K7
      rw [show a.length=h.ground.length by exact_mod_cast bn]
      simp [hc2]
  ·try simp at hc1
   refine Ad ?_
   refine sg ?_
   refine qv A9 ?_
   refine AP ?_
   exact x1 (hr:=(CW (by rw [QJ hv0 fun j a hj=>Aj.2 j a (by have:=(List.getElem?_eq_some_iff.1 hj).1;omega) hj])))
theorem f103 (h:Hp) (a:List Int) (hn:h.ground.length < 1000):AR Tryz.prog 103 [Et h,ints a] (.one (.dv (i64 (if K7 h a then 0 else 1)))):=by
 refine Bu Tryz.func103 rfl rfl (by rw [Tryz.ntmps103];simp) fun cx hP hn hg=>?_
 rw [Tryz.ntmps103] at hn
 rw [Bq,Bp]
 simp only [List.nil_append,List.append_nil,List.cons_append,BF,Nat.reduceAdd]
 refine sg ?_
 refine qp BX ?_
 refine qv A9 ?_
 refine AJ ?_
 refine sg ?_
 refine qv A8 ?_
 refine qv (BH CZ) ?_
 refine qv (AB F6) ?_
 refine qv (AL Av Bl) ?_
 refine qv (BH CZ) ?_
 refine qv BP ?_
 refine cd (fun hc0=>?_) (fun hc0=>?_)
 ·try simp at hc0
  refine sg ?_
  refine qv A9 ?_
  refine AP ?_
  exact x1 (hr:=(CW (by rw [XP (by intro e;exact hc0 (by exact_mod_cast e))];rfl)))
 ·try simp at hc0
  have hla:a.length=h.ground.length:=by exact_mod_cast hc0
  refine AY ?_
  refine AJ ?_
  refine sg ?_
  refine qv A9 ?_
  refine BD ?_
  refine Ag (ι:=Nat) (fun i=>⟨lk [(1,.dv (ints (a))),(5,.dv (i64 (i:Nat)))],AA []⟩) (fun i=>i <= a.length /\ ∀ (j:Nat) (x:Int),j < i -> a[j]?=some x -> KI x 0 30=true) (fun i=>a.length - i) 0 (by simp) (tl []) ?_
  intro i Aj
  refine AJ ?_
  refine sg ?_
  iterate 2 refine qv A8 ?_
  refine qv (BH CZ) ?_
  refine qv BQ ?_
  refine cd (fun hc1=>?_) (fun hc1=>?_)
  ·try simp at hc1
   refine AY ?_
   refine AJ ?_
   refine BD ?_
   refine sg ?_
   have hga:=Ah (a:=a) (i:=i) (by omega)
   iterate 2 refine qv A8 ?_
   first | refine qv (BA Ap Ak) ?_ | refine qv (Bd Ap Ak) ?_
   refine qv (Bb Ak Br) ?_
   refine Bo (f121 (Az a i) 0 30) ?_
   refine qv Bn ?_
   refine cd (fun hc2=>?_) (fun hc2=>?_)
   ·try simp at hc2
    refine sg ?_
    refine qv A9 ?_
    refine AP ?_
    exact x1 (hr:=(CW (by rw [uH hga (by simpa using hc2)];rfl)))
   ·try simp at hc2
    refine AY ?_
    refine rg ?_
    refine qv A8 ?_
    refine qv Am ?_
    refine qv A9 ?_
    refine ⟨i+1,?_,(by simp only;omega),(tl [])⟩
    refine ⟨by omega,fun j x hj hx=>?_⟩
    rcases Nat.lt_or_ge j i with h1 | h1
    ·exact Aj.2 j x h1 hx
    ·obtain rfl:j=i:=by omega
     rw [hga] at hx;cases hx
     simpa using hc2
  ·try simp at hc1
   refine Ad ?_
   refine sg ?_
   refine qv A9 ?_
   refine AP ?_
   exact x1 (hr:=(CW (by rw [uG hla fun j x hj=>Aj.2 j x (by have:=(List.getElem?_eq_some_iff.1 hj).1;omega) hj];rfl)))
theorem f66 (h:Hp) (l:List (List Int)) (hl:l.length < 1000):AR Tryz.prog 66 [Et h,.list (l.map ints)] (.one (.dv (i64 (Cu h l)))):=by
 refine Bu Tryz.func66 rfl rfl (by rw [Tryz.ntmps66];simp) fun cx hP hn hg=>?_
 rw [Tryz.ntmps66] at hn
 rw [Bq,Bp]
 simp only [List.nil_append,List.append_nil,List.cons_append,BF,Nat.reduceAdd]
 refine sg ?_
 refine qp BX ?_
 refine qv A9 ?_
 refine sg ?_
 refine qv (AQ Cq Cr) ?_
 refine Bo (f78 h) ?_
 refine qv A9 ?_
 refine AJ ?_
 refine sg ?_
 refine qv A8 ?_
 refine qv BP ?_
 refine cd (fun hc0=>?_) (fun hc0=>?_)
 ·skip
  have hv0:validate h ≠ 0:=by simpa using hc0
  refine sg ?_
  refine qv A8 ?_
  refine qv A9 ?_
  refine AP ?_
  exact x1 (hr:=(CW (by rw [WM hv0])))
 ·skip
  have hv0:validate h=0:=by simpa using hc0
  have h5:=NA hv0
  refine AY ?_
  refine AJ ?_
  refine sg ?_
  refine qv A9 ?_
  refine BD ?_
  refine Ag (ι:=Nat) (fun i=>⟨lk [(1,.dv (.list ((l).map ints))),(2,.pt 2 0 0),(6,.dv (i64 (i:Nat)))],AA [(2,0,some ⟨[.dv (.list ((h.links).map ints)),.dv (ints (h.ground))],0,27,0,false⟩)]⟩) (fun i=>i <= l.length /\ ∀ (j:Nat) (a:List Int),j < i -> l[j]?=some a -> K7 h a=true) (fun i=>l.length - i) 0 (by simp) (tl [(2,2)]) ?_
  intro i Aj
  refine AJ ?_
  refine sg ?_
  iterate 2 refine qv A8 ?_
  refine qv (BH Ka) ?_
  refine qv BQ ?_
  refine cd (fun hc1=>?_) (fun hc1=>?_)
  ·try simp at hc1
   refine AY ?_
   refine AJ ?_
   refine BD ?_
   refine AJ ?_
   obtain ⟨a,hga⟩:∃ a,l[i]?=some a:=⟨_,List.getElem?_eq_getElem (by omega)⟩
   refine rd mixed ?_
   refine zv (AQ Cq Cr) ?_
   iterate 2 refine zv A8 ?_
   first | refine zv (BA CO Av) ?_ | refine zv (Bd CO Av) ?_
   refine zv (Bb Av Bl) ?_
   refine GA (R:=[]) (f103 h a (by omega)) ?_
   refine zv BP ?_
   refine ⟨by rfl,?_⟩
   refine cd (fun hc2=>?_) (fun hc2=>?_)
   ·skip
    refine sg ?_
    refine qv A9 ?_
    refine AP ?_
    exact x1 (hr:=(CW (by rw [U2 hv0 hga (by cases e:K7 h a with | false=>rfl | true=>(rw [e] at hc2;simp at hc2))])))
   ·skip
    refine AY ?_
    refine rg ?_
    refine qv A8 ?_
    refine qv Am ?_
    refine qv A9 ?_
    refine ⟨i+1,?_,(by simp only;omega),(tl [(2,2)])⟩
    refine ⟨by omega,fun j b hj hb=>?_⟩
    rcases Nat.lt_or_ge j i with h1 | h1
    ·exact Aj.2 j b h1 hb
    ·obtain rfl:j=i:=by omega
     rw [hga] at hb;cases hb
     refine Classical.byContradiction fun hx=>?_
     rw [if_neg hx] at hc2;simp at hc2
  ·try simp at hc1
   refine Ad ?_
   refine sg ?_
   refine qv A9 ?_
   refine AP ?_
   exact x1 (hr:=(CW (by rw [QJ hv0 fun j a hj=>Aj.2 j a (by have:=(List.getElem?_eq_some_iff.1 hj).1;omega) hj])))
def K3 (h:Hp) (i:Int) (l:List (List Int)):Int:=if Cu h l ≠ 0 then Cu h l else if KI i 0 ((h.ground.length:Int) - 1) then 0 else 4
theorem f213 (h:Hp) (i:Int) (l:List (List Int)) (hl:l.length < 1000):AR Tryz.prog 213 [Et h,i64 i,.list (l.map ints)] (.one (.dv (i64 (K3 h i l)))):=by
 refine Bu Tryz.func213 rfl rfl (by rw [Tryz.ntmps213];simp) fun cx hP hn hg=>?_
 rw [Tryz.ntmps213] at hn
 rw [Bq,Bp]
 simp only [List.nil_append,List.append_nil,List.cons_append,BF,Nat.reduceAdd]
 refine sg ?_
 refine qp BX ?_
 refine qv A9 ?_
 refine AJ ?_
 refine sg ?_
 refine qv (AQ Cq Cr) ?_
 refine qv A8 ?_
 refine Bo (f129 h l hl) ?_
 refine qv A9 ?_
 refine sg ?_
 refine qv A8 ?_
 refine qv BP ?_
 refine cd (fun hc0=>?_) (fun hc0=>?_)
 ·skip
  have hv0:Cu h l ≠ 0:=by simpa using hc0
  refine sg ?_
  refine qv A8 ?_
  refine qv A9 ?_
  refine AP ?_
  exact x1 (hr:=(CW (by simp [K3,hv0])))
 ·skip
  have hv0:Cu h l=0:=by simpa using hc0
  have h5:=(U1 hv0).1.n5
  refine AY ?_
  refine AJ ?_
  refine sg ?_
  refine qv A8 ?_
  refine qv (AB F6) ?_
  refine qv (AL Av Bl) ?_
  refine qv (BH CZ) ?_
  refine qv FW ?_
  refine Bo (f133 i 0 ((h.ground.length:Int) - 1)) ?_
  refine qv Bn ?_
  refine cd (fun hc1=>?_) (fun hc1=>?_)
  ·try simp at hc1
   refine sg ?_
   refine qv A9 ?_
   refine AP ?_
   exact x1 (hr:=(CW (by simp [K3,hv0,hc1])))
  ·try simp at hc1
   refine AY ?_
   refine sg ?_
   refine qv A9 ?_
   refine AP ?_
   exact x1 (hr:=(CW (by simp [K3,hv0,hc1])))
end Go.Ab.Tryz.H
