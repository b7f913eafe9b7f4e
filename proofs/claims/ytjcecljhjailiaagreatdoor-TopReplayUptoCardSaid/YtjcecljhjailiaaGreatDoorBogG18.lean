/- BogH3, BogH4, BogH5. -/
import Derived.Test.YtjcecljhjailiaaGreatDoorBogG17
import Derived.Test.YtjcecljhjailiaaGreatDoorBogG07
import Derived.Test.YtjcecljhjailiaaGreatDoorBogG16
set_option linter.all false
namespace Go.Ab.Tryz.H
open Go Go.Ab Go.Ab.Tryz Go.Proofs Go.Ab.Heap
set_option maxHeartbeats 4000000 in
theorem f78 (h:Hp):AR Tryz.prog 78 [GX h] (.one (.dv (i64 (validate h)))):=by
 rw [<- Ry]
 refine Bv Tryz.func78 rfl rfl (by rw [Tryz.ntmps78];simp) fun cx hP hn hg=>?_
 rw [Tryz.ntmps78] at hn
 rw [Br,Bq]
 simp only [List.nil_append,List.append_nil,List.cons_append,BH,Nat.reduceAdd]
 refine sg ?_
 refine qp Bu ?_
 refine qv A9 ?_
 refine sg ?_
 refine qv (AB FK) ?_
 refine qv (AQ Av Bz) ?_
 refine qv (BD Cj) ?_
 refine qv A9 ?_
 refine AL ?_
 refine sg ?_
 refine qv A8 ?_
 refine CF (f121 (h.ground.length) 1 5) ?_
 refine qv CP ?_
 refine qx A8 (fun qF=>?_) (fun qF=>?_)
 ·try simp at qF
  iterate 5 refine qk ?_
  refine qv Ae ?_
  refine G5 (hb:=by first | rfl | simp | simp_all) (ht:=?_)
  refine sg ?_
  refine qv A9 ?_
  refine AV ?_
  exact x1 (hr:=(Cc (by rw [HZ (Zm (by rintro ⟨a,b,c⟩;simp_all [Km];try omega))])))
 ·try simp at qF
  refine qv (AB EA) ?_
  refine qv (AQ DJ DW) ?_
  refine qv (BD KO) ?_
  refine qv A8 ?_
  refine qv Ay ?_
  refine qv Ae ?_
  refine cd (fun hc0=>?_) (fun hc0=>?_)
  ·try simp at hc0
   refine sg ?_
   refine qv A9 ?_
   refine AV ?_
   exact x1 (hr:=(Cc (by rw [HZ (Zm (by rintro ⟨a,b,c⟩;simp_all [Km];try omega))])))
  ·try simp at hc0
   have hn:1 <= h.ground.length /\ h.ground.length <= 5 /\ h.links.length=h.ground.length:=by
    simp only [Km,Bool.and_eq_true,decide_eq_true_eq] at qF
    exact ⟨by omega,by omega,by omega⟩
   refine Af ?_
   refine AL ?_
   refine sg ?_
   refine qv A9 ?_
   refine BI ?_
   refine Ao (ι:=Nat) (fun i=>⟨lk [(1,.pt 1 0 0),(3,.dv (i64 ((h.ground.length:Int)))),(4,.dv (i64 (i:Nat)))],AA [(1,0,some ⟨[.dv (.list ((h.links).map ints)),.dv (ints (h.ground))],0,27,0,false⟩)]⟩) (fun i=>i <= h.ground.length /\ ∀ j,j < i -> (Gn h j).length=h.ground.length /\ Km (Ow h j) 0 2=true) (fun i=>h.ground.length - i) 0 (by simp) (tl [(1,1)]) ?_
   intro i BM
   refine AL ?_
   refine sg ?_
   iterate 2 refine qv A8 ?_
   refine qv BK ?_
   refine cd (fun hc1=>?_) (fun hc1=>?_)
   ·try simp at hc1
    refine Af ?_
    refine AL ?_
    refine BI ?_
    refine sg ?_
    have hi0:i < h.ground.length:=by omega
    have hgl:=Ux hn.2.2 hi0
    have hgg:=NP hi0
    refine qv (AB EA) ?_
    refine qv (AQ DJ DW) ?_
    refine qv A8 ?_
    first | refine qv (BF CJ Av) ?_ | refine qv (Bf CJ Av) ?_
    refine qv (Bb Av Bz) ?_
    refine qv (BD Cj) ?_
    refine qv A8 ?_
    refine qv Ay ?_
    refine qx A8 (fun PG=>?_) (fun PG=>?_)
    ·try simp at PG
     iterate 7 refine qk ?_
     refine qv Ae ?_
     refine G5 (hb:=by first | rfl | simp | simp_all) (ht:=?_)
     refine sg ?_
     refine qv A9 ?_
     refine AV ?_
     exact x1 (hr:=(Cc (by rw [HZ (by first | exact UQ hi0 (by exact_mod_cast PG) | exact MO hi0 (by simp_all [Gh]))])))
    ·try simp at PG
     refine qv (AB FK) ?_
     refine qv (AQ Av Bz) ?_
     refine qv A8 ?_
     first | refine qv (BF BG Aw) ?_ | refine qv (Bf BG Aw) ?_
     refine qv (Bb Aw Bw) ?_
     refine CF (f121 (Ow h i) 0 2) ?_
     refine qv CP ?_
     refine qv Ae ?_
     refine cd (fun hc2=>?_) (fun hc2=>?_)
     ·try simp at hc2
      refine sg ?_
      refine qv A9 ?_
      refine AV ?_
      exact x1 (hr:=(Cc (by rw [HZ (by first | exact UQ hi0 (by exact_mod_cast PG) | exact MO hi0 (by simp_all [Gh]))])))
     ·try simp at hc2
      have hln:(Gn h i).length=h.ground.length:=by exact_mod_cast PG
      refine Af ?_
      refine rg ?_
      refine qv A8 ?_
      refine qv Aq ?_
      refine qv A9 ?_
      refine ⟨i+1,?_,(by simp only;omega),(tl [(1,1)])⟩
      refine ⟨by omega,fun j hj=>?_⟩
      rcases Nat.lt_or_ge j i with h1 | h1
      ·exact BM.2 j h1
      ·obtain rfl:j=i:=by omega
       exact ⟨hln,by simpa using hc2⟩
   ·try simp at hc1
    have hrow:∀ j,j < h.ground.length -> (Gn h j).length=h.ground.length:=fun j hj=>(BM.2 j (by omega)).1
    have hgnd:∀ j,j < h.ground.length -> Km (Ow h j) 0 2=true:=fun j hj=>(BM.2 j (by omega)).2
    refine Ai ?_
    refine AL ?_
    refine sg ?_
    refine qv A9 ?_
    refine BI ?_
    refine Ao (ι:=Nat) (fun i=>⟨lk [(1,.pt 1 0 0),(3,.dv (i64 ((h.ground.length:Int)))),(5,.dv (i64 (i:Nat)))],AA [(1,0,some ⟨[.dv (.list ((h.links).map ints)),.dv (ints (h.ground))],0,27,0,false⟩)]⟩) (fun i=>i <= h.ground.length /\ ∀ j,j < i -> ∀ k,k < h.ground.length -> Ef h j k=true /\ (j=k -> Iy h j k=0)) (fun i=>h.ground.length - i) 0 (by simp) (tl [(1,1)]) ?_
    intro i IL
    refine AL ?_
    refine sg ?_
    skip
    iterate 2 refine qv A8 ?_
    refine qv BK ?_
    refine cd (fun hc3=>?_) (fun hc3=>?_)
    ·try simp at hc3
     have hi1:i < h.ground.length:=by exact_mod_cast hc3
     have hgl:=Ux hn.2.2 hi1
     refine Af ?_
     refine AL ?_
     refine BI ?_
     refine sg ?_
     refine qv A9 ?_
     refine BI ?_
     refine Ao (ι:=Nat) (fun k=>⟨lk [(1,.pt 1 0 0),(3,.dv (i64 ((h.ground.length:Int)))),(5,.dv (i64 (i:Nat))),(6,.dv (i64 (k:Nat)))],AA [(1,0,some ⟨[.dv (.list ((h.links).map ints)),.dv (ints (h.ground))],0,27,0,false⟩)]⟩) (fun k=>k <= h.ground.length /\ ∀ j,j < k -> Ef h i j=true /\ (i=j -> Iy h i j=0)) (fun k=>h.ground.length - k) 0 (by simp) (tl [(1,1)]) ?_
     intro k eu
     refine AL ?_
     refine sg ?_
     iterate 2 refine qv A8 ?_
     refine qv BK ?_
     refine cd (fun hc4=>?_) (fun hc4=>?_)
     ·try simp at hc4
      have hk2:k < h.ground.length:=by exact_mod_cast hc4
      have hgk:=Ux hn.2.2 hk2
      have hl2:=Ot (hrow i hi1) hk2
      have hl3:=Ot (hrow k hk2) hi1
      refine Af ?_
      refine AL ?_
      refine BI ?_
      refine AL ?_
      refine rd mixed ?_
      refine zv (AB EA) ?_
      refine zv (AQ DJ DW) ?_
      refine zv A8 ?_
      first | refine zv (BF CJ Av) ?_ | refine zv (Bf CJ Av) ?_
      refine zv (Bb Av Bz) ?_
      refine zv A8 ?_
      first | refine zv (BF BG Aw) ?_ | refine zv (Bf BG Aw) ?_
      refine zv (Bb Aw Bw) ?_
      refine Kz (R:=[]) (f121 (Iy h i k) 0 2) ?_
      refine zv CP ?_
      refine zx A8 (fun IQ=>?_) (fun IQ=>?_)
      ·try simp at IQ
       iterate 17 refine zk ?_
       refine zv Ae ?_
       refine zv A8 ?_
       iterate 14 refine zk ?_
       refine zv Ae ?_
       refine ⟨by rfl,?_⟩
       refine G5 (hb:=by first | rfl | simp | simp_all) (ht:=?_)
       refine sg ?_
       refine qv A9 ?_
       refine AV ?_
       exact x1 (hr:=(Cc (by rw [HZ (by first | exact YV hi1 (by omega) YN | exact MN hi1 hk2 (by first | (simp only [Ef,IQ,Bool.false_and];done) | (simp only [Ef,Bool.and_eq_false_iff,beq_eq_false_iff_ne];exact .inr (by simpa using X9))))])))
      ·try simp at IQ
       refine zv (AB EA) ?_
       refine zv (AQ DJ DW) ?_
       refine zv A8 ?_
       first | refine zv (BF CJ Av) ?_ | refine zv (Bf CJ Av) ?_
       refine zv (Bb Av Bz) ?_
       refine zv A8 ?_
       first | refine zv (BF BG Aw) ?_ | refine zv (Bf BG Aw) ?_
       refine zv (Bb Aw Bw) ?_
       refine zv (AB EA) ?_
       refine zv (AQ DJ DW) ?_
       refine zv A8 ?_
       first | refine zv (BF CJ Av) ?_ | refine zv (Bf CJ Av) ?_
       refine zv (Bb Av Bz) ?_
       refine zv A8 ?_
       first | refine zv (BF BG Aw) ?_ | refine zv (Bf BG Aw) ?_
       refine zv (Bb Aw Bw) ?_
       refine zv Ay ?_
       refine zv Ae ?_
       refine zx A8 (fun X9=>?_) (fun X9=>?_)
       ·try simp at X9
        iterate 14 refine zk ?_
        refine zv Ae ?_
        refine ⟨by rfl,?_⟩
        refine G5 (hb:=by first | rfl | simp | simp_all) (ht:=?_)
        refine sg ?_
        refine qv A9 ?_
        refine AV ?_
        exact x1 (hr:=(Cc (by rw [HZ (by first | exact YV hi1 (by omega) YN | exact MN hi1 hk2 (by first | (simp only [Ef,IQ,Bool.false_and];done) | (simp only [Ef,Bool.and_eq_false_iff,beq_eq_false_iff_ne];exact .inr (by simpa using X9))))])))
       ·try simp at X9
        iterate 2 refine zv A8 ?_
        refine zv Bl ?_
        refine zx A8 (fun wG=>?_) (fun wG=>?_)
        ·try simp at wG
         refine zv (AB EA) ?_
         refine zv (AQ DJ DW) ?_
         refine zv A8 ?_
         first | refine zv (BF CJ Av) ?_ | refine zv (Bf CJ Av) ?_
         refine zv (Bb Av Bz) ?_
         refine zv A8 ?_
         first | refine zv (BF BG Aw) ?_ | refine zv (Bf BG Aw) ?_
         refine zv (Bb Aw Bw) ?_
         refine zv Ay ?_
         iterate 2 refine zv Ae ?_
         refine ⟨by rfl,?_⟩
         refine cd (fun YN=>?_) (fun YN=>?_)
         ·try simp at YN
          refine sg ?_
          refine qv A9 ?_
          refine AV ?_
          exact x1 (hr:=(Cc (by rw [HZ (by first | exact YV hi1 (by omega) YN | exact MN hi1 hk2 (by first | (simp only [Ef,IQ,Bool.false_and];done) | (simp only [Ef,Bool.and_eq_false_iff,beq_eq_false_iff_ne];exact .inr (by simpa using X9))))])))
         ·try simp at YN
          refine Af ?_
          refine rg ?_
          refine qv A8 ?_
          refine qv Aq ?_
          refine qv A9 ?_
          refine ⟨k+1,?_,(by simp only;omega),(tl [(1,1)])⟩
          refine ⟨by omega,fun j hj=>?_⟩
          rcases Nat.lt_or_ge j k with h1 | h1
          ·exact eu.2 j h1
          ·obtain rfl:j=k:=by omega
           have hno:Ef h i j=true:=by
            simp only [Ef,Bool.and_eq_true,beq_iff_eq]
            exact ⟨by simpa using IQ,by simpa using X9⟩
           refine ⟨hno,fun e=>?_⟩
           first | exact YN | (exfalso;omega)
        ·try simp at wG
         iterate 9 refine zk ?_
         iterate 2 refine zv Ae ?_
         refine ⟨by rfl,?_⟩
         refine Dy (hb:=by first | rfl | simp | simp_all) (ht:=?_)
         refine Af ?_
         refine rg ?_
         refine qv A8 ?_
         refine qv Aq ?_
         refine qv A9 ?_
         refine ⟨k+1,?_,(by simp only;omega),(tl [(1,1)])⟩
         refine ⟨by omega,fun j hj=>?_⟩
         rcases Nat.lt_or_ge j k with h1 | h1
         ·exact eu.2 j h1
         ·obtain rfl:j=k:=by omega
          have hno:Ef h i j=true:=by
           simp only [Ef,Bool.and_eq_true,beq_iff_eq]
           exact ⟨by simpa using IQ,by simpa using X9⟩
          refine ⟨hno,fun e=>?_⟩
          first | exact YN | (exfalso;omega)
     ·try simp at hc4
      refine Ai ?_
      refine rg ?_
      refine qv A8 ?_
      refine qv Aq ?_
      refine qv A9 ?_
      refine ⟨i+1,?_,(by simp only;omega),(tl [(1,1)])⟩
      refine ⟨by omega,fun j hj=>?_⟩
      rcases Nat.lt_or_ge j i with h1 | h1
      ·exact IL.2 j h1
      ·obtain rfl:j=i:=by omega
       exact fun k hk=>eu.2 k (by omega)
    ·try simp at hc3
     have hok:FR h=true:=Wn hn hrow fun j hj=>⟨by simp only [Gh,Bool.and_eq_true,beq_iff_eq];exact ⟨hgnd j hj,(IL.2 j (by omega) j hj).2 rfl⟩,fun k hk=>(IL.2 j (by omega) k hk).1⟩
     refine Ai ?_
     refine sg ?_
     refine qv A8 ?_
     refine qr (tH Eh ze4 Ga by4) ?_
     refine qv A9 ?_
     refine AL ?_
     refine sg ?_
     refine qv A9 ?_
     refine BI ?_
     refine Ao (ι:=Nat) (fun r=>⟨lk [(1,.pt 1 0 0),(3,.dv (i64 ((h.ground.length:Int)))),(7,.sl 7 0 0 h.ground.length),(8,.dv (i64 (r:Nat)))],AA [(1,0,some ⟨[.dv (.list ((h.links).map ints)),.dv (ints (h.ground))],0,27,0,false⟩),(7,0,some (SI 4 (Ev h r)))]⟩) (fun r=>r <= h.ground.length+1) (fun r=>h.ground.length+1 - r) 0 (by simp) (tl [(1,1),(7,103)] (hF:=by simp [DK,AX,lk,AA,isLive,AZ,Ev,Int.toNat_natCast]) (hM:=by simp [Cm,Ar,AX,Aa,lk,AA,isLive,AZ,BO,BN,Al,BL,BP,BS,BQ,BR,Ev,Int.toNat_natCast])) ?_
     intro r hφ3
     refine AL ?_
     refine sg ?_
     iterate 2 refine qv A8 ?_
     refine qv LD ?_
     refine cd (fun hc6=>?_) (fun hc6=>?_)
     ·try simp at hc6
      refine Af ?_
      refine AL ?_
      refine BI ?_
      refine sg ?_
      refine qv A9 ?_
      refine BI ?_
      refine Ao (ι:=Nat) (fun i=>⟨lk [(1,.pt 1 0 0),(3,.dv (i64 ((h.ground.length:Int)))),(7,.sl 7 0 0 h.ground.length),(8,.dv (i64 (r:Nat))),(9,.dv (i64 (i:Nat)))],AA [(1,0,some ⟨[.dv (.list ((h.links).map ints)),.dv (ints (h.ground))],0,27,0,false⟩),(7,0,some (SI 4 (F9 h (Ev h r) i)))]⟩) (fun i=>i <= h.ground.length) (fun i=>h.ground.length - i) 0 (by simp) (tl [(1,1),(7,7)] (hF:=by simp [DK,AX,lk,AA,isLive,AZ,F9]) (hM:=by simp [Cm,Ar,AX,Aa,lk,AA,isLive,AZ,BO,BN,Al,BL,BP,BS,BQ,BR,F9])) ?_
      intro i hφ4
      refine AL ?_
      refine sg ?_
      iterate 2 refine qv A8 ?_
      refine qv BK ?_
      refine cd (fun Xb=>?_) (fun Xb=>?_)
      ·try simp at Xb
       have hi4:i < h.ground.length:=by exact_mod_cast Xb
       have hgl:=Ux hn.2.2 hi4
       have hgg:=NP hi4
       have hpl:(F9 h (Ev h r) i).length=h.ground.length:=by rw [Fb,GQ]
       have hb0:=Im (d:=F9 h (Ev h r) i) (i:=i) (by omega)
       refine Af ?_
       refine AL ?_
       refine BI ?_
       refine sg ?_
       iterate 4 refine qv A8 ?_
       refine qv (CR Eh Ga) ?_
       refine qv (Oq Ga YO (hq:=hb0)) ?_
       refine qx A8 (fun R8=>?_) (fun R8=>?_)
       ·try simp at R8
        iterate 6 refine qk ?_
        refine qv Ae ?_
        refine qv (CR Eh Ga) ?_
        refine qs (Jt Ga (ho:=by omega)) ?_
        refine sg ?_
        refine qv A9 ?_
        refine BI ?_
        refine Ao (ι:=Nat) (fun k=>⟨lk [(1,.pt 1 0 0),(3,.dv (i64 ((h.ground.length:Int)))),(7,.sl 7 0 0 h.ground.length),(8,.dv (i64 (r:Nat))),(9,.dv (i64 (i:Nat))),(10,.dv (i64 (k:Nat)))],AA [(1,0,some ⟨[.dv (.list ((h.links).map ints)),.dv (ints (h.ground))],0,27,0,false⟩),(7,0,some (SI 4 (Ea h (F9 h (Ev h r) i) i k)))]⟩) (fun k=>k <= h.ground.length) (fun k=>h.ground.length - k) 0 (by simp) (tl [(1,1),(7,7)] (hF:=by simp [DK,AX,lk,AA,isLive,AZ,Ea, *]) (hM:=by simp [Cm,Ar,AX,Aa,lk,AA,isLive,AZ,BO,BN,Al,BL,BP,BS,BQ,BR,Ea, *])) ?_
        intro k zY
        refine AL ?_
        refine sg ?_
        iterate 2 refine qv A8 ?_
        refine qv BK ?_
        refine cd (fun hc8=>?_) (fun hc8=>?_)
        ·try simp at hc8
         have hk5:k < h.ground.length:=by exact_mod_cast hc8
         have hl2:=Ot (hrow i hi4) hk5
         have hil:=GR (h:=h) (d:=F9 h (Ev h r) i) (i:=i) k
         rw [Fb,GQ] at hil
         have hbi:=Im (d:=Ea h (F9 h (Ev h r) i) i k) (i:=i) (by omega)
         have hbk:=Im (d:=Ea h (F9 h (Ev h r) i) i k) (i:=k) (by omega)
         refine Af ?_
         refine AL ?_
         refine BI ?_
         refine rg ?_
         iterate 4 refine qv A8 ?_
         refine qv (CR Eh Ga) ?_
         refine qv (Oq Ga YO (hq:=hbi)) ?_
         refine qx A8 (fun R7=>?_) (fun R7=>?_)
         ·try simp at R7
          iterate 15 refine qk ?_
          refine qv Ae ?_
          refine qv (CR Eh Ga) ?_
          refine qs (Jt Ga) ?_
          refine rg ?_
          refine qv A8 ?_
          refine qv Aq ?_
          refine qv A9 ?_
          exact ⟨k+1,hk5,(by simp only;omega),(tl [(1,1),(7,7)] (hF:=by simp [DK,AX,lk,AA,isLive,AZ,Ea, *]) (hM:=by simp [Cm,Ar,AX,Aa,lk,AA,isLive,AZ,BO,BN,Al,BL,BP,BS,BQ,BR,Ea, *]))⟩
         ·try simp at R7
          iterate 2 refine qv A8 ?_
          refine qv (CR Eh Ga) ?_
          refine qv (Oq Ga YO (hq:=hbk)) ?_
          refine qx A8 (fun R6=>?_) (fun R6=>?_)
          ·try simp at R6
           refine qv (AB EA) ?_
           refine qv (AQ DJ DW) ?_
           refine qv A8 ?_
           first | refine qv (BF CJ Av) ?_ | refine qv (Bf CJ Av) ?_
           refine qv (Bb Av Bz) ?_
           refine qv A8 ?_
           first | refine qv (BF BG Aw) ?_ | refine qv (Bf BG Aw) ?_
           refine qv (Bb Aw Bw) ?_
           refine qv Dk ?_
           iterate 2 refine qv Ae ?_
           refine qv (CR Eh Ga) ?_
           refine qs (Jt Ga) ?_
           refine rg ?_
           refine qv A8 ?_
           refine qv Aq ?_
           refine qv A9 ?_
           exact ⟨k+1,hk5,(by simp only;omega),(tl [(1,1),(7,7)] (hF:=by simp [DK,AX,lk,AA,isLive,AZ,Ea, *]) (hM:=by simp [Cm,Ar,AX,Aa,lk,AA,isLive,AZ,BO,BN,Al,BL,BP,BS,BQ,BR,Ea, *]))⟩
          ·try simp at R6
           iterate 9 refine qk ?_
           iterate 2 refine qv Ae ?_
           refine qv (CR Eh Ga) ?_
           refine qs (Jt Ga) ?_
           refine rg ?_
           refine qv A8 ?_
           refine qv Aq ?_
           refine qv A9 ?_
           exact ⟨k+1,hk5,(by simp only;omega),(tl [(1,1),(7,7)] (hF:=by simp [DK,AX,lk,AA,isLive,AZ,Ea, *]) (hM:=by simp [Cm,Ar,AX,Aa,lk,AA,isLive,AZ,BO,BN,Al,BL,BP,BS,BQ,BR,Ea, *]))⟩
        ·try simp at hc8
         have hps:F9 h (Ev h r) (i+1)=Ea h (F9 h (Ev h r) i) i k:=by rw [show k=h.ground.length by omega];rfl
         refine Ai ?_
         refine rg ?_
         refine qv A8 ?_
         refine qv Aq ?_
         refine qv A9 ?_
         exact ⟨i+1,hi4,(by simp only;omega),(tl [(1,1),(7,7)] (hF:=by simp [DK,AX,lk,AA,isLive,AZ,hps]) (hM:=by simp [Cm,Ar,AX,Aa,lk,AA,isLive,AZ,BO,BN,Al,BL,BP,BS,BQ,BR,hps]))⟩
       ·try simp at R8
        refine qv (AB FK) ?_
        refine qv (AQ Av Bz) ?_
        refine qv A8 ?_
        first | refine qv (BF BG Aw) ?_ | refine qv (Bf BG Aw) ?_
        refine qv (Bb Aw Bw) ?_
        refine qv Dk ?_
        refine qv Ae ?_
        refine qv (CR Eh Ga) ?_
        refine qs (Jt Ga (ho:=by omega)) ?_
        refine sg ?_
        refine qv A9 ?_
        refine BI ?_
        refine Ao (ι:=Nat) (fun k=>⟨lk [(1,.pt 1 0 0),(3,.dv (i64 ((h.ground.length:Int)))),(7,.sl 7 0 0 h.ground.length),(8,.dv (i64 (r:Nat))),(9,.dv (i64 (i:Nat))),(10,.dv (i64 (k:Nat)))],AA [(1,0,some ⟨[.dv (.list ((h.links).map ints)),.dv (ints (h.ground))],0,27,0,false⟩),(7,0,some (SI 4 (Ea h (F9 h (Ev h r) i) i k)))]⟩) (fun k=>k <= h.ground.length) (fun k=>h.ground.length - k) 0 (by simp) (tl [(1,1),(7,7)] (hF:=by simp [DK,AX,lk,AA,isLive,AZ,Ea, *]) (hM:=by simp [Cm,Ar,AX,Aa,lk,AA,isLive,AZ,BO,BN,Al,BL,BP,BS,BQ,BR,Ea, *])) ?_
        intro k zY
        refine AL ?_
        refine sg ?_
        iterate 2 refine qv A8 ?_
        refine qv BK ?_
        refine cd (fun hc8=>?_) (fun hc8=>?_)
        ·try simp at hc8
         have hk5:k < h.ground.length:=by exact_mod_cast hc8
         have hl2:=Ot (hrow i hi4) hk5
         have hil:=GR (h:=h) (d:=F9 h (Ev h r) i) (i:=i) k
         rw [Fb,GQ] at hil
         have hbi:=Im (d:=Ea h (F9 h (Ev h r) i) i k) (i:=i) (by omega)
         have hbk:=Im (d:=Ea h (F9 h (Ev h r) i) i k) (i:=k) (by omega)
         refine Af ?_
         refine AL ?_
         refine BI ?_
         refine rg ?_
         iterate 4 refine qv A8 ?_
         refine qv (CR Eh Ga) ?_
         refine qv (Oq Ga YO (hq:=hbi)) ?_
         refine qx A8 (fun R7=>?_) (fun R7=>?_)
         ·try simp at R7
          iterate 15 refine qk ?_
          refine qv Ae ?_
          refine qv (CR Eh Ga) ?_
          refine qs (Jt Ga) ?_
          refine rg ?_
          refine qv A8 ?_
          refine qv Aq ?_
          refine qv A9 ?_
          exact ⟨k+1,hk5,(by simp only;omega),(tl [(1,1),(7,7)] (hF:=by simp [DK,AX,lk,AA,isLive,AZ,Ea, *]) (hM:=by simp [Cm,Ar,AX,Aa,lk,AA,isLive,AZ,BO,BN,Al,BL,BP,BS,BQ,BR,Ea, *]))⟩
         ·try simp at R7
          iterate 2 refine qv A8 ?_
          refine qv (CR Eh Ga) ?_
          refine qv (Oq Ga YO (hq:=hbk)) ?_
          refine qx A8 (fun R6=>?_) (fun R6=>?_)
          ·try simp at R6
           refine qv (AB EA) ?_
           refine qv (AQ DJ DW) ?_
           refine qv A8 ?_
           first | refine qv (BF CJ Av) ?_ | refine qv (Bf CJ Av) ?_
           refine qv (Bb Av Bz) ?_
           refine qv A8 ?_
           first | refine qv (BF BG Aw) ?_ | refine qv (Bf BG Aw) ?_
           refine qv (Bb Aw Bw) ?_
           refine qv Dk ?_
           iterate 2 refine qv Ae ?_
           refine qv (CR Eh Ga) ?_
           refine qs (Jt Ga) ?_
           refine rg ?_
           refine qv A8 ?_
           refine qv Aq ?_
           refine qv A9 ?_
           exact ⟨k+1,hk5,(by simp only;omega),(tl [(1,1),(7,7)] (hF:=by simp [DK,AX,lk,AA,isLive,AZ,Ea, *]) (hM:=by simp [Cm,Ar,AX,Aa,lk,AA,isLive,AZ,BO,BN,Al,BL,BP,BS,BQ,BR,Ea, *]))⟩
          ·try simp at R6
           iterate 9 refine qk ?_
           iterate 2 refine qv Ae ?_
           refine qv (CR Eh Ga) ?_
           refine qs (Jt Ga) ?_
           refine rg ?_
           refine qv A8 ?_
           refine qv Aq ?_
           refine qv A9 ?_
           exact ⟨k+1,hk5,(by simp only;omega),(tl [(1,1),(7,7)] (hF:=by simp [DK,AX,lk,AA,isLive,AZ,Ea, *]) (hM:=by simp [Cm,Ar,AX,Aa,lk,AA,isLive,AZ,BO,BN,Al,BL,BP,BS,BQ,BR,Ea, *]))⟩
        ·try simp at hc8
         have hps:F9 h (Ev h r) (i+1)=Ea h (F9 h (Ev h r) i) i k:=by rw [show k=h.ground.length by omega];rfl
         refine Ai ?_
         refine rg ?_
         refine qv A8 ?_
         refine qv Aq ?_
         refine qv A9 ?_
         exact ⟨i+1,hi4,(by simp only;omega),(tl [(1,1),(7,7)] (hF:=by simp [DK,AX,lk,AA,isLive,AZ,hps]) (hM:=by simp [Cm,Ar,AX,Aa,lk,AA,isLive,AZ,BO,BN,Al,BL,BP,BS,BQ,BR,hps]))⟩
      ·try simp at Xb
       have hrd:Ev h (r+1)=F9 h (Ev h r) i:=by rw [show i=h.ground.length by omega];rfl
       refine Ai ?_
       refine rg ?_
       refine qv A8 ?_
       refine qv Aq ?_
       refine qv A9 ?_
       exact ⟨r+1,by omega,(by simp only;omega),(tl [(1,1),(7,7)] (hF:=by simp [DK,AX,lk,AA,isLive,AZ,hrd]) (hM:=by simp [Cm,Ar,AX,Aa,lk,AA,isLive,AZ,BO,BN,Al,BL,BP,BS,BQ,BR,hrd]))⟩
     ·try simp at hc6
      obtain rfl:r=h.ground.length+1:=by omega
      have hrl:=GQ (h:=h) (h.ground.length+1)
      refine Ai ?_
      refine AL ?_
      refine sg ?_
      refine qv A9 ?_
      refine BI ?_
      refine Ao (ι:=Nat) (fun i=>⟨lk [(3,.dv (i64 ((h.ground.length:Int)))),(7,.sl 7 0 0 h.ground.length),(11,.dv (i64 (i:Nat)))],AA [(7,0,some (SI 4 (Ev h (h.ground.length+1))))]⟩) (fun i=>i <= h.ground.length /\ ∀ j,j < i -> MH (Ev h (h.ground.length+1)) j=true) (fun i=>h.ground.length - i) 0 (by simp) (tl [(7,7)]) ?_
      intro i zX
      refine AL ?_
      refine sg ?_
      iterate 2 refine qv A8 ?_
      refine qv BK ?_
      refine cd (fun qH=>?_) (fun qH=>?_)
      ·try simp at qH
       have hi6:i < h.ground.length:=by exact_mod_cast qH
       have hb6:=Im (d:=Ev h (h.ground.length+1)) (i:=i) (by omega)
       refine Af ?_
       refine AL ?_
       refine BI ?_
       refine sg ?_
       iterate 2 refine qv A8 ?_
       refine qv (CR Eh Ga) ?_
       refine qv (Oq Ga YO (hq:=hb6)) ?_
       refine qv CP ?_
       refine cd (fun Xc=>?_) (fun Xc=>?_)
       ·try simp at Xc
        refine sg ?_
        refine qv A9 ?_
        refine AV ?_
        exact x1 (hr:=(Cc (by rw [Sn hok,if_pos];rw [List.contains_iff_mem];have:=List.mem_of_getElem? hb6;simp_all)))
       ·try simp at Xc
        refine Af ?_
        refine rg ?_
        refine qv A8 ?_
        refine qv Aq ?_
        refine qv A9 ?_
        refine ⟨i+1,?_,(by simp only;omega),(tl [(7,7)])⟩
        refine ⟨by omega,fun j hj=>?_⟩
        rcases Nat.lt_or_ge j i with h1 | h1
        ·exact zX.2 j h1
        ·obtain rfl:j=i:=by omega
         simpa using Xc
      ·try simp at qH
       refine Ai ?_
       refine sg ?_
       refine qv A9 ?_
       refine AV ?_
       exact x1 (hr:=(Cc (by rw [Sn hok,if_neg];rw [Bool.not_eq_true,Qm];exact fun j hj=>zX.2 j (by omega))))
end Go.Ab.Tryz.H
namespace Go.Ab.Tryz.H
open Go Go.Ab Go.Ab.Tryz Go.Proofs Go.Ab.Heap
def qC (h:Hp) (c:List Int) (i:Nat):Bool:=decide (h.sp.lim i <= Az c i)
def high (h:Hp) (c:List Int):Int:=match (List.range h.ground.length).find? (qC h c) with | some i=>i | none=>-1
theorem jr {h:Hp} {c:List Int} {i:Nat} (hi:i < h.ground.length) (hp:h.sp.lim i <= Az c i) (hj:∀ j,j < i -> Az c j < h.sp.lim j):high h c=i:=by
 have:(List.range h.ground.length).find? (qC h c)=some i:=by
  rw [List.find?_range_eq_some]
  exact ⟨by simp [qC,hp],by simpa using hi,fun j h2=>by have:=hj j h2;simp [qC];omega⟩
 unfold high;rw [this]
theorem Tj {h:Hp} {c:List Int} (hj:I8 h c):high h c=-1:=by
 have:(List.range h.ground.length).find? (qC h c)=none:=by
  rw [List.find?_eq_none]
  intro j h2;have:=hj j (by simpa using h2);simp [qC];omega
 unfold high;rw [this]
theorem I4 (h:Hp) (c:List Int):(high h c=-1 /\ I8 h c) \/ ∃ i,i < h.ground.length /\ high h c=(i:Nat) /\ h.sp.lim i <= Az c i:=by
 by_cases hc:I8 h c
 ·exact .inl ⟨Tj hc,hc⟩
 ·right
  cases e:(List.range h.ground.length).find? (qC h c) with
  | none =>
   exfalso
   rw [List.find?_eq_none] at e
   refine hc fun j hj=>?_
   have:=e j (by simpa using hj)
   simp [qC] at this;omega
  | some i =>
   have h1:=List.find?_some e
   have h2:=List.mem_of_find?_eq_some e
   exact ⟨i,by simpa using h2,by unfold high;rw [e],by simpa [qC] using h1⟩
def Xv (h:Hp) (c:List Int):Bool:=decide (high h c < 0)
theorem gK {h:Hp} {c:List Int}:Xv h c=true ↔ I8 h c:=by
 unfold Xv
 rcases I4 h c with ⟨h1,h2⟩ | ⟨i,hi,h1,h2⟩
 ·rw [h1];simp [h2]
 ·rw [h1]
  constructor
  ·intro h3;simp at h3;omega
  ·intro h3;have:=h3 i hi;omega
theorem gJ {h:Hp} {c:List Int} (hc:I8 h c):Xv h c=true:=gK.2 hc
def dN (h:Hp) (L:List Int) (i:Nat) (k:Int) (q:Nat):List Int:=(List.range h.ground.length).map fun j=>Az L j - (if j=i then k * h.sp.lim i else 0)+(if j < q then k * Iy h i j else 0)
theorem map_set {n p:Nat} {f g:Nat -> Int} {x:Int} (h:∀ q,q < n -> q ≠ p -> f q=g q) (hv:p < n -> x=g p):((List.range n).map f).set p x=(List.range n).map g:=by
 apply List.ext_getElem
 ·simp
 ·intro j h1 h2
  have hj:j < n:=by simpa using h2
  rw [List.getElem_set]
  split
  ·rename_i e;subst e;simpa using hv hj
  ·rename_i e;simpa using h j hj (fun e'=>e e'.symm)
theorem ng {h:Hp} {L:List Int} {i q:Nat} {k:Int}:(dN h L i k q).length=h.ground.length:=by simp [dN]
theorem iI {h:Hp} {L:List Int} {i q j:Nat} {k:Int} (hj:j < h.ground.length):Az (dN h L i k q) j=Az L j - (if j=i then k * h.sp.lim i else 0)+(if j < q then k * Iy h i j else 0):=Ro hj
theorem iF {h:Hp} {L:List Int} {i:Nat} {k:Int} (hl:L.length=h.ground.length):L.set i (Az L i - k * h.sp.lim i)=dN h L i k 0:=by
 rw [N8 (a:=L) (n:=h.ground.length) (f:=Az L) hl fun _ _=>rfl]
 refine (map_set (fun q hq hne=>?_) fun hi=>?_).trans rfl
 ·rw [if_neg hne,if_neg (Nat.not_lt_zero q)]
  rw [Ro hq];omega
 ·rw [if_pos rfl,if_neg (Nat.not_lt_zero i),Ro hi];omega
theorem iG {h:Hp} {L:List Int} {i q:Nat} {k:Int} (hq:q < h.ground.length):(dN h L i k q).set q (Az (dN h L i k q) q+k * Iy h i q)=dN h L i k (q+1):=by
 refine map_set (fun j _ hne=>?_) fun _=>?_
 ·by_cases h1:j < q
  ·rw [if_pos h1,if_pos (show j < q+1 by omega)]
  ·rw [if_neg h1,if_neg (show ¬ j < q+1 by omega)]
 ·rw [iI hq,if_neg (Nat.lt_irrefl q),if_pos (Nat.lt_succ_self q)];omega
theorem iH {h:Hp} {L:List Int} {i:Nat} {k:Int}:dN h L i k h.ground.length=QC h L i k:=by
 unfold dN QC
 refine List.map_congr_left fun j hj=>?_
 rw [if_pos (show j < h.ground.length by simpa using hj)]
theorem aD {k l K:Int} (h1:-K <= k) (h2:k <= K) (h3:0 <= l) (h4:l <= 12):-(12 * K) <= k * l /\ k * l <= 12 * K:=by
 have:=oN (a:=k) (b:=l) (A:=K) (B:=12) h1 h2 (by omega) h4
 omega
theorem vY {h:Hp} (v:VH h) {i q:Nat} (hi:i < h.ground.length) (hq:q < h.ground.length):0 <= Iy h i q /\ Iy h i q <= 12:=by have:=v.lb i q hi hq;omega
theorem f130 (h:Hp) (v:VH h) (c:List Int) (hc:c.length=h.ground.length):AR Tryz.prog 130 [GX h,ints c] (.one (.dv (i64 (high h c)))):=by
 have h5:=v.n5
 refine Bv Tryz.func130 rfl rfl (by rw [Tryz.ntmps130];simp) fun cx hP hn hg=>?_
 rw [Tryz.ntmps130] at hn
 rw [Br,Bq]
 simp only [List.nil_append,List.append_nil,List.cons_append,BH,Nat.reduceAdd]
 refine sg ?_
 refine qp Bu ?_
 refine qv A9 ?_
 refine AL ?_
 refine sg ?_
 refine qv A8 ?_
 refine qv (BD Cj) ?_
 refine qv A8 ?_
 refine BI ?_
 refine Ao (ι:=Nat) (fun i=>⟨lk [(2,.pt 2 0 0),(7,.dv (ints (c))),(8,.dv (i64 ((c.length:Int)))),(9,.dv (i64 (i:Nat)))],AA [(2,0,some ⟨[.dv (.list ((h.links).map ints)),.dv (ints (h.ground))],0,27,0,false⟩)]⟩) (fun i=>i <= h.ground.length /\ ∀ j,j < i -> Az c j < h.sp.lim j) (fun i=>h.ground.length - i) 0 (by simp) (tl [(2,2)]) ?_
 intro i BM
 refine sg ?_
 refine qv BK ?_
 refine AL ?_
 refine cd (fun hc0=>?_) (fun hc0=>?_)
 ·try simp at hc0
  refine Af ?_
  refine AL ?_
  refine BI ?_
  refine sg ?_
  have hi:i < h.ground.length:=by omega
  have hgi:=Ap (a:=c) (i:=i) (by omega)
  refine qv A8 ?_
  first | refine qv (BF BG Aw) ?_ | refine qv (Bf BG Aw) ?_
  refine qv (Bb Aw Bw) ?_
  iterate 2 refine qv A9 ?_
  refine sg ?_
  refine qv A8 ?_
  refine qv (AY Dp Dt) ?_
  refine qv A8 ?_
  refine CF (f166 h v i hi) ?_
  refine qv FT ?_
  refine cd (fun hc1=>?_) (fun hc1=>?_)
  ·try simp at hc1
   refine sg ?_
   refine qv A8 ?_
   refine qv A9 ?_
   refine AV ?_
   exact x1 (hr:=(Cc (by rw [jr hi (by omega) BM.2])))
  ·try simp at hc1
   refine Af ?_
   refine rg ?_
   refine qv Aq ?_
   refine qv A8 ?_
   refine ⟨i+1,?_,(by simp only;omega),(tl [(2,2)])⟩
   refine ⟨by omega,fun j hj=>?_⟩
   rcases Nat.lt_or_ge j i with h1 | h1
   ·exact BM.2 j h1
   ·obtain rfl:j=i:=by omega
    omega
 ·try simp at hc0
  refine Ai ?_
  refine sg ?_
  refine qv A9 ?_
  refine AV ?_
  exact x1 (hr:=(Cc (by rw [Tj fun j hj=>BM.2 j (by omega)])))
set_option maxHeartbeats 4000000 in
theorem f233 (h:Hp) (v:VH h) (L:List Int) (i:Nat) (k:Int) (hl:L.length=h.ground.length) (hi:i < h.ground.length) (hb:∀ j,j < h.ground.length -> -1000000000 <= Az L j /\ Az L j <= 1000000000) (hk:-1000000 <= k /\ k <= 1000000) :
  BA Tryz.prog 233 [.dv (GX h),.sl 100000 0 0 h.ground.length,.dv (i64 (i:Int)),.dv (i64 k)] (Bj [(100000,je 0 L)]) ⟨[],Bj [(100000,je 0 (QC h L i k))]⟩:=by
 have hgl:=v.get hi
 have hrl:=v.row i hi
 have h5:=v.n5
 have hL1:=v.om hi
 have hL2:=v.jd hi
 have hbi:=hb i hi
 have hgi:=Ap (a:=L) (i:=i) (by omega)
 have hkl:=aD hk.1 hk.2 (l:=h.sp.lim i) (by omega) hL2
 refine EI Tryz.func233 rfl rfl (by rw [Tryz.ntmps233];simp) fun cx hP hn hg=>?_
 rw [Tryz.ntmps233] at hn
 refine CB ?_
 refine sg ?_
 refine qp Bu ?_
 refine AL ?_
 refine rd mixed ?_
 iterate 2 refine zv A8 ?_
 refine zv (CR BG Aw) ?_
 refine zv (Ig Aw Bw (hq:=hgi)) ?_
 refine zv A8 ?_
 refine zv (AY Dp Dt) ?_
 refine zv A8 ?_
 refine Kz (R:=[]) (f166 h v i hi) ?_
 refine zv Qr ?_
 refine zv Gf ?_
 refine zv (CR BG Aw) ?_
 first | refine zs (KI Aw) ?_ | refine zs (Cu Aw) ?_
 refine ⟨by rfl,?_⟩
 refine AL ?_
 have hz:=iF (i:=i) (k:=k) hl
 refine rg ?_
 refine qv (AB EA) ?_
 refine qv (AQ DJ DW) ?_
 refine qv A8 ?_
 first | refine qv (BF CJ Av) ?_ | refine qv (Bf CJ Av) ?_
 refine qv (Bb Av Bz) ?_
 refine qv (BD Cj) ?_
 refine qv A8 ?_
 refine BI ?_
 refine Ao (ι:=Nat) (fun q=>⟨lk [(1,.sl 100000 0 0 h.ground.length),(3,.dv (i64 (k))),(25,.dv (ints (Gn h i))),(26,.dv (i64 (((Gn h i).length:Int)))),(27,.dv (i64 (q:Nat)))],AA [(100000,0,some (je 0 (dN h L i k q)))]⟩) (fun q=>q <= h.ground.length) (fun q=>h.ground.length - q) 0 (by simp) (tl [(100000,100000)] (hF:=by simp [DK,AX,lk,AA,isLive,AZ,hz]) (hM:=by simp [Cm,Ar,AX,Aa,lk,AA,isLive,AZ,BO,BN,Al,BL,BP,BS,BQ,BR,hz])) ?_
 intro q BM
 refine sg ?_
 refine qv BK ?_
 refine AL ?_
 refine cd (fun hc0=>?_) (fun hc0=>?_)
 ·try simp at hc0
  refine Af ?_
  refine AL ?_
  refine BI ?_
  refine sg ?_
  have hq:q < h.ground.length:=by omega
  have hl2:=v.qJ hi hq
  have hlb:=vY v hi hq
  have htl:=ng (h:=h) (L:=L) (i:=i) (q:=q) (k:=k)
  have hgq:=Ap (a:=dN h L i k q) (i:=q) (by omega)
  have hsc:=iG (L:=L) (i:=i) (k:=k) hq
  have hbq:=hb q hq
  have hkq:=aD hk.1 hk.2 hlb.1 hlb.2
  have hat:=iI (L:=L) (i:=i) (q:=q) (k:=k) hq
  have hab:-1100000000 <= Az (dN h L i k q) q /\ Az (dN h L i k q) q <= 1100000000:=by
   rw [hat,if_neg (Nat.lt_irrefl q)]
   split<;>omega
  refine qv A8 ?_
  first | refine qv (BF BG Aw) ?_ | refine qv (Bf BG Aw) ?_
  refine qv (Bb Aw Bw) ?_
  iterate 2 refine qv A9 ?_
  refine rg ?_
  iterate 2 refine qv A8 ?_
  refine qv (CR BG Aw) ?_
  first | refine qv (Ig Aw Bw) ?_ | refine qv (AQ Aw Bw) ?_
  iterate 2 refine qv A8 ?_
  refine qv Qr ?_
  refine qv Aq ?_
  refine qv (CR BG Aw) ?_
  first | refine qs (KI Aw) ?_ | refine qs (Cu Aw) ?_
  refine rg ?_
  refine qv Aq ?_
  refine qv A8 ?_
  exact ⟨q+1,hq,(by simp only;omega),(tl [(100000,100000)] (hF:=by simp [DK,AX,lk,AA,isLive,AZ,hsc]) (hM:=by simp [Cm,Ar,AX,Aa,lk,AA,isLive,AZ,BO,BN,Al,BL,BP,BS,BQ,BR,hsc]))⟩
 ·try simp at hc0
  refine Ai ?_
  obtain rfl:q=h.ground.length:=by omega
  rw [iH]
  exact xg [(100000,100000)]
end Go.Ab.Tryz.H
namespace Go.Ab.Tryz.H
open Go Go.Ab Go.Ab.Tryz Go.Proofs Go.Ab.Heap
def OO (h:Hp) (a:List Int):Bool:=a.length == h.ground.length && !a.any fun x=>!Km x 0 30
def Da (h:Hp) (l:List (List Int)):Int:=if validate h ≠ 0 then validate h else if l.all (OO h) then 0 else 1
theorem gI {h:Hp} {l:List (List Int)} (e:validate h ≠ 0):Da h l=validate h:=by unfold Da;rw [if_pos e]
theorem Xp {h:Hp} {l:List (List Int)} (e:validate h=0) {j:Nat} {a:List Int} (ha:l[j]?=some a) (hb:OO h a=false):Da h l=1:=by
 unfold Da;rw [if_neg (by simp [e]),if_neg]
 intro hh
 rw [List.all_eq_true] at hh
 rw [hh a (List.mem_of_getElem? ha)] at hb;cases hb
theorem U0 {h:Hp} {l:List (List Int)} (e:validate h=0) (hb:∀ (j:Nat) (a:List Int),l[j]?=some a -> OO h a=true):Da h l=0:=by
 unfold Da;rw [if_neg (by simp [e]),if_pos]
 rw [List.all_eq_true]
 intro a ha
 obtain ⟨j,hj,rfl⟩:=List.getElem_of_mem ha
 exact hb j _ (List.getElem?_eq_getElem hj)
structure Nq (h:Hp) (a:List Int):Prop where
 len:a.length=h.ground.length
 bd:∀ i,i < h.ground.length -> 0 <= Az a i /\ Az a i <= 30
theorem Nq.hpg {h:Hp} {a:List Int} (x:Nq h a):sO h a:=⟨x.len,fun i hi=>(x.bd i hi).1⟩
theorem pz {h:Hp} {a:List Int} (e:OO h a=true):Nq h a:=by
 simp only [OO,Bool.and_eq_true,beq_iff_eq,Bool.not_eq_true',List.any_eq_false] at e
 refine ⟨e.1,fun i hi=>?_⟩
 have:=e.2 _ (List.mem_of_getElem? (Ap (a:=a) (i:=i) (by omega)))
 simpa [Km] using this
theorem q9 {h:Hp} {a:List Int} (e:Nq h a):OO h a=true:=by
 simp only [OO,Bool.and_eq_true,beq_iff_eq,Bool.not_eq_true',List.any_eq_false]
 refine ⟨e.len,fun x hx=>?_⟩
 obtain ⟨j,hj,rfl⟩:=List.getElem_of_mem hx
 have:=e.bd j (by have:=e.len;omega)
 unfold Az at this
 rw [List.getD_eq_getElem?_getD,List.getElem?_eq_getElem hj] at this
 simpa [Km] using this
theorem RZ {h:Hp} {l:List (List Int)} (e:Da h l=0):VH h /\ ∀ a ∈ l,Nq h a:=by
 unfold Da at e
 split at e
 ·rename_i hv;exact absurd e hv
 ·rename_i hv
  split at e
  ·rename_i ha
   exact ⟨Vq (by simpa using hv),fun a h2=>pz (List.all_eq_true.1 ha a h2)⟩
  ·cases e
theorem Q5 {h:Hp} (e:validate h=0):h.ground.length <= 5:=(Vq e).n5
theorem aW {h:Hp} {a:List Int} (e:a.length ≠ h.ground.length):OO h a=false:=by
 unfold OO;rw [beq_eq_false_iff_ne.2 e];rfl
theorem f129 (h:Hp) (l:List (List Int)) (hl:l.length < 1000):AR Tryz.prog 129 [GX h,.list (l.map ints)] (.one (.dv (i64 (Da h l)))):=by
 refine Bv Tryz.func129 rfl rfl (by rw [Tryz.ntmps129];simp) fun cx hP hn hg=>?_
 rw [Tryz.ntmps129] at hn
 rw [Br,Bq]
 simp only [List.nil_append,List.append_nil,List.cons_append,BH,Nat.reduceAdd]
 refine sg ?_
 refine qp Bu ?_
 refine qv A9 ?_
 refine AL ?_
 refine sg ?_
 refine qv (AY Dp Dt) ?_
 refine CF (f94 h) ?_
 refine qv A9 ?_
 refine sg ?_
 refine qv A8 ?_
 refine qv Ay ?_
 refine cd (fun hc0=>?_) (fun hc0=>?_)
 ·skip
  have hv0:validate h ≠ 0:=by simpa using hc0
  refine sg ?_
  refine qv A8 ?_
  refine qv A9 ?_
  refine AV ?_
  exact x1 (hr:=(Cc (by rw [gI hv0])))
 ·skip
  have hv0:validate h=0:=by simpa using hc0
  have h5:=Q5 hv0
  refine Af ?_
  refine AL ?_
  refine sg ?_
  refine qv A8 ?_
  refine qv (BD KO) ?_
  refine qv A8 ?_
  refine BI ?_
  refine Ao (ι:=Nat) (fun i=>⟨lk [(2,.pt 2 0 0),(13,.dv (.list ((l).map ints))),(14,.dv (i64 ((l.length:Int)))),(15,.dv (i64 (i:Nat)))],AA [(2,0,some ⟨[.dv (.list ((h.links).map ints)),.dv (ints (h.ground))],0,27,0,false⟩)]⟩) (fun i=>i <= l.length /\ ∀ (j:Nat) (a:List Int),j < i -> l[j]?=some a -> OO h a=true) (fun i=>l.length - i) 0 (by simp) (tl [(2,2)]) ?_
  intro i BM
  refine sg ?_
  refine qv BK ?_
  refine AL ?_
  refine cd (fun hc1=>?_) (fun hc1=>?_)
  ·try simp at hc1
   refine Af ?_
   refine AL ?_
   refine BI ?_
   refine sg ?_
   obtain ⟨a,hga⟩:∃ a,l[i]?=some a:=⟨_,List.getElem?_eq_getElem (by omega)⟩
   first | refine qv (BF CJ Av) ?_ | refine qv (Bf CJ Av) ?_
   refine qv (Bb Av Bz) ?_
   refine qv A9 ?_
   refine sg ?_
   refine qv A8 ?_
   refine qv (BD Cj) ?_
   refine qv (AB FK) ?_
   refine qv (AQ Av Bz) ?_
   refine qv (BD Cj) ?_
   refine qv Ay ?_
   refine qx A8 (fun ZF=>?_) (fun ZF=>?_)
   ·try simp at ZF
    iterate 2 refine qk ?_
    refine qv Ae ?_
    refine G5 (hb:=by first | rfl | simp | simp_all) (ht:=?_)
    refine sg ?_
    refine qv A9 ?_
    refine AV ?_
    exact x1 (hr:=(Cc (by rw [Xp hv0 hga (by first | exact aW (by intro e;exact ZF (by exact_mod_cast e)) | (unfold OO;simp [hc2]))])))
   ·try simp at ZF
    have hal:a.length=h.ground.length:=by exact_mod_cast ZF
    refine qv A8 ?_
    refine CF (f106 a 165 (fun x=>!Km x 0 30) (fun x _=>f165 x) (by omega)) ?_
    refine qv Ae ?_
    refine cd (fun hc2=>?_) (fun hc2=>?_)
    ·try simp only [Bool.not_eq_true] at hc2
     refine sg ?_
     refine qv A9 ?_
     refine AV ?_
     exact x1 (hr:=(Cc (by rw [Xp hv0 hga (by first | exact aW (by intro e;exact ZF (by exact_mod_cast e)) | (unfold OO;simp [hc2]))])))
    ·try simp only [Bool.not_eq_true] at hc2
     refine Af ?_
     refine rg ?_
     refine qv Aq ?_
     refine qv A8 ?_
     refine ⟨i+1,?_,(by simp only;omega),(tl [(2,2)])⟩
     refine ⟨by omega,fun j b hj hb=>?_⟩
     rcases Nat.lt_or_ge j i with h1 | h1
     ·exact BM.2 j b h1 hb
     ·obtain rfl:j=i:=by omega
      rw [hga] at hb;cases hb
      unfold OO
      rw [show a.length=h.ground.length by exact_mod_cast ZF]
      simp [hc2]
  ·try simp at hc1
   refine Ai ?_
   refine sg ?_
   refine qv A9 ?_
   refine AV ?_
   exact x1 (hr:=(Cc (by rw [U0 hv0 fun j a hj=>BM.2 j a (by have:=(List.getElem?_eq_some_iff.1 hj).1;omega) hj])))
def Lf (h:Hp) (i:Int) (l:List (List Int)):Int:=if Da h l ≠ 0 then Da h l else if Km i 0 ((h.ground.length:Int) - 1) then 0 else 4
theorem f213 (h:Hp) (i:Int) (l:List (List Int)) (hl:l.length < 1000):AR Tryz.prog 213 [GX h,i64 i,.list (l.map ints)] (.one (.dv (i64 (Lf h i l)))):=by
 refine Bv Tryz.func213 rfl rfl (by rw [Tryz.ntmps213];simp) fun cx hP hn hg=>?_
 rw [Tryz.ntmps213] at hn
 rw [Br,Bq]
 simp only [List.nil_append,List.append_nil,List.cons_append,BH,Nat.reduceAdd]
 refine sg ?_
 refine qp Bu ?_
 refine qv A9 ?_
 refine AL ?_
 refine sg ?_
 refine qv (AY Dp Dt) ?_
 refine qv A8 ?_
 refine CF (f129 h l hl) ?_
 refine qv A9 ?_
 refine sg ?_
 refine qv A8 ?_
 refine qv Ay ?_
 refine cd (fun hc0=>?_) (fun hc0=>?_)
 ·skip
  have hv0:Da h l ≠ 0:=by simpa using hc0
  refine sg ?_
  refine qv A8 ?_
  refine qv A9 ?_
  refine AV ?_
  exact x1 (hr:=(Cc (by simp [Lf,hv0])))
 ·skip
  have hv0:Da h l=0:=by simpa using hc0
  have h5:=(RZ hv0).1.n5
  refine Af ?_
  refine AL ?_
  refine sg ?_
  refine qv A8 ?_
  refine qv (AB FK) ?_
  refine qv (AQ Av Bz) ?_
  refine qv (BD Cj) ?_
  refine qv Gf ?_
  refine CF (f133 i 0 ((h.ground.length:Int) - 1)) ?_
  refine qv CP ?_
  refine cd (fun hc1=>?_) (fun hc1=>?_)
  ·try simp at hc1
   refine sg ?_
   refine qv A9 ?_
   refine AV ?_
   exact x1 (hr:=(Cc (by simp [Lf,hv0,hc1])))
  ·try simp at hc1
   refine Af ?_
   refine sg ?_
   refine qv A9 ?_
   refine AV ?_
   exact x1 (hr:=(Cc (by simp [Lf,hv0,hc1])))
end Go.Ab.Tryz.H
