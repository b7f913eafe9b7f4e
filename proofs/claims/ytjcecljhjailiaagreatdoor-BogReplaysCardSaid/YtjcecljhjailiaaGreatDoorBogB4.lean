/- The functions of the bog laws: cuttings, part 14. The walks are written by wip/gen/gw.py. -/
import Derived.Test.YtjcecljhjailiaaGreatDoorBogB3
import Derived.Test.YtjcecljhjailiaaGreatDoorBogG07
set_option linter.all false
namespace Go.Ab.Tryz
open Go Go.Ab Go.Proofs Go.Ab.Ci Go.Ab.Gx
open Go.Ab.Heap (Az Ah BZ)
theorem Iu {c:UInt8} {R:Tx} {e:Nat} (h:(tw c R).length=e):R.take e=tw c R:=by rw [<- h];exact MH c R
theorem kZ {c:UInt8} {R:Tx} {e:Nat} (he:e <= R.length) (hn:∀ j (hj:j < R.length),j < e -> R[j] ≠ c):∀ b ∈ R.take e,b ≠ c:=by
 intro b hb
 obtain ⟨j,hj,rfl⟩:=List.getElem_of_mem hb
 simp only [List.length_take] at hj
 rw [List.getElem_take]
 exact hn j (by omega) (by omega)
theorem aO {c:UInt8} {R:Tx} {e:Nat} (he:e <= R.length) (hl:R.length <= e) (hn:∀ j (hj:j < R.length),j < e -> R[j] ≠ c):(tw c R).length=e:=by
 have h:=kZ he hn
 rw [List.take_of_length_le hl] at h
 rw [Wm h];omega
theorem Wl {c:UInt8} {R:Tx} {e:Nat} (he:e < R.length) (hc:R[e]=c) (hn:∀ j (hj:j < R.length),j < e -> R[j] ≠ c):(tw c R).length=e:=by
 have h:=kZ (by omega) hn
 have h2:R=R.take e ++ c :: R.drop (e+1):=by
  rw [<- hc];simp
 rw [h2,SF _ h];simp;omega
theorem RQ {R:Tx} {e a:Nat} (h:(tw 10 R).length=e) (ha:a <= e) (hl:e <= a) (hn:∀ j (hj:j < R.length),j < a -> R[j] ≠ 32):(tw 32 (tw 10 R)).length=a:=by
 have hle:=I4 10 R
 have hT:=Iu h
 refine aO (by omega) (by omega) fun j hj hja=>?_
 have e1:(tw 10 R)[j]=R[j]'(by omega):=by simp only [<- hT,List.getElem_take]
 rw [e1];exact hn j (by omega) hja
theorem O1 {R:Tx} {e a:Nat} (h:(tw 10 R).length=e) (ha:a < R.length) (hae:a < e) (hc:R[a]=32) (hn:∀ j (hj:j < R.length),j < a -> R[j] ≠ 32):(tw 32 (tw 10 R)).length=a:=by
 have hle:=I4 10 R
 have hT:=Iu h
 have e0:∀ j (hj:j < (tw 10 R).length),(tw 10 R)[j]=R[j]'(by omega):=fun j hj=>by simp only [<- hT,List.getElem_take]
 refine Wl (by omega) (by rw [e0 a (by omega)];exact hc) fun j hj hja=>?_
 rw [e0 j hj];exact hn j (by omega) hja
theorem U6 {b:UInt8} {n:Nat} (hn:n < 256) (h:(b.toNat:Int)=n):b=UInt8.ofNat n:=UInt8.toNat_inj.1 (by rw [UInt8.toNat_ofNat_of_lt' (by simpa using hn)];omega)
theorem MN {R:Tx} {e a:Nat} (h1:(tw 10 R).length=e) (h2:(tw 32 (tw 10 R)).length=a):(tw 10 R).drop ((tw 32 (tw 10 R)).length+1)=(R.take e).drop (a+1) /\ tw 32 (tw 10 R)=R.take a /\ a <= e /\ e <= R.length:=by
 have l1:=I4 32 (tw 10 R)
 have l2:=I4 10 R
 refine ⟨by rw [h2,Iu h1],?_,by omega,by omega⟩
 rw [<- Iu h2,<- Iu h1,List.take_take,Nat.min_eq_left (by omega)]
theorem RV {s:Nat} {R:Tx} {e a:Nat} (h1:(tw 10 R).length=e) (h2:(tw 32 (tw 10 R)).length=a) (he:e < R.length) (ha:a < e) (h3:FH ((R.take e).drop (a+1))=true) (h4:dd (Cj s ((R.take e).drop (a+1)))=R.take a) :
  Eo s R=some ((R.take e).drop (a+1),Cj s ((R.take e).drop (a+1)),R.drop (e+1)):=by
 obtain ⟨e1,e2,_,_⟩:=MN h1 h2
 have h:=lu (s:=s) (R:=R) (by omega) (by omega) (by rw [e1];exact h3) (by rw [e1,e2];exact h4)
 rw [e1,h1] at h
 exact h
theorem EU {s:Nat} {R:Tx} {e a:Nat} (h1:(tw 10 R).length=e) (h2:(tw 32 (tw 10 R)).length=a) (h3:FH ((R.take e).drop (a+1))=false):Eo s R=none :=
 mF (by rw [(MN h1 h2).1];exact h3)
theorem ET {s:Nat} {R:Tx} {e a:Nat} (h1:(tw 10 R).length=e) (h2:(tw 32 (tw 10 R)).length=a) (h4:¬ dd (Cj s ((R.take e).drop (a+1)))=R.take a):Eo s R=none :=
 mD (by rw [(MN h1 h2).1,(MN h1 h2).2.1];exact h4)
set_option maxHeartbeats 4000000 in
theorem f37 (B:Tx) (hB:B.length < 2000000):AR Tryz.prog 37 [CY B] (.many [rX (Aq 100 0 B).1,.dv (CY (Aq 100 0 B).2)]):=by
 refine Bu Tryz.func37 rfl rfl (by rw [Tryz.ntmps37];simp) fun cx hP hn hg=>?_
 rw [Tryz.ntmps37] at hn
 rw [Bq,Bp]
 simp only [List.nil_append,List.append_nil,List.cons_append,BF,Nat.reduceAdd]
 refine sg ?_
 iterate 2 refine qv A9 ?_
 refine sg ?_
 refine qv A9 ?_
 refine sg ?_
 refine qv A9 ?_
 refine AJ ?_
 refine BD ?_
 refine Ag (ι:=List Tx × Nat × Tx) (fun s=>⟨lk [(0,.dv (CY s.2.2)),(4,.sl 4 0 0 ((s.1).length)),(5,.dv (i64 (s.2.1:Nat)))],AA [(4,0,some (LD s.1))]⟩) (fun s=>RInv B s.1 s.2.1 s.2.2) (fun s=>100 - s.1.length) ([],0,B) (RInv.start B) (tl [] (hF:=by simp [Ck,Aa,lk,AA,isLive,Ac,CR]) (hM:=by simp [CV,Al,Aa,Ae,lk,AA,isLive,Ac,BK,BJ,Af,BI,BL,BO,BM,BN,CR])) ?_
 intro ⟨out,sm,R⟩ Aj
 dsimp only at Aj ⊢
 have hle:=Aj.le
 have hrl:=Aj.rl
 have hsl:=Aj.sl
 have hs0:=KO hsl
 refine AJ ?_
 refine sg ?_
 refine qv A8 ?_
 refine qv (Cg Dg) ?_
 refine qv BQ ?_
 refine cd (fun hc0=>?_) (fun hc0=>?_)
 ·try simp at hc0
  refine AY ?_
  refine BD ?_
  refine sg ?_
  skip
  iterate 2 refine qv A9 ?_
  refine AJ ?_
  refine BD ?_
  refine Ag (ι:=Nat) (fun e=>⟨lk [(0,.dv (CY R)),(4,.sl 4 0 0 out.length),(5,.dv (i64 (sm:Nat))),(6,.dv (i64 (0))),(7,.dv (i64 (e:Nat)))],AA [(4,0,some (LD out))]⟩) (fun e=>e <= R.length /\ ∀ j (hj:j < R.length),j < e -> R[j] ≠ 10) (fun e=>R.length - e) 0 ⟨Nat.zero_le _,fun j hj h=>absurd h (Nat.not_lt_zero j)⟩ (tl [(4,4)] (hF:=by simp [Ck,Aa,lk,AA,isLive,Ac,CR]) (hM:=by simp [CV,Al,Aa,Ae,lk,AA,isLive,Ac,BK,BJ,Af,BI,BL,BO,BM,BN,CR])) ?_
  intro e Es
  refine AJ ?_
  refine sg ?_
  iterate 2 refine qv A8 ?_
  refine qv (Dr IC) ?_
  refine qv BQ ?_
  refine qx A8 (fun Ia=>?_) (fun Ia=>?_)
  ·try simp at Ia
   have he:e < R.length:=by omega
   have hb:R[e]?=some R[e]:=List.getElem?_eq_getElem he
   iterate 2 refine qv A8 ?_
   refine qv (Qm e IC hb) ?_
   refine qv BP ?_
   refine qv Ai ?_
   refine cd (fun hc1=>?_) (fun hc1=>?_)
   ·try simp at hc1
    refine AY ?_
    refine BD ?_
    refine rg ?_
    refine qv A8 ?_
    refine qv Am ?_
    refine qv A9 ?_
    exact ⟨e+1,⟨he,fun j hj h=>by
     rcases Nat.lt_or_ge j e with h1 | h1
     ·exact Es.2 j hj h1
     ·obtain rfl:j=e:=by omega
      exact fun q=>by rw [q] at hc1;simp at hc1⟩,(by simp only;omega),(tl [(4,4)] (hF:=by simp [Ck,Aa,lk,AA,isLive,Ac,CR]) (hM:=by simp [CV,Al,Aa,Ae,lk,AA,isLive,Ac,BK,BJ,Af,BI,BL,BO,BM,BN,CR]))⟩
   ·try simp at hc1
    refine Ad ?_
    refine AJ ?_
    refine BD ?_
    refine Ag (ι:=Nat) (fun a=>⟨lk [(0,.dv (CY R)),(4,.sl 4 0 0 out.length),(5,.dv (i64 (sm:Nat))),(6,.dv (i64 (a:Nat))),(7,.dv (i64 (e:Nat)))],AA [(4,0,some (LD out))]⟩) (fun a=>(tw 10 R).length=e /\ a <= e /\ ∀ j (hj:j < R.length),j < a -> R[j] ≠ 32) (fun a=>e - a) 0 ⟨by first | exact aO Es.1 (by omega) Es.2 | exact Wl he (U6 (n:=10) (by decide) (by simpa using hc1)) Es.2,Nat.zero_le _,fun j hj h=>absurd h (Nat.not_lt_zero j)⟩ (tl [(4,4)] (hF:=by simp [Ck,Aa,lk,AA,isLive,Ac,CR]) (hM:=by simp [CV,Al,Aa,Ae,lk,AA,isLive,Ac,BK,BJ,Af,BI,BL,BO,BM,BN,CR])) ?_
    intro a Gy
    refine AJ ?_
    refine sg ?_
    iterate 2 refine qv A8 ?_
    refine qv BQ ?_
    refine qx A8 (fun bf=>?_) (fun bf=>?_)
    ·try simp at bf
     have ha:a < e:=by omega
     have hel:=I4 10 R
     have zM:a < R.length:=by omega
     have hb2:R[a]?=some R[a]:=List.getElem?_eq_getElem zM
     iterate 2 refine qv A8 ?_
     refine qv (Qm a IC hb2) ?_
     refine qv BP ?_
     refine qv Ai ?_
     refine cd (fun hc2=>?_) (fun hc2=>?_)
     ·try simp at hc2
      refine AY ?_
      refine BD ?_
      refine rg ?_
      refine qv A8 ?_
      refine qv Am ?_
      skip
      refine qv A9 ?_
      exact ⟨a+1,⟨Gy.1,ha,fun j hj h=>by
       rcases Nat.lt_or_ge j a with h1 | h1
       ·exact Gy.2.2 j hj h1
       ·obtain rfl:j=a:=by omega
        exact fun q=>by rw [q] at hc2;simp at hc2⟩,(by simp only;omega),(tl [(4,4)] (hF:=by simp [Ck,Aa,lk,AA,isLive,Ac,CR]) (hM:=by simp [CV,Al,Aa,Ae,lk,AA,isLive,Ac,BK,BJ,Af,BI,BL,BO,BM,BN,CR]))⟩
     ·try simp at hc2
      refine Ad ?_
      refine AJ ?_
      refine AJ ?_
      have hte:=Gy.1
      have hel:=I4 10 R
      have K6:(tw 32 (tw 10 R)).length=a:=by
       first
       | exact RQ hte Gy.2.1 (by omega) Gy.2.2
       | exact O1 hte zM ha (U6 (n:=32) (by decide) (by simpa using hc2)) Gy.2.2
      have ho:out.length < 100:=by omega
      have hol:((R.take e).drop (a+1)).length <= R.length:=by simp;omega
      refine rg ?_
      iterate 2 refine qv A8 ?_
      refine qv (Dr IC) ?_
      refine qv Bv ?_
      refine qx A8 (fun LG=>?_) (fun LG=>?_)
      ·try simp at LG
       iterate 3 refine qk ?_
       refine qv Ai ?_
       refine qv A8 ?_
       iterate 7 refine qk ?_
       refine qv Ai ?_
       refine Dw (hb:=by first | rfl | simp | simp_all) (ht:=?_)
       refine Ad ?_
       refine AJ ?_
       have hdn:Aq 100 0 B=(out,R):=by
        first
        | exact Aj.stop (.inl (by omega))
        | exact Aj.stop (.inr (FE (by omega)))
        | exact Aj.stop (.inr (FD (by omega)))
        | exact Aj.stop (.inr (EU hte K6 (by simpa using hc3)))
        | exact Aj.stop (.inr (ET hte K6 (by simpa using hc4)))
       refine rg ?_
       iterate 2 refine qv A8 ?_
       iterate 2 refine qv A9 ?_
       refine AP ?_
       exact x2 (hr:=(Un (by rw [hdn]))) (hr':=(Nw (by rw [hdn])))
      ·try simp at LG
       iterate 2 refine qv A8 ?_
       refine qv Bv ?_
       refine qv Ai ?_
       refine qx A8 (fun NV=>?_) (fun NV=>?_)
       ·try simp at NV
        iterate 7 refine qk ?_
        refine qv Ai ?_
        refine Dw (hb:=by first | rfl | simp | simp_all) (ht:=?_)
        refine Ad ?_
        refine AJ ?_
        have hdn:Aq 100 0 B=(out,R):=by
         first
         | exact Aj.stop (.inl (by omega))
         | exact Aj.stop (.inr (FE (by omega)))
         | exact Aj.stop (.inr (FD (by omega)))
         | exact Aj.stop (.inr (EU hte K6 (by simpa using hc3)))
         | exact Aj.stop (.inr (ET hte K6 (by simpa using hc4)))
        refine rg ?_
        iterate 2 refine qv A8 ?_
        iterate 2 refine qv A9 ?_
        refine AP ?_
        exact x2 (hr:=(Un (by rw [hdn]))) (hr':=(Nw (by rw [hdn])))
       ·try simp at NV
        iterate 2 refine qv A8 ?_
        refine qv Am ?_
        refine qv A8 ?_
        refine qv (F4 (a:=R) (a+1) e IC (by omega) (by omega)) ?_
        refine Bo (f86 ((R.take e).drop (a+1)) (by omega)) ?_
        refine qv Bn ?_
        refine qv Ai ?_
        refine cd (fun hc3=>?_) (fun hc3=>?_)
        ·try simp at hc3
         refine Ad ?_
         refine AJ ?_
         have hdn:Aq 100 0 B=(out,R):=by
          first
          | exact Aj.stop (.inl (by omega))
          | exact Aj.stop (.inr (FE (by omega)))
          | exact Aj.stop (.inr (FD (by omega)))
          | exact Aj.stop (.inr (EU hte K6 (by simpa using hc3)))
          | exact Aj.stop (.inr (ET hte K6 (by simpa using hc4)))
         refine rg ?_
         iterate 2 refine qv A8 ?_
         iterate 2 refine qv A9 ?_
         refine AP ?_
         exact x2 (hr:=(Un (by rw [hdn]))) (hr':=(Nw (by rw [hdn])))
        ·try simp at hc3
         refine AY ?_
         refine sg ?_
         iterate 2 refine qv A8 ?_
         refine qv Am ?_
         refine qv A8 ?_
         refine qv (F4 (a:=R) (a+1) e IC (by omega) (by omega)) ?_
         refine qv A9 ?_
         refine AJ ?_
         refine AJ ?_
         have yx:=Fa hsl ((R.take e).drop (a+1))
         have hit:=KX (Cj sm ((R.take e).drop (a+1)))
         refine rd mixed ?_
         iterate 2 refine zv A8 ?_
         refine GA (R:=[]) (f40 (sm:Nat) ((R.take e).drop (a+1)) (by omega)) ?_
         rw [hs0]
         refine GA (R:=[]) (f87 (Cj sm ((R.take e).drop (a+1)):Nat) (by omega) (by omega)) ?_
         rw [hit]
         iterate 2 refine zv A8 ?_
         refine zv (F4 (a:=R) 0 a IC (by omega) (by omega)) ?_
         refine zv K4 ?_
         refine ⟨by rfl,?_⟩
         refine cd (fun hc4=>?_) (fun hc4=>?_)
         ·try simp at hc4
          refine Ad ?_
          refine AJ ?_
          have hdn:Aq 100 0 B=(out,R):=by
           first
           | exact Aj.stop (.inl (by omega))
           | exact Aj.stop (.inr (FE (by omega)))
           | exact Aj.stop (.inr (FD (by omega)))
           | exact Aj.stop (.inr (EU hte K6 (by simpa using hc3)))
           | exact Aj.stop (.inr (ET hte K6 (by simpa using hc4)))
          refine rg ?_
          iterate 2 refine qv A8 ?_
          iterate 2 refine qv A9 ?_
          refine AP ?_
          exact x2 (hr:=(Un (by rw [hdn]))) (hr':=(Nw (by rw [hdn])))
         ·try simp at hc4
          have hre:=RV (s:=sm) hte K6 (by omega) (by omega) (by simpa using hc3) (by simpa using hc4)
          have hnx:=Aj.next ho hre
          refine AY ?_
          refine sg ?_
          iterate 2 refine qv A8 ?_
          refine Bo (f40 (sm:Nat) ((R.take e).drop (a+1)) (by omega)) ?_
          refine qv A9 ?_
          refine sg ?_
          rw [hs0]
          iterate 2 refine qv A8 ?_
          refine qr (D7 CF KL DZ) ?_
          refine Qg (DK CF CF KL DZ WQ (hc:=El)) ?_
          refine qv A9 ?_
          refine rg ?_
          iterate 2 refine qv A8 ?_
          refine qv Am ?_
          refine qv (F4 (a:=R) (e+1) R.length IC (by omega) (Nat.le_refl _)) ?_
          refine qv A9 ?_
          exact ⟨(out ++ [((R.take e).drop (a+1))],Cj sm ((R.take e).drop (a+1)),R.drop (e+1)),hnx,(by simp;omega),(tl [(4,72)] (hF:=by simp [Ck,Aa,lk,AA,isLive,Ac,CR]) (hM:=by simp [CV,Al,Aa,Ae,lk,AA,isLive,Ac,BK,BJ,Af,BI,BL,BO,BM,BN,CR]))⟩
    ·try simp at bf
     iterate 4 refine qk ?_
     refine qv Ai ?_
     refine Cv (hb:=by first | rfl | simp | simp_all) (ht:=?_)
     refine Ad ?_
     refine AJ ?_
     refine AJ ?_
     have hte:=Gy.1
     have hel:=I4 10 R
     have K6:(tw 32 (tw 10 R)).length=a:=by
      first
      | exact RQ hte Gy.2.1 (by omega) Gy.2.2
      | exact O1 hte zM ha (U6 (n:=32) (by decide) (by simpa using hc2)) Gy.2.2
     have ho:out.length < 100:=by omega
     have hol:((R.take e).drop (a+1)).length <= R.length:=by simp;omega
     refine rg ?_
     iterate 2 refine qv A8 ?_
     refine qv (Dr IC) ?_
     refine qv Bv ?_
     refine qx A8 (fun LG=>?_) (fun LG=>?_)
     ·try simp at LG
      iterate 3 refine qk ?_
      refine qv Ai ?_
      refine qv A8 ?_
      iterate 7 refine qk ?_
      refine qv Ai ?_
      refine Dw (hb:=by first | rfl | simp | simp_all) (ht:=?_)
      refine Ad ?_
      refine AJ ?_
      have hdn:Aq 100 0 B=(out,R):=by
       first
       | exact Aj.stop (.inl (by omega))
       | exact Aj.stop (.inr (FE (by omega)))
       | exact Aj.stop (.inr (FD (by omega)))
       | exact Aj.stop (.inr (EU hte K6 (by simpa using hc3)))
       | exact Aj.stop (.inr (ET hte K6 (by simpa using hc4)))
      refine rg ?_
      iterate 2 refine qv A8 ?_
      iterate 2 refine qv A9 ?_
      refine AP ?_
      exact x2 (hr:=(Un (by rw [hdn]))) (hr':=(Nw (by rw [hdn])))
     ·try simp at LG
      iterate 2 refine qv A8 ?_
      refine qv Bv ?_
      refine qv Ai ?_
      refine qx A8 (fun NV=>?_) (fun NV=>?_)
      ·try simp at NV
       iterate 7 refine qk ?_
       refine qv Ai ?_
       refine Dw (hb:=by first | rfl | simp | simp_all) (ht:=?_)
       refine Ad ?_
       refine AJ ?_
       have hdn:Aq 100 0 B=(out,R):=by
        first
        | exact Aj.stop (.inl (by omega))
        | exact Aj.stop (.inr (FE (by omega)))
        | exact Aj.stop (.inr (FD (by omega)))
        | exact Aj.stop (.inr (EU hte K6 (by simpa using hc3)))
        | exact Aj.stop (.inr (ET hte K6 (by simpa using hc4)))
       refine rg ?_
       iterate 2 refine qv A8 ?_
       iterate 2 refine qv A9 ?_
       refine AP ?_
       exact x2 (hr:=(Un (by rw [hdn]))) (hr':=(Nw (by rw [hdn])))
      ·try simp at NV
       iterate 2 refine qv A8 ?_
       refine qv Am ?_
       refine qv A8 ?_
       refine qv (F4 (a:=R) (a+1) e IC (by omega) (by omega)) ?_
       refine Bo (f86 ((R.take e).drop (a+1)) (by omega)) ?_
       refine qv Bn ?_
       refine qv Ai ?_
       refine cd (fun hc3=>?_) (fun hc3=>?_)
       ·try simp at hc3
        refine Ad ?_
        refine AJ ?_
        have hdn:Aq 100 0 B=(out,R):=by
         first
         | exact Aj.stop (.inl (by omega))
         | exact Aj.stop (.inr (FE (by omega)))
         | exact Aj.stop (.inr (FD (by omega)))
         | exact Aj.stop (.inr (EU hte K6 (by simpa using hc3)))
         | exact Aj.stop (.inr (ET hte K6 (by simpa using hc4)))
        refine rg ?_
        iterate 2 refine qv A8 ?_
        iterate 2 refine qv A9 ?_
        refine AP ?_
        exact x2 (hr:=(Un (by rw [hdn]))) (hr':=(Nw (by rw [hdn])))
       ·try simp at hc3
        refine AY ?_
        refine sg ?_
        iterate 2 refine qv A8 ?_
        refine qv Am ?_
        refine qv A8 ?_
        refine qv (F4 (a:=R) (a+1) e IC (by omega) (by omega)) ?_
        refine qv A9 ?_
        refine AJ ?_
        refine AJ ?_
        have yx:=Fa hsl ((R.take e).drop (a+1))
        have hit:=KX (Cj sm ((R.take e).drop (a+1)))
        refine rd mixed ?_
        iterate 2 refine zv A8 ?_
        refine GA (R:=[]) (f40 (sm:Nat) ((R.take e).drop (a+1)) (by omega)) ?_
        rw [hs0]
        refine GA (R:=[]) (f87 (Cj sm ((R.take e).drop (a+1)):Nat) (by omega) (by omega)) ?_
        rw [hit]
        iterate 2 refine zv A8 ?_
        refine zv (F4 (a:=R) 0 a IC (by omega) (by omega)) ?_
        refine zv K4 ?_
        refine ⟨by rfl,?_⟩
        refine cd (fun hc4=>?_) (fun hc4=>?_)
        ·try simp at hc4
         refine Ad ?_
         refine AJ ?_
         have hdn:Aq 100 0 B=(out,R):=by
          first
          | exact Aj.stop (.inl (by omega))
          | exact Aj.stop (.inr (FE (by omega)))
          | exact Aj.stop (.inr (FD (by omega)))
          | exact Aj.stop (.inr (EU hte K6 (by simpa using hc3)))
          | exact Aj.stop (.inr (ET hte K6 (by simpa using hc4)))
         refine rg ?_
         iterate 2 refine qv A8 ?_
         iterate 2 refine qv A9 ?_
         refine AP ?_
         exact x2 (hr:=(Un (by rw [hdn]))) (hr':=(Nw (by rw [hdn])))
        ·try simp at hc4
         have hre:=RV (s:=sm) hte K6 (by omega) (by omega) (by simpa using hc3) (by simpa using hc4)
         have hnx:=Aj.next ho hre
         refine AY ?_
         refine sg ?_
         iterate 2 refine qv A8 ?_
         refine Bo (f40 (sm:Nat) ((R.take e).drop (a+1)) (by omega)) ?_
         refine qv A9 ?_
         refine sg ?_
         rw [hs0]
         iterate 2 refine qv A8 ?_
         refine qr (D7 CF KL DZ) ?_
         refine Qg (DK CF CF KL DZ WQ (hc:=El)) ?_
         refine qv A9 ?_
         refine rg ?_
         iterate 2 refine qv A8 ?_
         refine qv Am ?_
         refine qv (F4 (a:=R) (e+1) R.length IC (by omega) (Nat.le_refl _)) ?_
         refine qv A9 ?_
         exact ⟨(out ++ [((R.take e).drop (a+1))],Cj sm ((R.take e).drop (a+1)),R.drop (e+1)),hnx,(by simp;omega),(tl [(4,72)] (hF:=by simp [Ck,Aa,lk,AA,isLive,Ac,CR]) (hM:=by simp [CV,Al,Aa,Ae,lk,AA,isLive,Ac,BK,BJ,Af,BI,BL,BO,BM,BN,CR]))⟩
  ·try simp at Ia
   iterate 4 refine qk ?_
   refine qv Ai ?_
   refine Cv (hb:=by first | rfl | simp | simp_all) (ht:=?_)
   refine Ad ?_
   refine AJ ?_
   refine BD ?_
   refine Ag (ι:=Nat) (fun a=>⟨lk [(0,.dv (CY R)),(4,.sl 4 0 0 out.length),(5,.dv (i64 (sm:Nat))),(6,.dv (i64 (a:Nat))),(7,.dv (i64 (e:Nat)))],AA [(4,0,some (LD out))]⟩) (fun a=>(tw 10 R).length=e /\ a <= e /\ ∀ j (hj:j < R.length),j < a -> R[j] ≠ 32) (fun a=>e - a) 0 ⟨by first | exact aO Es.1 (by omega) Es.2 | exact Wl he (U6 (n:=10) (by decide) (by simpa using hc1)) Es.2,Nat.zero_le _,fun j hj h=>absurd h (Nat.not_lt_zero j)⟩ (tl [(4,4)] (hF:=by simp [Ck,Aa,lk,AA,isLive,Ac,CR]) (hM:=by simp [CV,Al,Aa,Ae,lk,AA,isLive,Ac,BK,BJ,Af,BI,BL,BO,BM,BN,CR])) ?_
   intro a Gy
   refine AJ ?_
   refine sg ?_
   iterate 2 refine qv A8 ?_
   refine qv BQ ?_
   refine qx A8 (fun bf=>?_) (fun bf=>?_)
   ·try simp at bf
    have ha:a < e:=by omega
    have hel:=I4 10 R
    have zM:a < R.length:=by omega
    have hb2:R[a]?=some R[a]:=List.getElem?_eq_getElem zM
    iterate 2 refine qv A8 ?_
    refine qv (Qm a IC hb2) ?_
    refine qv BP ?_
    refine qv Ai ?_
    refine cd (fun hc2=>?_) (fun hc2=>?_)
    ·try simp at hc2
     refine AY ?_
     refine BD ?_
     refine rg ?_
     refine qv A8 ?_
     refine qv Am ?_
     skip
     refine qv A9 ?_
     exact ⟨a+1,⟨Gy.1,ha,fun j hj h=>by
      rcases Nat.lt_or_ge j a with h1 | h1
      ·exact Gy.2.2 j hj h1
      ·obtain rfl:j=a:=by omega
       exact fun q=>by rw [q] at hc2;simp at hc2⟩,(by simp only;omega),(tl [(4,4)] (hF:=by simp [Ck,Aa,lk,AA,isLive,Ac,CR]) (hM:=by simp [CV,Al,Aa,Ae,lk,AA,isLive,Ac,BK,BJ,Af,BI,BL,BO,BM,BN,CR]))⟩
    ·try simp at hc2
     refine Ad ?_
     refine AJ ?_
     refine AJ ?_
     have hte:=Gy.1
     have hel:=I4 10 R
     have K6:(tw 32 (tw 10 R)).length=a:=by
      first
      | exact RQ hte Gy.2.1 (by omega) Gy.2.2
      | exact O1 hte zM ha (U6 (n:=32) (by decide) (by simpa using hc2)) Gy.2.2
     have ho:out.length < 100:=by omega
     have hol:((R.take e).drop (a+1)).length <= R.length:=by simp;omega
     refine rg ?_
     iterate 2 refine qv A8 ?_
     refine qv (Dr IC) ?_
     refine qv Bv ?_
     refine qx A8 (fun LG=>?_) (fun LG=>?_)
     ·try simp at LG
      iterate 3 refine qk ?_
      refine qv Ai ?_
      refine qv A8 ?_
      iterate 7 refine qk ?_
      refine qv Ai ?_
      refine Dw (hb:=by first | rfl | simp | simp_all) (ht:=?_)
      refine Ad ?_
      refine AJ ?_
      have hdn:Aq 100 0 B=(out,R):=by
       first
       | exact Aj.stop (.inl (by omega))
       | exact Aj.stop (.inr (FE (by omega)))
       | exact Aj.stop (.inr (FD (by omega)))
       | exact Aj.stop (.inr (EU hte K6 (by simpa using hc3)))
       | exact Aj.stop (.inr (ET hte K6 (by simpa using hc4)))
      refine rg ?_
      iterate 2 refine qv A8 ?_
      iterate 2 refine qv A9 ?_
      refine AP ?_
      exact x2 (hr:=(Un (by rw [hdn]))) (hr':=(Nw (by rw [hdn])))
     ·try simp at LG
      iterate 2 refine qv A8 ?_
      refine qv Bv ?_
      refine qv Ai ?_
      refine qx A8 (fun NV=>?_) (fun NV=>?_)
      ·try simp at NV
       iterate 7 refine qk ?_
       refine qv Ai ?_
       refine Dw (hb:=by first | rfl | simp | simp_all) (ht:=?_)
       refine Ad ?_
       refine AJ ?_
       have hdn:Aq 100 0 B=(out,R):=by
        first
        | exact Aj.stop (.inl (by omega))
        | exact Aj.stop (.inr (FE (by omega)))
        | exact Aj.stop (.inr (FD (by omega)))
        | exact Aj.stop (.inr (EU hte K6 (by simpa using hc3)))
        | exact Aj.stop (.inr (ET hte K6 (by simpa using hc4)))
       refine rg ?_
       iterate 2 refine qv A8 ?_
       iterate 2 refine qv A9 ?_
       refine AP ?_
       exact x2 (hr:=(Un (by rw [hdn]))) (hr':=(Nw (by rw [hdn])))
      ·try simp at NV
       iterate 2 refine qv A8 ?_
       refine qv Am ?_
       refine qv A8 ?_
       refine qv (F4 (a:=R) (a+1) e IC (by omega) (by omega)) ?_
       refine Bo (f86 ((R.take e).drop (a+1)) (by omega)) ?_
       refine qv Bn ?_
       refine qv Ai ?_
       refine cd (fun hc3=>?_) (fun hc3=>?_)
       ·try simp at hc3
        refine Ad ?_
        refine AJ ?_
        have hdn:Aq 100 0 B=(out,R):=by
         first
         | exact Aj.stop (.inl (by omega))
         | exact Aj.stop (.inr (FE (by omega)))
         | exact Aj.stop (.inr (FD (by omega)))
         | exact Aj.stop (.inr (EU hte K6 (by simpa using hc3)))
         | exact Aj.stop (.inr (ET hte K6 (by simpa using hc4)))
        refine rg ?_
        iterate 2 refine qv A8 ?_
        iterate 2 refine qv A9 ?_
        refine AP ?_
        exact x2 (hr:=(Un (by rw [hdn]))) (hr':=(Nw (by rw [hdn])))
       ·try simp at hc3
        refine AY ?_
        refine sg ?_
        iterate 2 refine qv A8 ?_
        refine qv Am ?_
        refine qv A8 ?_
        refine qv (F4 (a:=R) (a+1) e IC (by omega) (by omega)) ?_
        refine qv A9 ?_
        refine AJ ?_
        refine AJ ?_
        have yx:=Fa hsl ((R.take e).drop (a+1))
        have hit:=KX (Cj sm ((R.take e).drop (a+1)))
        refine rd mixed ?_
        iterate 2 refine zv A8 ?_
        refine GA (R:=[]) (f40 (sm:Nat) ((R.take e).drop (a+1)) (by omega)) ?_
        rw [hs0]
        refine GA (R:=[]) (f87 (Cj sm ((R.take e).drop (a+1)):Nat) (by omega) (by omega)) ?_
        rw [hit]
        iterate 2 refine zv A8 ?_
        refine zv (F4 (a:=R) 0 a IC (by omega) (by omega)) ?_
        refine zv K4 ?_
        refine ⟨by rfl,?_⟩
        refine cd (fun hc4=>?_) (fun hc4=>?_)
        ·try simp at hc4
         refine Ad ?_
         refine AJ ?_
         have hdn:Aq 100 0 B=(out,R):=by
          first
          | exact Aj.stop (.inl (by omega))
          | exact Aj.stop (.inr (FE (by omega)))
          | exact Aj.stop (.inr (FD (by omega)))
          | exact Aj.stop (.inr (EU hte K6 (by simpa using hc3)))
          | exact Aj.stop (.inr (ET hte K6 (by simpa using hc4)))
         refine rg ?_
         iterate 2 refine qv A8 ?_
         iterate 2 refine qv A9 ?_
         refine AP ?_
         exact x2 (hr:=(Un (by rw [hdn]))) (hr':=(Nw (by rw [hdn])))
        ·try simp at hc4
         have hre:=RV (s:=sm) hte K6 (by omega) (by omega) (by simpa using hc3) (by simpa using hc4)
         have hnx:=Aj.next ho hre
         refine AY ?_
         refine sg ?_
         iterate 2 refine qv A8 ?_
         refine Bo (f40 (sm:Nat) ((R.take e).drop (a+1)) (by omega)) ?_
         refine qv A9 ?_
         refine sg ?_
         rw [hs0]
         iterate 2 refine qv A8 ?_
         refine qr (D7 CF KL DZ) ?_
         refine Qg (DK CF CF KL DZ WQ (hc:=El)) ?_
         refine qv A9 ?_
         refine rg ?_
         iterate 2 refine qv A8 ?_
         refine qv Am ?_
         refine qv (F4 (a:=R) (e+1) R.length IC (by omega) (Nat.le_refl _)) ?_
         refine qv A9 ?_
         exact ⟨(out ++ [((R.take e).drop (a+1))],Cj sm ((R.take e).drop (a+1)),R.drop (e+1)),hnx,(by simp;omega),(tl [(4,72)] (hF:=by simp [Ck,Aa,lk,AA,isLive,Ac,CR]) (hM:=by simp [CV,Al,Aa,Ae,lk,AA,isLive,Ac,BK,BJ,Af,BI,BL,BO,BM,BN,CR]))⟩
   ·try simp at bf
    iterate 4 refine qk ?_
    refine qv Ai ?_
    refine Cv (hb:=by first | rfl | simp | simp_all) (ht:=?_)
    refine Ad ?_
    refine AJ ?_
    refine AJ ?_
    have hte:=Gy.1
    have hel:=I4 10 R
    have K6:(tw 32 (tw 10 R)).length=a:=by
     first
     | exact RQ hte Gy.2.1 (by omega) Gy.2.2
     | exact O1 hte zM ha (U6 (n:=32) (by decide) (by simpa using hc2)) Gy.2.2
    have ho:out.length < 100:=by omega
    have hol:((R.take e).drop (a+1)).length <= R.length:=by simp;omega
    refine rg ?_
    iterate 2 refine qv A8 ?_
    refine qv (Dr IC) ?_
    refine qv Bv ?_
    refine qx A8 (fun LG=>?_) (fun LG=>?_)
    ·try simp at LG
     iterate 3 refine qk ?_
     refine qv Ai ?_
     refine qv A8 ?_
     iterate 7 refine qk ?_
     refine qv Ai ?_
     refine Dw (hb:=by first | rfl | simp | simp_all) (ht:=?_)
     refine Ad ?_
     refine AJ ?_
     have hdn:Aq 100 0 B=(out,R):=by
      first
      | exact Aj.stop (.inl (by omega))
      | exact Aj.stop (.inr (FE (by omega)))
      | exact Aj.stop (.inr (FD (by omega)))
      | exact Aj.stop (.inr (EU hte K6 (by simpa using hc3)))
      | exact Aj.stop (.inr (ET hte K6 (by simpa using hc4)))
     refine rg ?_
     iterate 2 refine qv A8 ?_
     iterate 2 refine qv A9 ?_
     refine AP ?_
     exact x2 (hr:=(Un (by rw [hdn]))) (hr':=(Nw (by rw [hdn])))
    ·try simp at LG
     iterate 2 refine qv A8 ?_
     refine qv Bv ?_
     refine qv Ai ?_
     refine qx A8 (fun NV=>?_) (fun NV=>?_)
     ·try simp at NV
      iterate 7 refine qk ?_
      refine qv Ai ?_
      refine Dw (hb:=by first | rfl | simp | simp_all) (ht:=?_)
      refine Ad ?_
      refine AJ ?_
      have hdn:Aq 100 0 B=(out,R):=by
       first
       | exact Aj.stop (.inl (by omega))
       | exact Aj.stop (.inr (FE (by omega)))
       | exact Aj.stop (.inr (FD (by omega)))
       | exact Aj.stop (.inr (EU hte K6 (by simpa using hc3)))
       | exact Aj.stop (.inr (ET hte K6 (by simpa using hc4)))
      refine rg ?_
      iterate 2 refine qv A8 ?_
      iterate 2 refine qv A9 ?_
      refine AP ?_
      exact x2 (hr:=(Un (by rw [hdn]))) (hr':=(Nw (by rw [hdn])))
     ·try simp at NV
      iterate 2 refine qv A8 ?_
      refine qv Am ?_
      refine qv A8 ?_
      refine qv (F4 (a:=R) (a+1) e IC (by omega) (by omega)) ?_
      refine Bo (f86 ((R.take e).drop (a+1)) (by omega)) ?_
      refine qv Bn ?_
      refine qv Ai ?_
      refine cd (fun hc3=>?_) (fun hc3=>?_)
      ·try simp at hc3
       refine Ad ?_
       refine AJ ?_
       have hdn:Aq 100 0 B=(out,R):=by
        first
        | exact Aj.stop (.inl (by omega))
        | exact Aj.stop (.inr (FE (by omega)))
        | exact Aj.stop (.inr (FD (by omega)))
        | exact Aj.stop (.inr (EU hte K6 (by simpa using hc3)))
        | exact Aj.stop (.inr (ET hte K6 (by simpa using hc4)))
       refine rg ?_
       iterate 2 refine qv A8 ?_
       iterate 2 refine qv A9 ?_
       refine AP ?_
       exact x2 (hr:=(Un (by rw [hdn]))) (hr':=(Nw (by rw [hdn])))
      ·try simp at hc3
       refine AY ?_
       refine sg ?_
       iterate 2 refine qv A8 ?_
       refine qv Am ?_
       refine qv A8 ?_
       refine qv (F4 (a:=R) (a+1) e IC (by omega) (by omega)) ?_
       refine qv A9 ?_
       refine AJ ?_
       refine AJ ?_
       have yx:=Fa hsl ((R.take e).drop (a+1))
       have hit:=KX (Cj sm ((R.take e).drop (a+1)))
       refine rd mixed ?_
       iterate 2 refine zv A8 ?_
       refine GA (R:=[]) (f40 (sm:Nat) ((R.take e).drop (a+1)) (by omega)) ?_
       rw [hs0]
       refine GA (R:=[]) (f87 (Cj sm ((R.take e).drop (a+1)):Nat) (by omega) (by omega)) ?_
       rw [hit]
       iterate 2 refine zv A8 ?_
       refine zv (F4 (a:=R) 0 a IC (by omega) (by omega)) ?_
       refine zv K4 ?_
       refine ⟨by rfl,?_⟩
       refine cd (fun hc4=>?_) (fun hc4=>?_)
       ·try simp at hc4
        refine Ad ?_
        refine AJ ?_
        have hdn:Aq 100 0 B=(out,R):=by
         first
         | exact Aj.stop (.inl (by omega))
         | exact Aj.stop (.inr (FE (by omega)))
         | exact Aj.stop (.inr (FD (by omega)))
         | exact Aj.stop (.inr (EU hte K6 (by simpa using hc3)))
         | exact Aj.stop (.inr (ET hte K6 (by simpa using hc4)))
        refine rg ?_
        iterate 2 refine qv A8 ?_
        iterate 2 refine qv A9 ?_
        refine AP ?_
        exact x2 (hr:=(Un (by rw [hdn]))) (hr':=(Nw (by rw [hdn])))
       ·try simp at hc4
        have hre:=RV (s:=sm) hte K6 (by omega) (by omega) (by simpa using hc3) (by simpa using hc4)
        have hnx:=Aj.next ho hre
        refine AY ?_
        refine sg ?_
        iterate 2 refine qv A8 ?_
        refine Bo (f40 (sm:Nat) ((R.take e).drop (a+1)) (by omega)) ?_
        refine qv A9 ?_
        refine sg ?_
        rw [hs0]
        iterate 2 refine qv A8 ?_
        refine qr (D7 CF KL DZ) ?_
        refine Qg (DK CF CF KL DZ WQ (hc:=El)) ?_
        refine qv A9 ?_
        refine rg ?_
        iterate 2 refine qv A8 ?_
        refine qv Am ?_
        refine qv (F4 (a:=R) (e+1) R.length IC (by omega) (Nat.le_refl _)) ?_
        refine qv A9 ?_
        exact ⟨(out ++ [((R.take e).drop (a+1))],Cj sm ((R.take e).drop (a+1)),R.drop (e+1)),hnx,(by simp;omega),(tl [(4,72)] (hF:=by simp [Ck,Aa,lk,AA,isLive,Ac,CR]) (hM:=by simp [CV,Al,Aa,Ae,lk,AA,isLive,Ac,BK,BJ,Af,BI,BL,BO,BM,BN,CR]))⟩
 ·try simp at hc0
  refine Ad ?_
  refine AJ ?_
  have hdn:Aq 100 0 B=(out,R):=by
   first
   | exact Aj.stop (.inl (by omega))
   | exact Aj.stop (.inr (FE (by omega)))
   | exact Aj.stop (.inr (FD (by omega)))
   | exact Aj.stop (.inr (EU hte K6 (by simpa using hc3)))
   | exact Aj.stop (.inr (ET hte K6 (by simpa using hc4)))
  refine rg ?_
  iterate 2 refine qv A8 ?_
  iterate 2 refine qv A9 ?_
  refine AP ?_
  exact x2 (hr:=(Un (by rw [hdn]))) (hr':=(Nw (by rw [hdn])))
end Go.Ab.Tryz
