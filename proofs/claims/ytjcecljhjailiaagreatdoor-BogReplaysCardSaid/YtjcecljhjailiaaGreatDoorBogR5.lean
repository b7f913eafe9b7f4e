/- The functions of the bog laws: cuttings, part 62. The walks are written by wip/gen/gw.py. -/
import Derived.Test.YtjcecljhjailiaaGreatDoorBogG27
import Derived.Test.YtjcecljhjailiaaGreatDoorBogG25
import Derived.Test.YtjcecljhjailiaaGreatDoorBogG07
set_option linter.all false
namespace Go.Ab.Tryz
open Go Go.Ab Go.Proofs Go.Ab.Ci Go.Ab.Gx
open Go.Ab.Heap (Az Ah BZ)
open Go.Ab.Heap (Hp Et validate sm)
theorem lQ {k:Nat} {X:Tx} (h:X.length <= k):Qe k X=Nv X:=by
 rw [MJ k (X.count 32) X h (Nat.le_refl _)]
 exact (MJ _ _ X (Nat.le_refl _) (Nat.le_refl _)).symm
theorem ru {X:Tx} (h:(tw 32 X).length < X.length):Nv X=tw 32 X :: Nv (X.drop ((tw 32 X).length+1)):=by
 obtain ⟨k,hk⟩:∃ k,X.length=k+1:=⟨X.length - 1,by omega⟩
 show Qe X.length X=_
 rw [hk,Qe,if_pos h,lQ (by simp;omega)]
theorem rz {X:Tx} (h:∀ b ∈ X,b ≠ 32):Nv X=[X]:=by
 have e:=Wm h
 show Qe X.length X=_
 cases hk:X.length with
 | zero=>rfl
 | succ k=>rw [Qe,if_neg (by rw [e];omega)]
structure QY (T:Tx) (i f:Nat) (w:List Tx):Prop where
 fi:f <= i
 il:i <= T.length+1
 bl:∀ j (hj:j < T.length),f <= j -> j < i -> T[j] ≠ 32
 sp:i <= T.length -> Nv T=w ++ Nv (T.drop f)
 en:T.length < i -> Nv T=w
 wl:w.length <= i
theorem QY.start (T:Tx):QY T 0 0 []:=⟨Nat.le_refl _,Nat.zero_le _,fun j _ _ h=>absurd h (Nat.not_lt_zero j),fun _=>by simp,fun h=>absurd h (Nat.not_lt_zero _),Nat.le_refl _⟩
theorem QY.skip {T:Tx} {i f:Nat} {w:List Tx} (p:QY T i f w) (hi:i < T.length) (h:T[i] ≠ 32):QY T (i+1) f w :=
 ⟨by have:=p.fi;omega,by omega,fun j hj h1 h2=>by
  rcases Nat.lt_or_ge j i with h3 | h3
  ·exact p.bl j hj h1 h3
  ·obtain rfl:j=i:=by omega
   exact h,fun _=>p.sp (by omega),fun h1=>by omega,by have:=p.wl;omega⟩
theorem QY.last {T:Tx} {i f:Nat} {w:List Tx} (p:QY T i f w) (hi:i=T.length):QY T (i+1) (i+1) (w ++ [(T.take i).drop f]):=by
 subst hi
 have hf:=p.fi
 refine ⟨Nat.le_refl _,Nat.le_refl _,fun j hj h1 _=>by omega,fun h=>by omega,fun _=>?_,by have:=p.wl;simp;omega⟩
 rw [p.sp (Nat.le_refl _),List.take_of_length_le (Nat.le_refl _),rz fun b hb=>?_]
 obtain ⟨k,hk,rfl⟩:=List.getElem_of_mem hb
 rw [List.getElem_drop]
 exact p.bl _ (by simp at hk;omega) (by omega) (by simp at hk;omega)
theorem QY.cut {T:Tx} {i f:Nat} {w:List Tx} (p:QY T i f w) (hi:i < T.length) (h:T[i]=32):QY T (i+1) (i+1) (w ++ [(T.take i).drop f]):=by
 have hf:=p.fi
 have hX:T.drop f=(T.take i).drop f ++ 32 :: T.drop (i+1):=by
  have h1:T=T.take i ++ 32 :: T.drop (i+1):=by
   conv=>lhs;rw [<- List.take_append_drop i T,List.drop_eq_getElem_cons hi,h]
  conv=>lhs;rw [h1]
  rw [List.drop_append_of_le_length (by rw [List.length_take];omega)]
 have ht:tw 32 (T.drop f)=(T.take i).drop f:=by
  rw [hX]
  refine SF _ fun b hb=>?_
  obtain ⟨k,hk,rfl⟩:=List.getElem_of_mem hb
  rw [List.getElem_drop,List.getElem_take]
  exact p.bl _ (by simp at hk;omega) (by omega) (by simp at hk;omega)
 have hl:(tw 32 (T.drop f)).length=i - f:=by rw [ht];simp;omega
 refine ⟨Nat.le_refl _,by omega,fun j hj h1 h2=>by omega,fun _=>?_,fun h=>by omega,by have:=p.wl;simp;omega⟩
 rw [p.sp (by omega),ru (by rw [hl];simp;omega),ht]
 have:((T.take i).drop f).length+1=i - f+1:=by rw [<- ht,hl]
 rw [this,List.drop_drop,show f+(i - f+1)=i+1 by omega]
 simp
abbrev dOR (o:Tx × List Nat):DV:=.agg [CY o.1,ints (ns o.2)]
def Jy (T:Tx):Tx × List Nat:=match BU T with
 | some o=>((Nv T).headD [],o.2)
 | none=>([],[])
theorem Lg {T:Tx} (h:T.length < 1):BU T=none:=by
 obtain rfl:T=[]:=List.eq_nil_of_length_eq_zero (by omega)
 decide
theorem OU {T:Tx} (h:40 < T.length):BU T=none:=by
 cases e:BU T with
 | none=>rfl
 | some x =>
  have:=Sm e
  unfold FH at this
  simp only [Bool.and_eq_true,decide_eq_true_eq] at this
  omega
section
variable {T wd:Tx} {ws:List Tx}
theorem mV (hs:Nv T=wd :: ws) (h:Ku wd ≠ (ws.length:Int)):BU T=none:=by
 cases hk:Cc wd with
 | none=>exact X8 hs (by rw [hk];rfl)
 | some x =>
  refine Sn hs (by rw [hk];rfl) (.inr ?_)
  unfold Ku at h
  rw [hk] at h
  simp only [kc,hk]
  intro e
  exact h (by rw [e];rfl)
theorem A24 (hs:Nv T=wd :: ws) (h:Ku wd=(ws.length:Int)):(Cc wd).isSome=true /\ ws.length=(kc wd).2:=by
 unfold Ku at h
 cases hk:Cc wd with
 | none=>rw [hk] at h;exact absurd h (by show ¬ (-1:Int)=_;omega)
 | some x =>
  rw [hk] at h
  refine ⟨rfl,?_⟩
  simp only [kc,hk]
  have h':(x.2:Int)=ws.length:=h
  show ws.length=x.2
  omega
theorem OV (h:BU T=none):Jy T=([],[]):=by unfold Jy;rw [h]
theorem Yq (hs:Nv T=wd :: ws) {o:Nat × List Nat} (h:BU T=some o):Jy T=(wd,o.2):=by unfold Jy;rw [h,hs];rfl
end
set_option maxHeartbeats 4000000 in
set_option maxRecDepth 100000 in
theorem f72 (T:Tx) (hT:T.length < 2000000):AR Tryz.prog 72 [CY T] (.many [.dv (dOR (Jy T)),.dv (.bool (BU T).isSome)]):=by
 obtain ⟨wd,ws,hs⟩:∃ wd ws,Nv T=wd :: ws:=by
  cases h:Nv T with
  | nil=>exact absurd h (aV _ _)
  | cons a b=>exact ⟨a,b,rfl⟩
 have hmem:∀ W ∈ wd :: ws,W.length <= T.length:=fun W hW=>Ws T.length T W (by rw [show Qe T.length T=Nv T from rfl,hs];exact hW)
 have hwd:wd.length < 2000000:=by have:=hmem wd (by simp);omega
 have hcnt:ws.length <= T.length:=by
  have:=Pj T.length T
  rw [show Qe T.length T=Nv T from rfl,hs] at this
  simpa using this
 refine Bu Tryz.func72 rfl rfl (by rw [Tryz.ntmps72];simp) fun cx hP hn hg=>?_
 rw [Tryz.ntmps72] at hn
 rw [Bq,Bp]
 simp only [List.nil_append,List.append_nil,List.cons_append,BF,Nat.reduceAdd]
 refine sg ?_
 refine qp (Fj Gz) ?_
 refine qv A9 ?_
 refine AJ ?_
 refine sg ?_
 refine qv A8 ?_
 refine qv (Dr IC) ?_
 refine qv BQ ?_
 refine qx A8 (fun Ke=>?_) (fun Ke=>?_)
 ·try simp at Ke
  iterate 3 refine qk ?_
  refine qv Ai ?_
  refine Dw (hb:=by first | rfl | simp | simp_all) (ht:=?_)
  refine sg ?_
  refine qv (DJ Ym Gz) ?_
  refine qs (CK FU) ?_
  refine qv A9 ?_
  refine AP ?_
  rw [OV ((show BU T=none by first | exact Lg (by omega) | exact OU (by omega))),show (BU T).isSome=false by rw [(show BU T=none by first | exact Lg (by omega) | exact OU (by omega))];rfl]
  exact iR (rv:=[.cell 2 110,.tmp 3]) (s0:=.agg [.dv (CY []),.Bw]) (s1:=.dv (.bool false)) (.inr rfl) (by simp only [Dh,Dt,St.look,St.ev,lk,AA,AV,Au,Ar,FU,WZ,reduceIte,Nat.reduceEqDiff];rfl) (.agg _ _ rfl fun j s c hs hd=>by match j,hs,hd with | 0,hs,hd=>cases hs;cases hd;exact .dv _ (.str _) | 1,hs,hd=>cases hs;cases hd;exact .Bw) (E8 (.dv _ (.bool _)))
 ·try simp at Ke
  refine qv A8 ?_
  refine qv (Dr IC) ?_
  refine qv Dj ?_
  refine qv Ai ?_
  refine cd (fun hc0=>?_) (fun hc0=>?_)
  ·try simp at hc0
   have hbad:BU T=none:=by first | exact Lg (by omega) | exact OU (by omega)
   refine sg ?_
   refine qv (DJ Ym Gz) ?_
   refine qs (CK FU) ?_
   refine qv A9 ?_
   refine AP ?_
   rw [OV ((show BU T=none by first | exact Lg (by omega) | exact OU (by omega))),show (BU T).isSome=false by rw [(show BU T=none by first | exact Lg (by omega) | exact OU (by omega))];rfl]
   exact iR (rv:=[.cell 2 110,.tmp 3]) (s0:=.agg [.dv (CY []),.Bw]) (s1:=.dv (.bool false)) (.inr rfl) (by simp only [Dh,Dt,St.look,St.ev,lk,AA,AV,Au,Ar,FU,WZ,reduceIte,Nat.reduceEqDiff];rfl) (.agg _ _ rfl fun j s c hs hd=>by match j,hs,hd with | 0,hs,hd=>cases hs;cases hd;exact .dv _ (.str _) | 1,hs,hd=>cases hs;cases hd;exact .Bw) (E8 (.dv _ (.bool _)))
  ·try simp at hc0
   have h40:¬ 40 < T.length:=by first | omega | (simp at hc0;omega)
   refine AY ?_
   refine sg ?_
   refine qv A9 ?_
   refine sg ?_
   refine qv A9 ?_
   refine AJ ?_
   refine sg ?_
   skip
   refine qv A9 ?_
   refine BD ?_
   refine Ag (ι:=Nat × Nat × List Tx) (fun s=>⟨lk [(0,.dv (CY (T))),(2,.pt 2 0 0),(4,.sl 4 0 0 ((s.2.2).length)),(5,.dv (i64 (s.2.1:Nat))),(6,.dv (i64 (s.1:Nat)))],AA [(2,0,some ⟨[.dv (CY []),.Bw],0,110,0,false⟩),(4,0,some (LD s.2.2))]⟩) (fun s=>QY T s.1 s.2.1 s.2.2) (fun s=>T.length+1 - s.1) (0,0,[]) (QY.start T) (tl [(2,2)] (hF:=by simp [Ck,Aa,lk,AA,isLive,Ac,CR]) (hM:=by simp [CV,Al,Aa,Ae,lk,AA,isLive,Ac,BK,BJ,Af,BI,BL,BO,BM,BN,CR])) ?_
   intro ⟨i,f,w⟩ Aj
   dsimp only at Aj ⊢
   have hfi:=Aj.fi
   have hil:=Aj.il
   have hwl:=Aj.wl
   refine AJ ?_
   refine sg ?_
   iterate 2 refine qv A8 ?_
   refine qv (Dr IC) ?_
   refine qv IU ?_
   refine cd (fun hc1=>?_) (fun hc1=>?_)
   ·try simp at hc1
    refine AY ?_
    refine AJ ?_
    refine BD ?_
    refine sg ?_
    iterate 2 refine qv A8 ?_
    refine qv (Dr IC) ?_
    refine qv Bv ?_
    refine qx A8 (fun Jm=>?_) (fun Jm=>?_)
    ·try simp at Jm
     iterate 4 refine qk ?_
     refine qv Ai ?_
     refine Dw (hb:=by first | rfl | simp | simp_all) (ht:=?_)
     refine sg ?_
     iterate 4 refine qv A8 ?_
     refine qv (F4 (a:=T) f i IC (by omega) (by simp at *;omega)) ?_
     refine qr (D7 CF KL DZ) ?_
     refine Qg (DK CF CF KL DZ WQ (hc:=El)) ?_
     refine qv A9 ?_
     refine rg ?_
     refine qv A8 ?_
     refine qv Am ?_
     refine qv A9 ?_
     refine rg ?_
     refine qv A8 ?_
     refine qv Am ?_
     skip
     refine qv A9 ?_
     exact ⟨(i+1,i+1,w ++ [(T.take i).drop f]),(Aj.last (by omega)),(by simp<;>omega),(tl [(2,2),(4,42)] (hF:=by simp [Ck,Aa,lk,AA,isLive,Ac,CR]) (hM:=by simp [CV,Al,Aa,Ae,lk,AA,isLive,Ac,BK,BJ,Af,BI,BL,BO,BM,BN,CR]))⟩
    ·try simp at Jm
     iterate 2 refine qv A8 ?_
     have hi:i < T.length:=by first | omega | (simp at Jm;omega)
     have hb:T[i]?=some T[i]:=List.getElem?_eq_getElem hi
     refine qv (Qm i IC hb) ?_
     refine qv Bv ?_
     refine qv Ai ?_
     refine cd (fun hc2=>?_) (fun hc2=>?_)
     ·try simp at hc2
      refine sg ?_
      iterate 4 refine qv A8 ?_
      refine qv (F4 (a:=T) f i IC (by omega) (by simp at *;omega)) ?_
      refine qr (D7 CF KL DZ) ?_
      refine Qg (DK CF CF KL DZ WQ (hc:=El)) ?_
      refine qv A9 ?_
      refine rg ?_
      refine qv A8 ?_
      refine qv Am ?_
      refine qv A9 ?_
      refine rg ?_
      refine qv A8 ?_
      refine qv Am ?_
      skip
      refine qv A9 ?_
      exact ⟨(i+1,i+1,w ++ [(T.take i).drop f]),(Aj.cut hi (U6 (n:=32) (by decide) (by simpa using hc2))),(by simp<;>omega),(tl [(2,2),(4,42)] (hF:=by simp [Ck,Aa,lk,AA,isLive,Ac,CR]) (hM:=by simp [CV,Al,Aa,Ae,lk,AA,isLive,Ac,BK,BJ,Af,BI,BL,BO,BM,BN,CR]))⟩
     ·try simp at hc2
      refine AY ?_
      refine rg ?_
      refine qv A8 ?_
      refine qv Am ?_
      skip
      refine qv A9 ?_
      exact ⟨(i+1,f,w),(Aj.skip hi fun q=>by rw [q] at hc2;simp at hc2),(by simp<;>omega),(tl [(2,2),(4,4)] (hF:=by simp [Ck,Aa,lk,AA,isLive,Ac,CR]) (hM:=by simp [CV,Al,Aa,Ae,lk,AA,isLive,Ac,BK,BJ,Af,BI,BL,BO,BM,BN,CR]))⟩
   ·try simp at hc1
    obtain rfl:w=wd :: ws:=by rw [<- Aj.en (by omega),hs]
    have hl0:(wd :: ws).length=ws.length+1:=rfl
    refine Ad ?_
    refine AJ ?_
    refine sg ?_
    refine Gv 4 4 (x:=Gi (wd :: ws)) ?_ (hD:=Hf (L:=(wd :: ws)) (st:=1) (by simp only [AA,reduceIte,Nat.reduceEqDiff]<;>rfl) rfl (by simp) (fun _=>trivial))
    refine qv A8 ?_
    first | refine qv (BA CF DZ) ?_ | refine qv (Bd CF DZ) ?_
    refine qv (Bb DZ Mk) ?_
    refine Bo (f112 wd) ?_
    refine qv A8 ?_
    refine qv (BH Dg) ?_
    refine qv FW ?_
    refine qv BP ?_
    refine cd (fun hc3=>?_) (fun hc3=>?_)
    ·try simp at hc3
     have hne:Ku wd ≠ (ws.length:Int):=by omega
     refine sg ?_
     refine qv (DJ Ym Gz) ?_
     refine qs (CK FU) ?_
     refine qv A9 ?_
     refine AP ?_
     rw [OV (mV hs hne),show (BU T).isSome=false by rw [mV hs hne];rfl]
     exact iR (rv:=[.cell 2 110,.tmp 3]) (s0:=.agg [.dv (CY []),.Bw]) (s1:=.dv (.bool false)) (.inr rfl) (by simp only [Dh,Dt,St.look,St.ev,lk,AA,AV,Au,Ar,FU,WZ,reduceIte,Nat.reduceEqDiff];rfl) (.agg _ _ rfl fun j s c hs hd=>by match j,hs,hd with | 0,hs,hd=>cases hs;cases hd;exact .dv _ (.str _) | 1,hs,hd=>cases hs;cases hd;exact .Bw) (E8 (.dv _ (.bool _)))
    ·try simp at hc3
     have hce:Ku wd=(ws.length:Int):=by first | omega | (simp at hc3;omega)
     obtain ⟨hk,uK⟩:=A24 hs hce
     refine AY ?_
     refine sg ?_
     refine qv A8 ?_
     first | refine qv (BA CF DZ) ?_ | refine qv (Bd CF DZ) ?_
     refine qv (Bb DZ Mk) ?_
     refine qv (DJ Ym Gz) ?_
     refine qp (Fj Gz) ?_
     refine qs (CK FU) ?_
     refine AJ ?_
     refine sg ?_
     refine qv A9 ?_
     refine BD ?_
     refine Ag (ι:=Nat) (fun i=>⟨lk [(2,.pt 2 0 0),(4,.dv (Gi (wd :: ws))),(7,.pt 7 0 0),(8,.dv (i64 ((i+1:Nat):Int)))],AA [(2,0,some ⟨[.dv (CY []),.Bw],0,110,0,false⟩),(7,0,some ⟨[.dv (CY wd),.sl 79 0 0 i],0,110,0,false⟩),(79,0,some (Jv (nr ws i)))]⟩) (fun i=>i <= ws.length /\ ∀ j (hj:j < ws.length),j < i -> (Fh ws[j]).isSome=true) (fun i=>ws.length - i) 0 (by simp) (tl [(2,2),(7,7)] (hF:=by simp [Ck,Aa,lk,AA,isLive,Ac,RZ]) (hM:=by simp [CV,Al,Aa,Ae,lk,AA,isLive,Ac,BK,BJ,Af,BI,BL,BO,BM,BN,RZ])) ?_
     intro i Es
     refine AJ ?_
     refine sg ?_
     iterate 2 refine qv A8 ?_
     refine qv (BH Dg) ?_
     refine qv BQ ?_
     refine cd (fun hc4=>?_) (fun hc4=>?_)
     ·try simp at hc4
      refine AY ?_
      refine AJ ?_
      refine BD ?_
      refine sg ?_
      have hi:i < ws.length:=by omega
      have hwl:ws[i].length <= T.length:=hmem _ (List.mem_cons_of_mem _ (List.getElem_mem hi))
      have hgi:((wd :: ws).map CY)[i+1]?=some (CY ws[i]):=by simp [hi]
      iterate 2 refine qv A8 ?_
      first | refine qv (BA CF DZ) ?_ | refine qv (Bd CF DZ) ?_
      refine qv (Bb DZ Mk) ?_
      refine Bo (f113 ws[i] (by omega)) ?_
      refine qv A8 ?_
      iterate 2 refine qv Bf ?_
      iterate 2 refine qv A9 ?_
      refine AJ ?_
      refine sg ?_
      refine qv A8 ?_
      refine qv Bn ?_
      refine cd (fun XW=>?_) (fun XW=>?_)
      ·try simp at XW
       have hnb:BU T=none:=Pv hs hk h40 uK hi (by simpa using XW)
       refine sg ?_
       refine qv (DJ Ym Gz) ?_
       refine qs (CK FU) ?_
       refine qv A9 ?_
       refine AP ?_
       rw [OV (hnb),show (BU T).isSome=false by rw [hnb];rfl]
       exact iR (rv:=[.cell 2 110,.tmp 3]) (s0:=.agg [.dv (CY []),.Bw]) (s1:=.dv (.bool false)) (.inr rfl) (by simp only [Dh,Dt,St.look,St.ev,lk,AA,AV,Au,Ar,FU,WZ,reduceIte,Nat.reduceEqDiff];rfl) (.agg _ _ rfl fun j s c hs hd=>by match j,hs,hd with | 0,hs,hd=>cases hs;cases hd;exact .dv _ (.str _) | 1,hs,hd=>cases hs;cases hd;exact .Bw) (E8 (.dv _ (.bool _)))
      ·try simp at XW
       obtain ⟨v,hv⟩:=Option.isSome_iff_exists.1 (show (Fh ws[i]).isSome=true by simpa using XW)
       have hvv:((nv ws[i]:Nat):Int)=((Fh ws[i]).getD 0:Nat):=rfl
       have htk:=fF hi hvv
       have hnl:=XB (ws:=ws) (i:=i) (by omega)
       have hnx:i+1 <= ws.length /\ ∀ j (hj:j < ws.length),j < i+1 -> (Fh ws[j]).isSome=true:=by
        refine ⟨by omega,fun j hj h=>?_⟩
        rcases Nat.lt_or_ge j i with h1 | h1
        ·exact Es.2 j hj h1
        ·obtain rfl:j=i:=by omega
         simpa using XW
       refine AY ?_
       refine rg ?_
       refine qv (AB G7) ?_
       refine qv (AL Av Bl) ?_
       refine qv A8 ?_
       refine qr (D7 Ap Jq Ak) ?_
       first | refine qa0 (bL Ap Ap Jq Ak U7) ?_ | refine Qg (DK Ap Ap Jq Ak U7) ?_
       refine qv (AB G7) ?_
       refine qs (CK Av) ?_
       refine rg ?_
       refine qv A8 ?_
       refine qv Am ?_
       refine qv A9 ?_
       exact ⟨i+1,hnx,(by simp only;omega),(tl [(2,2),(7,7),(79,79)] (hF:=by simp [Ck,Aa,lk,AA,isLive,Ac,htk]) (hM:=by simp [CV,Al,Aa,Ae,lk,AA,isLive,Ac,BK,BJ,Af,BI,BL,BO,BM,BN,htk]))⟩
     ·try simp at hc4
      obtain rfl:i=ws.length:=by omega
      have hgd:=fA hs hk h40 uK fun j hj=>Es.2 j hj hj
      refine Ad ?_
      refine sg ?_
      refine qv (AQ FU WZ) ?_
      refine qs (CK FU) ?_
      refine qv A9 ?_
      refine AP ?_
      rw [Yq hs hgd,show (BU T).isSome=true by rw [hgd];rfl]
      exact iR (rv:=[.cell 2 110,.tmp 3]) (s0:=.agg [.dv (CY wd),.sl 79 0 0 ws.length]) (s1:=.dv (.bool true)) (.inr rfl) (by simp only [Dh,Dt,St.look,St.ev,lk,AA,AV,Au,Ar,FU,WZ,reduceIte,Nat.reduceEqDiff];rfl) (.agg _ _ rfl fun j s c hs hd=>by match j,hs,hd with | 0,hs,hd=>cases hs;cases hd;exact .dv _ (.str _) | 1,hs,hd=>cases hs;cases hd;rw [<- nL];exact BS (L:=nr ws ws.length) (by simp only [AA,reduceIte,Nat.reduceEqDiff]<;>rfl) trivial (XB (Nat.le_refl _)) rfl rfl (fun _=>.int _ _)) (E8 (.dv _ (.bool _)))
end Go.Ab.Tryz
