/- BogPb, Ab51, BogQ4, BogQ5, BogLk, Ab56, BogQ6, BogQ7. -/
import Derived.Test.YtjcecljhjailiaaGreatDoorBogG24
import Derived.Test.YtjcecljhjailiaaGreatDoorBogG21
import Derived.Test.YtjcecljhjailiaaGreatDoorBogG23
import Derived.Test.YtjcecljhjailiaaGreatDoorBogG07
import Derived.Test.YtjcecljhjailiaaGreatDoorBogG11
import Derived.Test.YtjcecljhjailiaaGreatDoorBogG24
import Derived.Conc.MuLone
import Derived.Test.YtjcecljhjailiaaGreatDoorBogG23
import Derived.Test.YtjcecljhjailiaaGreatDoorBogG22
set_option linter.all false
namespace Go.Ab.Tryz
open Go Go.Ab Go.Proofs Go.Ab.Ci Go.Ab.Gx
open Go.Ab.Heap (Az Ah BZ)
def jo (x:Tx):Bool:=match Lib.atoiAll x with | .ok _=>false | _=>true
theorem qX (x:Tx):XK (Ud x).2=some (!jo x):=by
 unfold Ud jo
 cases Lib.atoiAll x<;>rfl
theorem wB {x:Tx} {v:Int} (h:Lib.atoiAll x=.ok v):-9223372036854775808 <= v /\ v <= 9223372036854775807:=by
 unfold Lib.atoiAll at h
 have key:∀ {l:Tx} {u:Nat} ,Lib.parseMag l=.ok u -> u < 18446744073709551616:=fun h=>Lib.parseMag_lt h
 revert h
 simp only []
 repeat' split
 all_goals (intro h;first | (cases h;omega) | (simp at h;omega) | (cases h))
theorem w9 {x:Tx} (h:jo x=false):∃ v,Lib.atoiAll x=.ok v /\ (Ud x).1=v /\ -9223372036854775808 <= v /\ v <= 9223372036854775807:=by
 unfold jo at h
 unfold Ud
 cases e:Lib.atoiAll x with
 | ok v=>exact ⟨v,rfl,rfl,wB e⟩
 | range=>rw [e] at h;cases h
 | _=>rw [e] at h;cases h
theorem OX {x:Tx} (h:jo x=true):Fh x=none:=nK fun v e=>by
 unfold jo at h;rw [e] at h;cases h
def nv (w:Tx):Nat:=(Fh w).getD 0
theorem nH {w:Tx} {v:Int} (h1:Lib.atoiAll w=.ok v) (h2:Lib.itoa v=w) (h3:0 <= v) (h4:v <= 999):Fh w=some v.toNat /\ ((nv w:Nat):Int)=v:=by
 have:=Il h1
 rw [if_pos ⟨h2,h3,h4⟩] at this
 refine ⟨this,?_⟩
 unfold nv;rw [this];simp;omega
theorem nJ {ws:List Tx} {i:Nat} (hi:i < ws.length) (h:Fh ws[i]=none):L9 ws=none:=by
 cases e:L9 ws with
 | none=>rfl
 | some ns =>
  exfalso
  revert e ns
  induction ws generalizing i with
  | nil=>simp at hi
  | cons w ws ih =>
   intro ns e
   obtain ⟨n,ns',h1,h2,_⟩:=NM e
   cases i with
   | zero =>
    have h':Fh w=none:=h
    rw [h'] at h1;cases h1
   | succ i=>exact ih (i:=i) (by simpa using hi) h ns' h2
theorem Vw:∀ {ws:List Tx},(∀ i (hi:i < ws.length),(Fh ws[i]).isSome=true) -> L9 ws=some (ws.map nv)
 | [],_=>rfl
 | w :: ws,h=>by
  have h0:=h 0 (by simp)
  have ih:=Vw (ws:=ws) fun i hi=>h (i+1) (by simpa using hi)
  obtain ⟨n,hn⟩:=Option.isSome_iff_exists.1 h0
  have hn':Fh w=some n:=hn
  rw [L9,hn',ih]
  simp [nv,hn']
theorem A2I (w:Tx):((Cc w).getD (0,0)).2 <= 2:=by
 unfold Cc
 (repeat' split)<;>decide
abbrev kc (w:Tx):Nat × Nat:=(Cc w).getD (0,0)
section
variable {T wd:Tx} {ws:List Tx}
theorem X8 (hs:Nv T=wd :: ws) (hk:(Cc wd).isSome=false):BU T=none:=by
 unfold BU
 rw [hs]
 have:Cc wd=none:=by cases h:Cc wd with
  | none=>rfl
  | some x=>rw [h] at hk;cases hk
 simp only [this]
theorem Sn (hs:Nv T=wd :: ws) (hk:(Cc wd).isSome=true) (h:40 < T.length \/ ws.length ≠ (kc wd).2):BU T=none:=by
 obtain ⟨⟨k,c⟩,hx⟩:=Option.isSome_iff_exists.1 hk
 unfold BU
 rw [hs]
 simp only [hx]
 rw [if_pos (by simpa [kc,hx] using h)]
theorem wT (hs:Nv T=wd :: ws) (hk:(Cc wd).isSome=true) (h1:¬ 40 < T.length) (h2:ws.length=(kc wd).2):BU T=(L9 ws).map fun ns=>((kc wd).1,ns):=by
 obtain ⟨⟨k,c⟩,hx⟩:=Option.isSome_iff_exists.1 hk
 unfold BU
 rw [hs]
 simp only [hx]
 rw [if_neg (by rw [kc,hx] at h2;simp at h2;omega)]
 simp [kc,hx]
theorem Pv (hs:Nv T=wd :: ws) (hk:(Cc wd).isSome=true) (h1:¬ 40 < T.length) (h2:ws.length=(kc wd).2) {i:Nat} (hi:i < ws.length) (h3:Fh ws[i]=none):BU T=none:=by
 rw [wT hs hk h1 h2,nJ hi h3];rfl
theorem fA (hs:Nv T=wd :: ws) (hk:(Cc wd).isSome=true) (h1:¬ 40 < T.length) (h2:ws.length=(kc wd).2) (h3:∀ i (hi:i < ws.length),(Fh ws[i]).isSome=true):BU T=some ((kc wd).1,ws.map nv):=by
 rw [wT hs hk h1 h2,Vw h3];rfl
end
def nr (ws:List Tx) (i:Nat):List Int:=ns ((ws.take i).map nv)
theorem RZ {ws:List Tx}:nr ws 0=[]:=by simp [nr,ns]
theorem XB {ws:List Tx} {i:Nat} (h:i <= ws.length):(nr ws i).length=i:=by simp [nr,ns];omega
theorem fF {ws:List Tx} {i:Nat} (hi:i < ws.length) {v:Int} (h:((nv ws[i]:Nat):Int)=v):nr ws (i+1)=nr ws i ++ [v]:=by
 unfold nr
 rw [List.take_succ_eq_append_getElem hi,List.map_append,<- h];simp [ns]
theorem nL {ws:List Tx}:nr ws ws.length=ns (ws.map nv):=by unfold nr;rw [List.take_length]
abbrev vS (o:Nat × List Nat):DV:=.agg [i64 (o.1:Int),ints (ns o.2)]
abbrev KT (T:Tx):Nat × List Nat:=(BU T).getD (0,[])
theorem iR {P:Program} {Db:DV -> Prop} {S:St} {rv:List ResultVar} {x:Exit} {s0 s1:SV} {d0 d1:DV} (he:x=.normal \/ x=.ret) (h:Dh P S rv=some [s0,s1]) (h0:Eb Db S.M s0 (.dv d0)) (h1:Eb Db S.M s1 (.dv d1)):RO P Db rv (.many [.dv d0,.dv d1]) x S :=
 ⟨he,[s0,s1],[.dv d0,.dv d1],h,⟨h0,h1,trivial⟩,mO (by simp [ME]),rfl⟩
theorem xV:Tryz.prog.underlying 103=some (.interface (Tryz.prog.methodsAt 103)):=by kernel_rfl
set_option maxHeartbeats 4000000 in
set_option maxRecDepth 100000 in
theorem f101 (T:Tx) (hT:T.length < 2000000):AR Tryz.prog 101 [CY T] (.many [.dv (vS (KT T)),.dv (.bool (BU T).isSome)]):=by
 obtain ⟨wd,ws,hs⟩:∃ wd ws,Nv T=wd :: ws:=by
  cases h:Nv T with
  | nil=>exact absurd h (aV _ _)
  | cons a b=>exact ⟨a,b,rfl⟩
 have hmem:∀ W ∈ wd :: ws,W.length <= T.length:=fun W hW=>Ws T.length T W (by rw [show Qe T.length T=Nv T from rfl,hs];exact hW)
 have hwd:wd.length < 2000000:=by have:=hmem wd (by simp);omega
 have hcnt:ws.length <= T.length:=by
  have:=Pj T.length T
  rw [show Qe T.length T=Nv T from rfl,hs] at this
  simpa using this
 have hkb:((Cc wd).getD (0,0)).2 <= 2 /\ (kc wd).2=((Cc wd).getD (0,0)).2:=⟨A2I wd,rfl⟩
 have hsp:=f148 T [32] (by omega) (by decide)
 rw [j3,hs] at hsp
 refine Bu Tryz.func101 rfl rfl (by rw [Tryz.ntmps101];simp) fun cx hP hn hg=>?_
 rw [Tryz.ntmps101] at hn
 rw [Bq,Bp]
 simp only [List.nil_append,List.append_nil,List.cons_append,BF,Nat.reduceAdd]
 refine sg ?_
 refine qp (Fj JK) ?_
 refine qv A9 ?_
 refine sg ?_
 refine qv A8 ?_
 refine Bo (hsp) ?_
 refine qv A9 ?_
 refine AJ ?_
 refine A1Y (ws:=wd :: ws) (wd:=wd) trivial (by rfl) rfl hwd hg hP hn ?_
 iterate 2 refine qv Bf ?_
 refine qp (Fj A1J) ?_
 refine qs (CK A1Q) ?_
 refine qv A9 ?_
 refine AJ ?_
 refine sg ?_
 refine qv A8 ?_
 refine qv Bn ?_
 refine qx A8 (fun Jm=>?_) (fun Jm=>?_)
 ·try simp at Jm
  iterate 3 refine qk ?_
  refine qv Ai ?_
  refine qv A8 ?_
  iterate 6 refine qk ?_
  refine qv Ai ?_
  refine Dw (hb:=by first | rfl | simp | simp_all) (ht:=?_)
  refine sg ?_
  refine qv (DJ Qi JK) ?_
  refine qs (CK FL) ?_
  refine qv A9 ?_
  refine AP ?_
  rw [show KT T=(0,[]) by unfold KT;rw [X8 hs (by simpa using Jm)];rfl,show (BU T).isSome=false by rw [X8 hs (by simpa using Jm)];rfl]
  exact iR (rv:=[.cell 2 138,.tmp 3]) (s0:=.agg [.dv (i64 0),.Bw]) (s1:=.dv (.bool false)) (.inr rfl) (by simp only [Dh,Dt,St.look,St.ev,lk,AA,AV,Au,Ar,FL,MC,reduceIte,Nat.reduceEqDiff];rfl) (.agg _ _ rfl fun j s c hs hd=>by match j,hs,hd with | 0,hs,hd=>cases hs;cases hd;exact .dv _ (.int _ _) | 1,hs,hd=>cases hs;cases hd;exact .Bw) (E8 (.dv _ (.bool _)))
 ·try simp at Jm
  have hk:(Cc wd).isSome=true:=by simpa using Jm
  refine qv A8 ?_
  refine qv (Dr IC) ?_
  refine qv Dj ?_
  refine qv Ai ?_
  refine qx A8 (fun bY=>?_) (fun bY=>?_)
  ·try simp at bY
   iterate 6 refine qk ?_
   refine qv Ai ?_
   refine Dw (hb:=by first | rfl | simp | simp_all) (ht:=?_)
   refine sg ?_
   refine qv (DJ Qi JK) ?_
   refine qs (CK FL) ?_
   refine qv A9 ?_
   refine AP ?_
   rw [show KT T=(0,[]) by unfold KT;rw [Sn hs hk (.inl (by omega))];rfl,show (BU T).isSome=false by rw [Sn hs hk (.inl (by omega))];rfl]
   exact iR (rv:=[.cell 2 138,.tmp 3]) (s0:=.agg [.dv (i64 0),.Bw]) (s1:=.dv (.bool false)) (.inr rfl) (by simp only [Dh,Dt,St.look,St.ev,lk,AA,AV,Au,Ar,FL,MC,reduceIte,Nat.reduceEqDiff];rfl) (.agg _ _ rfl fun j s c hs hd=>by match j,hs,hd with | 0,hs,hd=>cases hs;cases hd;exact .dv _ (.int _ _) | 1,hs,hd=>cases hs;cases hd;exact .Bw) (E8 (.dv _ (.bool _)))
  ·try simp at bY
   refine qv A8 ?_
   first | refine qv (BH Dg) ?_ | refine qv (Cg Dg) ?_ | refine qv (TB Dg) ?_
   refine qv (AB uW) ?_
   refine qv (AL Ak Br) ?_
   refine qv Am ?_
   refine qv BP ?_
   refine qv Ai ?_
   refine cd (fun hc0=>?_) (fun hc0=>?_)
   ·try simp at hc0
    have hne:ws.length ≠ (kc wd).2:=by omega
    refine sg ?_
    refine qv (DJ Qi JK) ?_
    refine qs (CK FL) ?_
    refine qv A9 ?_
    refine AP ?_
    rw [show KT T=(0,[]) by unfold KT;rw [Sn hs hk (.inr hne)];rfl,show (BU T).isSome=false by rw [Sn hs hk (.inr hne)];rfl]
    exact iR (rv:=[.cell 2 138,.tmp 3]) (s0:=.agg [.dv (i64 0),.Bw]) (s1:=.dv (.bool false)) (.inr rfl) (by simp only [Dh,Dt,St.look,St.ev,lk,AA,AV,Au,Ar,FL,MC,reduceIte,Nat.reduceEqDiff];rfl) (.agg _ _ rfl fun j s c hs hd=>by match j,hs,hd with | 0,hs,hd=>cases hs;cases hd;exact .dv _ (.int _ _) | 1,hs,hd=>cases hs;cases hd;exact .Bw) (E8 (.dv _ (.bool _)))
   ·try simp at hc0
    have uK:ws.length=(kc wd).2:=by omega
    refine AY ?_
    refine sg ?_
    refine qv (AB uX) ?_
    refine qv (AL Vb WY) ?_
    refine qv (DJ Qi JK) ?_
    refine qp (Fj JK) ?_
    refine qs (CK FL) ?_
    refine AJ ?_
    refine sg ?_
    refine qv A8 ?_
    refine qv (nP (L':=ws) CF DZ (hL:=by simp)) ?_
    refine qv (BH Dg) ?_
    refine qv A8 ?_
    refine BD ?_
    refine Ag (ι:=Nat) (fun i=>⟨lk [(2,.pt 2 0 0),(7,.pt 7 0 0),(48,.dv (.list ((ws).map CY))),(49,.dv (i64 ((ws.length:Int)))),(50,.dv (i64 (i:Nat)))],AA [(2,0,some ⟨[.dv (i64 0),.Bw],0,138,0,false⟩),(7,0,some ⟨[.dv (i64 ((kc wd).1:Int)),.sl 80 0 0 i],0,138,0,false⟩),(80,0,some (Jv (nr ws i)))]⟩) (fun i=>i <= ws.length /\ ∀ j (hj:j < ws.length),j < i -> (Fh ws[j]).isSome=true) (fun i=>ws.length - i) 0 (by simp) (tl [(2,2),(7,7)] (hF:=by simp [Ck,Aa,lk,AA,isLive,Ac,RZ]) (hM:=by simp [CV,Al,Aa,Ae,lk,AA,isLive,Ac,BK,BJ,Af,BI,BL,BO,BM,BN,RZ])) ?_
    intro i Aj
    refine sg ?_
    refine qv BQ ?_
    refine AJ ?_
    refine cd (fun hc1=>?_) (fun hc1=>?_)
    ·try simp at hc1
     refine AY ?_
     refine AJ ?_
     refine BD ?_
     refine sg ?_
     have hi:i < ws.length:=by omega
     have hwl:ws[i].length <= T.length:=hmem _ (List.mem_cons_of_mem _ (List.getElem_mem hi))
     have hgi:(ws.map CY)[i]?=some (CY ws[i]):=by simp [hi]
     first | refine qv (BA CF DZ) ?_ | refine qv (Bd CF DZ) ?_
     refine qv (Bb DZ Mk) ?_
     refine qv A9 ?_
     refine sg ?_
     refine qv A8 ?_
     refine Bo (f149 ws[i] (by omega)) ?_
     refine qv A8 ?_
     iterate 2 refine qv Bf ?_
     iterate 2 refine qv A9 ?_
     refine AJ ?_
     refine sg ?_
     refine qv A8 ?_
     refine mR xV (qX ws[i]) ?_
     refine qx A8 (fun XR=>?_) (fun XR=>?_)
     ·try simp at XR
      iterate 4 refine qk ?_
      refine qv Ai ?_
      refine qv A8 ?_
      iterate 2 refine qk ?_
      refine qv Ai ?_
      refine qv A8 ?_
      iterate 2 refine qk ?_
      refine qv Ai ?_
      refine Dw (hb:=by first | rfl | simp | simp_all) (ht:=?_)
      refine sg ?_
      refine qv (DJ Qi JK) ?_
      refine qs (CK FL) ?_
      refine qv A9 ?_
      refine AP ?_
      have hbad:BU T=none:=Pv hs hk (by omega) uK hi (by
       first
       | exact OX (by simpa using XR)
       | (rw [Il hv1,if_neg];rintro ⟨h1,h2,h3⟩;simp_all<;>omega))
      rw [show KT T=(0,[]) by unfold KT;rw [hbad];rfl,show (BU T).isSome=false by rw [hbad];rfl]
      exact iR (rv:=[.cell 2 138,.tmp 3]) (s0:=.agg [.dv (i64 0),.Bw]) (s1:=.dv (.bool false)) (.inr rfl) (by simp only [Dh,Dt,St.look,St.ev,lk,AA,AV,Au,Ar,FL,MC,reduceIte,Nat.reduceEqDiff];rfl) (.agg _ _ rfl fun j s c hs hd=>by match j,hs,hd with | 0,hs,hd=>cases hs;cases hd;exact .dv _ (.int _ _) | 1,hs,hd=>cases hs;cases hd;exact .Bw) (E8 (.dv _ (.bool _)))
     ·try simp at XR
      obtain ⟨v,hv1,hv2,hv3,hv4⟩:=w9 (x:=ws[i]) (by simpa using XR)
      rw [hv2]
      refine qv A8 ?_
      refine Bo (f87 v hv3 hv4) ?_
      refine qv A8 ?_
      refine qv K4 ?_
      refine qv Ai ?_
      refine qx A8 (fun IQ=>?_) (fun IQ=>?_)
      ·try simp at IQ
       iterate 2 refine qk ?_
       refine qv Ai ?_
       refine qv A8 ?_
       iterate 2 refine qk ?_
       refine qv Ai ?_
       refine Dw (hb:=by first | rfl | simp | simp_all) (ht:=?_)
       refine sg ?_
       refine qv (DJ Qi JK) ?_
       refine qs (CK FL) ?_
       refine qv A9 ?_
       refine AP ?_
       have hbad:BU T=none:=Pv hs hk (by omega) uK hi (by
        first
        | exact OX (by simpa using XR)
        | (rw [Il hv1,if_neg];rintro ⟨h1,h2,h3⟩;simp_all<;>omega))
       rw [show KT T=(0,[]) by unfold KT;rw [hbad];rfl,show (BU T).isSome=false by rw [hbad];rfl]
       exact iR (rv:=[.cell 2 138,.tmp 3]) (s0:=.agg [.dv (i64 0),.Bw]) (s1:=.dv (.bool false)) (.inr rfl) (by simp only [Dh,Dt,St.look,St.ev,lk,AA,AV,Au,Ar,FL,MC,reduceIte,Nat.reduceEqDiff];rfl) (.agg _ _ rfl fun j s c hs hd=>by match j,hs,hd with | 0,hs,hd=>cases hs;cases hd;exact .dv _ (.int _ _) | 1,hs,hd=>cases hs;cases hd;exact .Bw) (E8 (.dv _ (.bool _)))
      ·try simp at IQ
       refine qv A8 ?_
       refine qv BQ ?_
       refine qv Ai ?_
       refine qx A8 (fun R3=>?_) (fun R3=>?_)
       ·try simp at R3
        iterate 2 refine qk ?_
        refine qv Ai ?_
        refine Dw (hb:=by first | rfl | simp | simp_all) (ht:=?_)
        refine sg ?_
        refine qv (DJ Qi JK) ?_
        refine qs (CK FL) ?_
        refine qv A9 ?_
        refine AP ?_
        have hbad:BU T=none:=Pv hs hk (by omega) uK hi (by
         first
         | exact OX (by simpa using XR)
         | (rw [Il hv1,if_neg];rintro ⟨h1,h2,h3⟩;simp_all<;>omega))
        rw [show KT T=(0,[]) by unfold KT;rw [hbad];rfl,show (BU T).isSome=false by rw [hbad];rfl]
        exact iR (rv:=[.cell 2 138,.tmp 3]) (s0:=.agg [.dv (i64 0),.Bw]) (s1:=.dv (.bool false)) (.inr rfl) (by simp only [Dh,Dt,St.look,St.ev,lk,AA,AV,Au,Ar,FL,MC,reduceIte,Nat.reduceEqDiff];rfl) (.agg _ _ rfl fun j s c hs hd=>by match j,hs,hd with | 0,hs,hd=>cases hs;cases hd;exact .dv _ (.int _ _) | 1,hs,hd=>cases hs;cases hd;exact .Bw) (E8 (.dv _ (.bool _)))
       ·try simp at R3
        refine qv A8 ?_
        refine qv Dj ?_
        refine qv Ai ?_
        refine cd (fun hc2=>?_) (fun hc2=>?_)
        ·try simp at hc2
         have hbad:BU T=none:=Pv hs hk (by omega) uK hi (by
          first
          | exact OX (by simpa using XR)
          | (rw [Il hv1,if_neg];rintro ⟨h1,h2,h3⟩;simp_all;omega))
         refine sg ?_
         refine qv (DJ Qi JK) ?_
         refine qs (CK FL) ?_
         refine qv A9 ?_
         refine AP ?_
         have hbad:BU T=none:=Pv hs hk (by omega) uK hi (by
          first
          | exact OX (by simpa using XR)
          | (rw [Il hv1,if_neg];rintro ⟨h1,h2,h3⟩;simp_all<;>omega))
         rw [show KT T=(0,[]) by unfold KT;rw [hbad];rfl,show (BU T).isSome=false by rw [hbad];rfl]
         exact iR (rv:=[.cell 2 138,.tmp 3]) (s0:=.agg [.dv (i64 0),.Bw]) (s1:=.dv (.bool false)) (.inr rfl) (by simp only [Dh,Dt,St.look,St.ev,lk,AA,AV,Au,Ar,FL,MC,reduceIte,Nat.reduceEqDiff];rfl) (.agg _ _ rfl fun j s c hs hd=>by match j,hs,hd with | 0,hs,hd=>cases hs;cases hd;exact .dv _ (.int _ _) | 1,hs,hd=>cases hs;cases hd;exact .Bw) (E8 (.dv _ (.bool _)))
        ·try simp at hc2
         have htk:=fF hi (nH hv1 (by simpa using IQ) (by omega) (by omega)).2
         have hnl:=XB (ws:=ws) (i:=i) (by omega)
         have hnx:i+1 <= ws.length /\ ∀ j (hj:j < ws.length),j < i+1 -> (Fh ws[j]).isSome=true:=by
          refine ⟨by omega,fun j hj h=>?_⟩
          rcases Nat.lt_or_ge j i with h1 | h1
          ·exact Aj.2 j hj h1
          ·obtain rfl:j=i:=by omega
           rw [(nH hv1 (by simpa using IQ) (by omega) (by omega)).1];rfl
         obtain ⟨hw1,hw2⟩:=nH hv1 (by simpa using IQ) (by omega) (by omega)
         refine AY ?_
         refine Eu.le (tl [(2,2),(7,7),(80,80)] (l:=[(2,.pt 2 0 0),(7,.pt 7 0 0),(10,.dv (i64 (v))),(48,.dv (.list ((ws).map CY))),(49,.dv (i64 ((ws.length:Int)))),(50,.dv (i64 (i:Nat)))]) (m:=[(2,0,some ⟨[.dv (i64 0),.Bw],0,138,0,false⟩),(7,0,some ⟨[.dv (i64 ((kc wd).1:Int)),.sl 80 0 0 i],0,138,0,false⟩),(80,0,some (Jv (nr ws i)))])) ?_
         refine rg ?_
         refine qv (AB Kk) ?_
         first | refine qv (EG Av Bl) ?_ | refine qv (AL Av Bl) ?_
         refine qv A8 ?_
         refine qr (D7 Ap Jq Ak) ?_
         first | refine qa0 (bL Ap Ap Jq Ak U7) ?_ | refine Qg (DK Ap Ap Jq Ak U7) ?_
         refine qv (AB Kk) ?_
         first | refine qs (Gp Av) ?_ | refine qs (CK Av) ?_
         refine rg ?_
         refine qv Am ?_
         refine qv A8 ?_
         exact ⟨i+1,hnx,(by simp only;omega),(tl [(2,2),(7,7),(80,80)] (hF:=by simp [Ck,Aa,lk,AA,isLive,Ac,htk]) (hM:=by simp [CV,Al,Aa,Ae,lk,AA,isLive,Ac,BK,BJ,Af,BI,BL,BO,BM,BN,htk]))⟩
    ·try simp at hc1
     obtain rfl:i=ws.length:=by omega
     have hgd:=fA hs hk (by omega) uK fun j hj=>Aj.2 j hj hj
     refine Ad ?_
     refine sg ?_
     refine qv (AQ FL MC) ?_
     refine qs (CK FL) ?_
     refine qv A9 ?_
     refine AP ?_
     rw [show KT T=((kc wd).1,ws.map nv) by unfold KT;rw [hgd];rfl,show (BU T).isSome=true by rw [hgd];rfl]
     exact iR (rv:=[.cell 2 138,.tmp 3]) (s0:=.agg [.dv (i64 ((kc wd).1:Int)),.sl 80 0 0 ws.length]) (s1:=.dv (.bool true)) (.inr rfl) (by simp only [Dh,Dt,St.look,St.ev,lk,AA,AV,Au,Ar,FL,MC,reduceIte,Nat.reduceEqDiff];rfl) (.agg _ _ rfl fun j s c hs hd=>by match j,hs,hd with | 0,hs,hd=>cases hs;cases hd;exact .dv _ (.int _ _) | 1,hs,hd=>cases hs;cases hd;rw [<- nL];exact BS (L:=nr ws ws.length) (by simp only [AA,reduceIte,Nat.reduceEqDiff]<;>rfl) trivial (XB (Nat.le_refl _)) rfl rfl (fun _=>.int _ _)) (E8 (.dv _ (.bool _)))
end Go.Ab.Tryz
namespace Go.Ab
open Go.RowKit
section
variable {M M' N:Nat -> Nat × Option BG} {τ:Nat -> Option Nat}
def Nt (M M':Nat -> Nat × Option BG):Prop:=∀ t g b,M t=(g,some b) -> M' t=(g,some b)
theorem Nt.some (h:Nt M M') {t:Nat} {b:BG} (e:(M t).2=some b):(M' t).2=some b:=by
 rw [h t (M t).1 b (by rw [<- e])]
theorem Nt.live (h:Nt M M') {t g:Nat} (e:isLive M t g):isLive M' t g:=by
 obtain ⟨e1,e2⟩:=e
 obtain ⟨b,hb⟩:=Option.isSome_iff_exists.1 e2
 have:=h t (M t).1 b (by rw [<- hb])
 exact ⟨by rw [this];exact e1,by rw [this];rfl⟩
theorem Nt.WE (h:Nt M M') (ts:List Nat):Nt (Ch M ts) (Ch M' ts):=by
 intro t g b e
 unfold Ch at e ⊢
 split at e
 ·rename_i ht
  rw [if_pos ht]
  simp only [Prod.mk.injEq,Option.map_eq_some_iff] at e
  obtain ⟨rfl,b0,h1,rfl⟩:=e
  have:=h t (M t).1 b0 (by rw [<- h1])
  rw [this];rfl
 ·rename_i ht
  rw [if_neg ht]
  exact h t g b e
mutual
theorem rY (h:Nt M M'):∀ (c s:SV),Aa τ M N c s -> Aa τ M' N c s
 | .dead,_,_=>by simp only [Aa]
 | .dv _,s,e=>by cases s<;>simp only [Aa] at e ⊢<;>first | exact e | exact e.VY h
 | .Bw,s,e=>by cases s<;>simp only [Aa] at e ⊢
 | .emp _,s,e=>by cases s<;>simp only [Aa] at e ⊢<;>exact e
 | .sl _ _ _ _,s,e=>by cases s<;>simp only [Aa] at e ⊢<;>first | exact e | exact ⟨e.1,h.live e.2.1,e.2.2⟩
 | .pt _ _ _,s,e=>by cases s<;>simp only [Aa] at e ⊢<;>exact ⟨e.1,h.live e.2.1,e.2.2⟩
 | .agg cs,s,e=>by
  cases s with
  | agg ds=>simp only [Aa] at e ⊢;exact LV h cs ds e
  | dv d=>cases d<;>simp only [Aa] at e ⊢<;>exact e
  | _=>simp only [Aa] at e
 | .FR cs,s,e=>by
  cases s with
  | FR ds=>simp only [Aa] at e ⊢;exact LV h cs ds e
  | _=>simp only [Aa] at e
theorem LV (h:Nt M M'):∀ (cs ss:List SV),Ae τ M N cs ss -> Ae τ M' N cs ss
 | [],[],_=>by simp only [Ae]
 | c :: cs,s :: ss,e=>by simp only [Ae] at e ⊢;exact ⟨rY h c s e.1,LV h cs ss e.2⟩
 | [],_ :: _,e=>by simp only [Ae] at e
 | _ :: _,[],e=>by simp only [Ae] at e
end
end
section
variable {M M':Nat -> Nat × Option BG} {τ:List (Nat × Nat)}
theorem Z9 (h:Nt M M') {M0:Nat -> Nat × Option BG}:∀ {m0:List (Nat × BG)},LB τ M M0 m0 -> LB τ M' M0 m0
 | [],_=>trivial
 | (t',b') :: m0,⟨⟨q0,t,b,q1,q2,q3,q4,q5,q6,q7⟩,k⟩=>⟨⟨q0,t,b,q1,h.some q2,q3,q4,q5,q6,LV h _ _ q7⟩,Z9 h k⟩
theorem Yy (h:Nt M M'):∀ {mem:List (Nat × BG)} {rt:List Nat},Fu M τ mem rt -> Fu M' τ mem rt
 | [],[],_=>trivial
 | (_,b) :: mem,t :: rt,e=>by
  simp only [Fu] at e ⊢
  refine ⟨?_,Yy h e.2⟩
  rcases e.1 with ⟨h3,h4,b0,h5,h6⟩ | h3
  ·exact .inl ⟨h3,h4,b0,h.some h5,h6⟩
  ·exact .inr h3
 | [],_ :: _,e=>by simp only [Fu] at e
 | _ :: _,[],e=>by simp only [Fu] at e
theorem ZP (h:Nt M M'):∀ {ts:List Nat},LC M ts -> LC M' ts
 | [],_=>trivial
 | _ :: _,⟨⟨b,h1,h2⟩,k⟩=>⟨⟨b,h.some h1,h2⟩,ZP h k⟩
theorem oZ {S T:St} (h:Nt S.M T.M) {fz:List Nat} {m0 mem:List (Nat × BG)} {rt:List Nat} {args ss:List SV} (k:iP S fz τ m0 mem rt args ss):iP T fz τ m0 mem rt args ss :=
 ⟨ZP h k.hfz,Z9 (h.WE fz) k.A2H,k.inj,k.keys,k.nd0,LV (h.WE fz) _ _ k.hargs,Yy h k.hmem,k.nd1,k.nd2,k.off⟩
theorem SY:∀ {mem:List (Nat × BG)} {rt:List Nat},(∀ t ∈ rt,M' t=M t) -> Gg M' mem rt=Gg M mem rt
 | (e,b) :: mem,t :: rt,h=>by
  funext i
  simp only [Gg,SY (mem:=mem) (rt:=rt) fun u hu=>h u (List.mem_cons_of_mem _ hu),NZ,h t (by simp)]
 | [],[],_=>rfl
 | [],_ :: _,_=>rfl
 | _ :: _,[],_=>rfl
theorem Sj {N:Nat -> Nat × Option BG} {ρ:Nat -> Option (Nat × Nat)}:∀ {mem:List (Nat × BG)} {rt:List Nat},(∀ t ∈ rt,M' t=M t) -> puts M' N ρ mem rt=puts M N ρ mem rt
 | (e,b) :: mem,t :: rt,h=>by
  simp only [puts,Sj (mem:=mem) (rt:=rt) fun u hu=>h u (List.mem_cons_of_mem _ hu),NZ,lK,h t (by simp)]
 | [],[],_=>rfl
 | [],_ :: _,_=>rfl
 | _ :: _,[],_=>rfl
theorem dJ {d:Nat} {S T:St} {fz:List Nat} {res:List SV} {mem:List (Nat × BG)} {rt:List Nat} (h:∀ t ∈ fz ++ τ.map (·.2) ++ rt,T.M t=S.M t):R5 d T fz τ res mem rt=R5 d S fz τ res mem rt:=by
 have h1:∀ t ∈ fz,T.M t=S.M t:=fun t ht=>h t (by simp [ht])
 have h2:∀ p ∈ τ,T.M p.2=S.M p.2:=fun p hp=>h p.2 (by simp only [List.mem_append,List.mem_map];exact .inl (.inr ⟨p,hp,rfl⟩))
 have h3:∀ t ∈ rt,T.M t=S.M t:=fun t ht=>h t (by simp [ht])
 unfold R5 Ra
 rw [SY h3,Sj h3]
 have e1:Je T.M fz=Je S.M fz:=List.map_congr_left fun t ht=>by rw [h1 t ht]
 have e2:drops T.M τ=drops S.M τ:=List.map_congr_left fun p hp=>by rw [h2 p hp]
 rw [e1,e2]
theorem nN {fz:List Nat} {mem:List (Nat × BG)} {rt:List Nat}:∀ p ∈ Ra M fz τ mem rt,p.1 ∈ fz ++ τ.map (·.2) ++ rt:=by
 have hp:∀ {mem:List (Nat × BG)} {rt:List Nat} {N:Nat -> Nat × Option BG} {ρ:Nat -> Option (Nat × Nat)},∀ p ∈ puts M N ρ mem rt,p.1 ∈ rt:=by
  intro mem
  induction mem with
  | nil=>intro rt N ρ p h;simp [puts] at h
  | cons x mem ih =>
   intro rt N ρ p h
   cases rt with
   | nil=>simp [puts] at h
   | cons t rt =>
    simp only [puts,List.mem_append,List.mem_singleton] at h
    rcases h with h | h
    ·exact List.mem_cons_of_mem _ (ih p h)
    ·subst h;simp
 intro p h
 simp only [Ra,List.mem_append] at h ⊢
 rcases h with (h | h) | h
 ·simp only [Je,List.mem_map] at h
  obtain ⟨t,ht,rfl⟩:=h
  exact .inl (.inl ht)
 ·simp only [drops,List.mem_map] at h
  obtain ⟨q,hq,rfl⟩:=h
  exact .inl (.inr (List.mem_map.2 ⟨q,hq,rfl⟩))
 ·exact .inr (hp p h)
end
theorem iy {m:List (Nat × Nat × Option BG)} {M':Nat -> Nat × Option BG} (h:∀ t ∈ m.map (·.1),M' t=AA m t):Nt (AA m) M':=by
 intro t g b e
 have hin:∀ (m:List (Nat × Nat × Option BG)),AA m t=(g,some b) -> t ∈ m.map (·.1):=by
  intro m
  induction m with
  | nil=>intro e;simp [AA] at e
  | cons p m ih =>
   obtain ⟨k,v⟩:=p
   intro e
   simp only [AA] at e
   split at e
   ·rename_i hk;subst hk;simp
   ·exact List.mem_cons_of_mem _ (ih e)
 rw [h t (hin m e)];exact e
section
variable {cx:Cx} {P:Program} {N:Nat} {ops:Array Oper} {rest:List Oper} {l:List (Nat × SV)} {m m':List (Nat × Nat × Option BG)} {KD:List It -> St -> Prop} {its:List It}
 {d f:Nat} {ty:TypeId} {p:String} {af:Array Edge} {gd:Option (Nat × Bool)} {oa:Array Operand} {ts:Array TypeId} {args res ss:List SV} {m0 mem:List (Nat × BG)}
theorem PX (hc:Aw P f args (Ba m0) ⟨res,Ba mem⟩) (fz:List Nat) (τ:List (Nat × Nat)) (rt:List Nat) {v:SV}
  (kk:Bz cx ops rest (⟨m.map (·.1) ++ (fz ++ τ.map (·.2) ++ rt),⟨some d,v,true,Ra (AA m) fz τ mem rt⟩⟩ :: its) ⟨lk ((d,v) :: l),AA m'⟩ KD)
  (hs:oa.toList.map (St.ev ⟨lk l,AA m⟩)=ss:=by (simp only [List.map,St.look,St.ev,lk,AA,AV,Au,Ar,reduceIte,Nat.reduceAdd,Nat.reduceEqDiff,Nat.reduceMul]<;>rfl)) (h1:LC (AA m) fz:=by (simp [LC,AA,Dv])) (h2:LB τ (Ch (AA m) fz) (Ba m0) m0:=by (simp [LB,Ae,Aa,isLive,Ac,Ba,AA,Ch,BK,BJ,Af,BI,BL,BO,BM,BN,Dv])) (h3:(τ.map (·.2)).Nodup:=by decide) (h4:τ.all (fun p=>(m0.map (·.1)).contains p.1)=true:=by rfl) (h5:(m0.map (·.1)).Nodup:=by (simp))
  (h6:Ae (Ac τ) (Ch (AA m) fz) (Ba m0) args ss:=by (simp [Ae,Aa,isLive,Ac,Ba,AA,Ch,BK,BJ,Af,BI,BL,BO,BM,BN,Dv])) (h7:Fu (AA m) τ mem rt:=by (simp [Fu,AA,Ac])) (h8:(mem.map (·.1)).Nodup:=by (simp)) (h9:rt.Nodup:=by decide) (h10:∀ t ∈ rt,t ∉ fz:=by decide)
  (hv:jA (Ba mem) (Gg (AA m) mem rt) res=v:=by (simp only [jA,GV,EO,J4 BI,Gg,NZ,lK,Ba,AA,List.map,reduceIte,Nat.reduceEqDiff,Nat.reduceAdd,Nat.reduceLeDiff]<;>rfl)) (hm:Ww (Px m) (Ra (AA m) fz τ mem rt)=m':=by (simp only [Ww,Ra,Je,drops,puts,GV,EO,J4 BI,Gg,NZ,lK,Ba,AA,Px,Od,List.map,List.nil_append,List.cons_append,List.append_nil,Option.map_some,Option.getD_some,reduceIte,Nat.reduceEqDiff,Nat.reduceAdd,Nat.reduceLeDiff]<;>rfl)) (hP:cx.P=P:=by assumption) (hn:cx.n=N:=by assumption) (hd:d < N:=by decide) (hne:m ≠ []:=by simp) (hgd:Ho ops ⟨lk l,AA m⟩ gd:=by (first | exact trivial | exact ⟨_,rfl,by (simp only [lk,reduceIte,Nat.reduceEqDiff])⟩)) :
  Bz cx ops (⟨some d,.call { callee:=.value (.func f),args:=oa,argTypes:=ts },ty,p,af,gd⟩ :: rest) its ⟨lk l,AA m⟩ KD:=by
 subst hP;subst hn;subst hs
 have hok:iP ⟨lk l,AA m⟩ fz τ m0 mem rt args (oa.toList.map (St.ev ⟨lk l,AA m⟩)):=⟨h1,h2,h3,fun p hp=>by
  have:=List.all_eq_true.1 h4 p hp
  simpa using this,h5,h6,h7,h8,h9,h10⟩
 have he:R5 d ⟨lk l,AA m⟩ fz τ res mem rt=⟨some d,v,true,Ra (AA m) fz τ mem rt⟩:=by unfold R5;rw [hv]
 refine ⟨⟨m.map (·.1) ++ (fz ++ τ.map (·.2) ++ rt),⟨some d,v,true,Ra (AA m) fz τ mem rt⟩⟩,⟨rfl,fun q hq=>List.mem_append_right _ (nN q hq),fun _=>?_⟩,?_,?_⟩
 ·cases m with
  | nil=>exact absurd rfl hne
  | cons q m=>simp
 ·intro T t1 t2
  have hev:=Tj t1
  have hss:oa.toList.map T.ev=oa.toList.map (St.ev ⟨lk l,AA m⟩):=List.map_congr_left fun x hx=>hev x (by simp [Op.operands,Call.operands];exact .inr (by simpa using hx))
  have hsub:Nt (AA m) T.M:=iy fun t ht=>t2 t (List.mem_append_left _ ht)
  have hgT:Ho ops T gd:=by
   unfold Ho at hgd ⊢
   split
   ·trivial
   ·rename_i j want
    obtain ⟨s,q1,q2⟩:=hgd
    exact ⟨s,q1,by rw [t1 s (Ja rfl q1)];exact q2⟩
  have A2R:=oZ (S:=⟨lk l,AA m⟩) (T:=T) hsub hok
  rw [<- hss] at A2R
  have hcg:R5 d T fz τ res mem rt=⟨some d,v,true,Ra (AA m) fz τ mem rt⟩:=by
   rw [dJ (S:=⟨lk l,AA m⟩) fun t ht=>t2 t (List.mem_append_right _ ht),he]
  show GStep cx ops T _ (Eff.app T ⟨some d,v,true,Ra (AA m) fz τ mem rt⟩)
  rw [<- hcg]
  exact Gq hgT (.sem fun hg a w h=>U4 hg h rfl (pre:=[]) (caps:=[]) (args:=args) rfl A2R (by simpa using hc) rfl hd)
 ·have:Eff.app ⟨lk l,AA m⟩ ⟨some d,v,true,Ra (AA m) fz τ mem rt⟩=⟨lk ((d,v) :: l),AA m'⟩:=by
   rw [<- he]
   simp only [R5,Eff.app,if_true,FV,OE,FB,hv,hm]
  rw [this]
  exact kk
end
end Go.Ab
namespace Go.Ab.Tryz
open Go Go.Ab Go.Proofs Go.Ab.Ci Go.Ab.Gx
open Go.Ab.Heap (Az Ah BZ)
open Go.Ab.Heap (Hp Et validate sm)
theorem Wq {b:Bg} {h:Hp} {n:Int} {c:Cs} (F:Fn b h n) (ok:C8 b h n c):AR Tryz.prog 150 [xG (OZ b n),i64 (c.F3:Int)] (.many [.dv (i64 ((c.F3 ||| Vp (Lh b n) c.F3:Nat):Int)),.dv (i64 0)]):=by
 have h1:=f150 (OZ b n) (c.F3:Int)
 have h2:=OW F.mn (ok.F3 n) (d:=(0:Int)) (g:=fun n v=>((v ||| Vp n v:Nat):Int))
 have h3:=Rz F.mn (ok.F3 n)
 rw [F.mw] at h1 ⊢
 rw [h2,h3] at h1
 exact h1
theorem Pg {b:Bg} {h:Hp} {n:Int} {c:Cs} (F:Fn b h n) (ok:C8 b h n c):c.F3 ||| Vp (Lh b n) c.F3 < 68719476736:=by
 have h1:=bR F.mn (ok.F3 n)
 have h2:=mM F.mn (w:=c.F3)
 exact Nat.or_lt_two_pow (n:=36) h1 h2
set_option maxHeartbeats 4000000 in
set_option maxRecDepth 100000 in
theorem pU (b:Bg) (h:Hp) (n:Int) (c:Cs) (s:Int) (F:Fn b h n) (ok:C8 b h n c):Aw Tryz.prog 102 [.pt 100001 0 0,.pt 100000 0 0,.dv (.agg [i64 0,ints []])] (Ba (three b h n c c s)) ⟨[.dv (Ic (0))],Ba (three b h n c (Nh b n c) s)⟩:=by
 have hwf:=bR F.mn (ok.F3 n)
 have hsf:=Pg F ok
 have hbf:=bR F.mn (WT ok.hol n)
 have hd0:=ok.kD
 have hd1:=ok.day
 have ho:=ok.ord
 have hab:(c.F3 ||| Vp (Lh b n) c.F3) &&& PO b c.AU < 68719476736:=Nat.lt_of_le_of_lt Nat.and_le_right hbf
 refine DC Tryz.func102 rfl rfl (by rw [Tryz.ntmps102];simp) fun cx hP hn hg=>?_
 rw [Tryz.ntmps102] at hn
 refine Bj ?_
 refine sg ?_
 refine qp BX ?_
 refine qv A9 ?_
 refine AJ ?_
 refine sg ?_
 refine qv (AB Oo) ?_
 refine qv (AL Vb WY) ?_
 refine BD ?_
 refine sg ?_
 refine qv Bv ?_
 refine qv A9 ?_
 refine Dw (hb:=by decide) (ht:=?_)
 refine AJ ?_
 refine rd mixed ?_
 refine zv A8 ?_
 refine zv BR ?_
 refine zv (AB Kl) ?_
 refine zv (AQ H7 JI) ?_
 refine zv A8 ?_
 refine zv BR ?_
 refine zv (AB Jo) ?_
 refine zv (AL Ak Br) ?_
 refine GA (R:=[]) (Wq F ok) ?_
 refine zv A8 ?_
 iterate 2 refine zv Bf ?_
 iterate 2 refine zv A9 ?_
 refine ⟨by rfl,?_⟩
 refine AJ ?_
 refine sg ?_
 refine qv A8 ?_
 refine qv BP ?_
 refine Cv (hb:=by simp) (ht:=?_)
 refine AY ?_
 refine sg ?_
 refine qv A8 ?_
 refine qv BR ?_
 refine qv (AB Xc) ?_
 refine qv (AL Ak Br) ?_
 refine qv Am ?_
 refine qv BR ?_
 refine qv (AB Xc) ?_
 refine qs (CK Ak) ?_
 refine rd mixed ?_
 refine zv A8 ?_
 refine zv BR ?_
 refine zv (AB Jo) ?_
 refine zv (AL Ak Br) ?_
 iterate 2 refine zv A8 ?_
 refine GA (R:=[100001]) (f151 b h n c s ok.hol) ?_ (ha:=(CG (Ou (by (first | (simp only [AA,reduceIte,Nat.reduceEqDiff]<;>rfl) | (simp [L8,AA]<;>rfl)))) EH))
 refine zv (TF (ha:=by omega) (hb:=by omega)) ?_
 refine zv (Dc (ha:=by omega) (hb:=by omega)) ?_
 refine zv BR ?_
 refine zv (AB Jo) ?_
 refine zs (CK Ak) ?_
 refine ⟨by rfl,?_⟩
 refine sg ?_
 refine qv A9 ?_
 refine AP ?_
 rw [Lx]
 exact xg [(100000,100000),(100001,100001),(100002,100002)] (h2:=by simp [CV,Al,Ae,Aa,isLive,Ac,Ba,AA,Ch,BK,BJ,CR,Af,BI,BL,BO,BM,BN,Dv,Nh])
set_option maxHeartbeats 4000000 in
set_option maxRecDepth 100000 in
theorem pR (b:Bg) (h:Hp) (n:Int) (c:Cs) (s:Int) (F:Fn b h n) (ok:C8 b h n c) (k:Nat) (hk:k < 1000):Aw Tryz.prog 102 [.pt 100001 0 0,.pt 100000 0 0,.dv (.agg [i64 1,ints [(k:Int)]])] (Ba (three b h n c c s)) ⟨[.dv (Ic (Fp b c k))],Ba (three b h n c (fB (Fp b c k) (Kr b h c k) c) s)⟩:=by
 have g0:([(k:Int)]:List Int)[0]?=some (k:Int):=rfl
 refine DC Tryz.func102 rfl rfl (by rw [Tryz.ntmps102];simp) fun cx hP hn hg=>?_
 rw [Tryz.ntmps102] at hn
 refine Bj ?_
 refine sg ?_
 refine qp BX ?_
 refine qv A9 ?_
 refine AJ ?_
 refine sg ?_
 refine qv (AB Oo) ?_
 refine qv (AL Vb WY) ?_
 refine BD ?_
 refine sg ?_
 refine qv Bv ?_
 refine qv A9 ?_
 refine Cv (hb:=by decide) (ht:=?_)
 refine sg ?_
 refine qv Bv ?_
 refine qv A9 ?_
 refine Dw (hb:=by decide) (ht:=?_)
 refine sg ?_
 iterate 2 refine qv A8 ?_
 refine qv (AB Kk) ?_
 refine qv (AL Av Bl) ?_
 first | refine qv (BA Ap Ak) ?_ | refine qv (Bd Ap Ak) ?_
 refine qv (Bb Ak Br) ?_
 refine Dx (f152 b h n c s k F ok hk) [] [(100000,100000),(100001,100001),(100002,100002)] [100000,100001,100002] ?_
 refine qv A9 ?_
 refine AP ?_
 exact xg [(100000,100000),(100001,100001),(100002,100002)]
set_option maxHeartbeats 4000000 in
set_option maxRecDepth 100000 in
theorem jl (b:Bg) (h:Hp) (n:Int) (c:Cs) (s:Int) (F:Fn b h n) (ok:C8 b h n c) (i m:Nat) (hi:i < 1000) (hm:m < 1000):Aw Tryz.prog 102 [.pt 100001 0 0,.pt 100000 0 0,.dv (.agg [i64 2,ints [(i:Int),(m:Int)]])] (Ba (three b h n c c s)) ⟨[.dv (Ic (EW c i m))],Ba (three b h n c (fB (EW c i m) (I6 c i m) c) s)⟩:=by
 have g0:([(i:Int),(m:Int)]:List Int)[0]?=some (i:Int):=rfl
 have g1:([(i:Int),(m:Int)]:List Int)[1]?=some (m:Int):=rfl
 refine DC Tryz.func102 rfl rfl (by rw [Tryz.ntmps102];simp) fun cx hP hn hg=>?_
 rw [Tryz.ntmps102] at hn
 refine Bj ?_
 refine sg ?_
 refine qp BX ?_
 refine qv A9 ?_
 refine AJ ?_
 refine sg ?_
 refine qv (AB Oo) ?_
 refine qv (AL Vb WY) ?_
 refine BD ?_
 refine sg ?_
 refine qv Bv ?_
 refine qv A9 ?_
 refine Cv (hb:=by decide) (ht:=?_)
 refine sg ?_
 refine qv Bv ?_
 refine qv A9 ?_
 refine Cv (hb:=by decide) (ht:=?_)
 refine sg ?_
 refine qv Bv ?_
 refine qv A9 ?_
 refine Dw (hb:=by decide) (ht:=?_)
 refine AJ ?_
 refine rd mixed ?_
 iterate 2 refine zv A8 ?_
 refine zv (AB Kk) ?_
 refine zv (AL Av Bl) ?_
 first | refine zv (BA Ap Ak) ?_ | refine zv (Bd Ap Ak) ?_
 refine zv (Bb Ak Br) ?_
 refine zv (AB Kk) ?_
 refine zv (AL Av Bl) ?_
 first | refine zv (BA Ap Ak) ?_ | refine zv (Bd Ap Ak) ?_
 refine zv (Bb Ak Br) ?_
 refine PX (f153 b h n c s i m F ok hi hm) [] [(100000,100000),(100001,100001),(100002,100002)] [100000,100001,100002] ?_
 refine zv A9 ?_
 refine ⟨by rfl,?_⟩
 refine AP ?_
 exact xg [(100000,100000),(100001,100001),(100002,100002)]
set_option maxHeartbeats 4000000 in
set_option maxRecDepth 100000 in
theorem pQ (b:Bg) (h:Hp) (n:Int) (c:Cs) (s:Int) (F:Fn b h n) (ok:C8 b h n c) (r k:Nat) (hr:r < 1000) (hk:k < 1000):Aw Tryz.prog 102 [.pt 100001 0 0,.pt 100000 0 0,.dv (.agg [i64 3,ints [(r:Int),(k:Int)]])] (Ba (three b h n c c s)) ⟨[.dv (Ic (GH b c r k))],Ba (three b h n c (fB (GH b c r k) (NQ b c r k) c) s)⟩:=by
 have g0:([(r:Int),(k:Int)]:List Int)[0]?=some (r:Int):=rfl
 have g1:([(r:Int),(k:Int)]:List Int)[1]?=some (k:Int):=rfl
 refine DC Tryz.func102 rfl rfl (by rw [Tryz.ntmps102];simp) fun cx hP hn hg=>?_
 rw [Tryz.ntmps102] at hn
 refine Bj ?_
 refine sg ?_
 refine qp BX ?_
 refine qv A9 ?_
 refine AJ ?_
 refine sg ?_
 refine qv (AB Oo) ?_
 refine qv (AL Vb WY) ?_
 refine BD ?_
 refine sg ?_
 refine qv Bv ?_
 refine qv A9 ?_
 refine Cv (hb:=by decide) (ht:=?_)
 refine sg ?_
 refine qv Bv ?_
 refine qv A9 ?_
 refine Cv (hb:=by decide) (ht:=?_)
 refine sg ?_
 refine qv Bv ?_
 refine qv A9 ?_
 refine Cv (hb:=by decide) (ht:=?_)
 refine sg ?_
 refine qv Bv ?_
 refine qv A9 ?_
 refine Dw (hb:=by decide) (ht:=?_)
 refine AJ ?_
 refine rd mixed ?_
 iterate 2 refine zv A8 ?_
 refine zv (AB Kk) ?_
 refine zv (AL Av Bl) ?_
 first | refine zv (BA Ap Ak) ?_ | refine zv (Bd Ap Ak) ?_
 refine zv (Bb Ak Br) ?_
 refine zv (AB Kk) ?_
 refine zv (AL Av Bl) ?_
 first | refine zv (BA Ap Ak) ?_ | refine zv (Bd Ap Ak) ?_
 refine zv (Bb Ak Br) ?_
 refine PX (f154 b h n c s r k F ok hr hk) [] [(100000,100000),(100001,100001),(100002,100002)] [100000,100001,100002] ?_
 refine zv A9 ?_
 refine ⟨by rfl,?_⟩
 refine AP ?_
 exact xg [(100000,100000),(100001,100001),(100002,100002)]
set_option maxHeartbeats 4000000 in
set_option maxRecDepth 100000 in
theorem jk (b:Bg) (h:Hp) (n:Int) (c:Cs) (s:Int) (F:Fn b h n) (ok:C8 b h n c):Aw Tryz.prog 102 [.pt 100001 0 0,.pt 100000 0 0,.dv (.agg [i64 4,ints []])] (Ba (three b h n c c s)) ⟨[.dv (Ic (if c.shut then 5 else 0))],Ba (three b h n c (fB (if c.shut then 5 else 0) { c with shut:=true } c) s)⟩:=by
 refine DC Tryz.func102 rfl rfl (by rw [Tryz.ntmps102];simp) fun cx hP hn hg=>?_
 rw [Tryz.ntmps102] at hn
 refine Bj ?_
 refine sg ?_
 refine qp BX ?_
 refine qv A9 ?_
 refine AJ ?_
 refine sg ?_
 refine qv (AB Oo) ?_
 refine qv (AL Vb WY) ?_
 refine BD ?_
 refine sg ?_
 refine qv Bv ?_
 refine qv A9 ?_
 refine Cv (hb:=by decide) (ht:=?_)
 refine sg ?_
 refine qv Bv ?_
 refine qv A9 ?_
 refine Cv (hb:=by decide) (ht:=?_)
 refine sg ?_
 refine qv Bv ?_
 refine qv A9 ?_
 refine Cv (hb:=by decide) (ht:=?_)
 refine sg ?_
 refine qv Bv ?_
 refine qv A9 ?_
 refine Cv (hb:=by decide) (ht:=?_)
 refine sg ?_
 refine qv Bv ?_
 refine qv A9 ?_
 refine Dw (hb:=by decide) (ht:=?_)
 refine AJ ?_
 refine sg ?_
 refine qv A8 ?_
 refine qv BR ?_
 refine qv (AB Ta) ?_
 refine qv (AL H8 YG) ?_
 refine cd (fun hc6=>?_) (fun hc6=>?_)
 ·try simp at hc6
  refine sg ?_
  refine qv (DJ JU JL) ?_
  refine JR ⟨_,Tryz.underlying133,by intro ms;nofun⟩ ?_
  refine qv A9 ?_
  refine AP ?_
  have hs:c.shut=true:=by simpa using hc6
  rw [if_pos hs,Gs (by decide),Ew (by decide)]
  exact xg [(100000,100000),(100001,100001),(100002,100002)]
 ·try simp at hc6
  refine AY ?_
  refine rg ?_
  refine qv A8 ?_
  refine qv BR ?_
  refine qv (AB Ta) ?_
  refine qs (CK H8) ?_
  refine sg ?_
  refine qv A9 ?_
  refine AP ?_
  have hs:c.shut=false:=by simpa using hc6
  rw [if_neg (by simp [hs]),Lx,Jz]
  exact xg [(100000,100000),(100001,100001),(100002,100002)]
theorem Vs {T:Tx} {o:Nat × List Nat} (h:BU T=some o):o=(0,[]) \/ (∃ k,o=(1,[k]) /\ k < 1000) \/ (∃ i m,o=(2,[i,m]) /\ i < 1000 /\ m < 1000) \/ (∃ r k,o=(3,[r,k]) /\ r < 1000 /\ k < 1000) \/ o=(4,[]):=by
 unfold BU at h
 split at h
 ·cases h
 ·rename_i w ws hs
  split at h
  ·cases h
  ·rename_i k c hk
   split at h
   ·cases h
   ·rename_i hc
    obtain ⟨ns,hns,rfl⟩:=Option.map_eq_some_iff.1 h
    obtain ⟨h1,h2⟩:=jJ hns
    have hcl:ns.length=c:=by omega
    clear hc h1 hns hs h
    unfold Cc at hk
    split at hk
    ·simp only [Option.some.injEq,Prod.mk.injEq] at hk;obtain ⟨rfl,rfl⟩:=hk
     exact .inl (by rw [List.eq_nil_of_length_eq_zero hcl])
    ·split at hk
     ·simp only [Option.some.injEq,Prod.mk.injEq] at hk;obtain ⟨rfl,rfl⟩:=hk
      match ns,hcl,h2 with
      | [x],_,h2=>exact .inr (.inl ⟨x,rfl,h2 x (by simp)⟩)
     ·split at hk
      ·simp only [Option.some.injEq,Prod.mk.injEq] at hk;obtain ⟨rfl,rfl⟩:=hk
       match ns,hcl,h2 with
       | [x,y],_,h2=>exact .inr (.inr (.inl ⟨x,y,rfl,h2 x (by simp),h2 y (by simp)⟩))
      ·split at hk
       ·simp only [Option.some.injEq,Prod.mk.injEq] at hk;obtain ⟨rfl,rfl⟩:=hk
        match ns,hcl,h2 with
        | [x,y],_,h2=>exact .inr (.inr (.inr (.inl ⟨x,y,rfl,h2 x (by simp),h2 y (by simp)⟩)))
       ·split at hk
        ·simp only [Option.some.injEq,Prod.mk.injEq] at hk;obtain ⟨rfl,rfl⟩:=hk
         exact .inr (.inr (.inr (.inr (by rw [List.eq_nil_of_length_eq_zero hcl]))))
        ·cases hk
theorem f102 (b:Bg) (h:Hp) (n:Int) (c:Cs) (s:Int) (F:Fn b h n) (ok:C8 b h n c) {T:Tx} {o:Nat × List Nat} (ho:BU T=some o):Aw Tryz.prog 102 [.pt 100001 0 0,.pt 100000 0 0,.dv (vS o)] (Ba (three b h n c c s)) ⟨[.dv (Ic (Ti b c o))],Ba (three b h n c (fB (Ti b c o) (jm b h n c o) c) s)⟩:=by
 rcases Vs ho with rfl | ⟨k,rfl,hk⟩ | ⟨i,m,rfl,hi,hm⟩ | ⟨r,k,rfl,hr,hk⟩ | rfl
 ·exact pU b h n c s F ok
 ·exact pR b h n c s F ok k hk
 ·exact jl b h n c s F ok i m hi hm
 ·exact pQ b h n c s F ok r k hr hk
 ·exact jk b h n c s F ok
end Go.Ab.Tryz
namespace Go.Ab.Tryz
open Go Go.Ab Go.Proofs Go.Ab.Ci Go.Ab.Gx
open Go.Ab.Heap (Az Ah BZ)
open Go.Ab.Heap (Hp Et validate sm)
abbrev pair (b:Bg) (h:Hp) (n:Int) (c:Cs) (s:Int) (st:Nat):List (Nat × BG):=[(100000,ZY b h n c s 100001 100003),(100001,Cy c.orders st)]
theorem pV (e:Int):XK (Ic e)=some (decide (e=0)):=by
 unfold Ic
 by_cases h:e=0
 ·rw [if_pos h,decide_eq_true h];rfl
 ·rw [if_neg h,decide_eq_false h];rfl
theorem dI {b:Bg} {h:Hp} {n:Int} {c:Cs} {o:Nat × List Nat}:(jm b h n c o).orders=c.orders:=by
 unfold jm
 split<;>rfl
theorem Pt {T:Tx} {o:Nat × List Nat} (h:BU T=some o) (hT:T.length < 2000000):AR Tryz.prog 101 [CY T] (.many [.dv (vS o),.dv (.bool true)]):=by
 have h1:=f101 T hT
 unfold KT at h1
 rw [h] at h1;exact h1
theorem jE {T:Tx} (h:BU T=none) (hT:T.length < 2000000):AR Tryz.prog 101 [CY T] (.many [.dv (vS (0,[])),.dv (.bool false)]):=by
 have h1:=f101 T hT
 unfold KT at h1
 rw [h] at h1;exact h1
set_option maxHeartbeats 4000000 in
set_option maxRecDepth 100000 in
theorem ze (b:Bg) (h:Hp) (n:Int) (c:Cs) (s:Int) (F:Fn b h n) (ok:C8 b h n c) (T:Tx) (hT:T.length < 2000000) (hp:BU T=none):Aw Tryz.prog 65 [.pt 100000 0 0,.dv (CY T)] (Ba (pair b h n c s 100004)) ⟨[.dv (Ic 2)],Ba (pair b h n (c) s 100004)⟩:=by
 have hol:=ok.ord
 refine DC Tryz.func65 rfl rfl (by rw [Tryz.ntmps65];simp) fun cx hP hn hg=>?_
 rw [Tryz.ntmps65] at hn
 refine Bj ?_
 refine sg ?_
 refine qv A9 ?_
 refine sg ?_
 refine qv A8 ?_
 refine Bo (jE hp hT) ?_
 refine qv A8 ?_
 iterate 2 refine qv Bf ?_
 refine qp (Fj JK) ?_
 refine qs (CK FL) ?_
 refine qv A9 ?_
 refine AJ ?_
 refine sg ?_
 refine qv A8 ?_
 refine qv Bn ?_
 refine Dw (hb:=by rfl) (ht:=?_)
 refine sg ?_
 refine qv (DJ JU JL) ?_
 refine JR ⟨_,Tryz.underlying133,by intro ms;nofun⟩ ?_
 refine qv A9 ?_
 refine AP ?_
 rw [Gs (by decide)]
 exact xg [(100000,100000),(100001,100001)]
set_option maxHeartbeats 4000000 in
set_option maxRecDepth 100000 in
theorem oz (b:Bg) (h:Hp) (n:Int) (c:Cs) (s:Int) (F:Fn b h n) (ok:C8 b h n c) (T:Tx) (hT:T.length < 2000000) {o:Nat × List Nat} (ho:BU T=some o) (hl:100 <= c.orders.length):Aw Tryz.prog 65 [.pt 100000 0 0,.dv (CY T)] (Ba (pair b h n c s 100004)) ⟨[.dv (Ic 3)],Ba (pair b h n (c) s 100004)⟩:=by
 have hol:=ok.ord
 refine DC Tryz.func65 rfl rfl (by rw [Tryz.ntmps65];simp) fun cx hP hn hg=>?_
 rw [Tryz.ntmps65] at hn
 refine Bj ?_
 refine sg ?_
 refine qv A9 ?_
 refine sg ?_
 refine qv A8 ?_
 refine Bo (Pt ho hT) ?_
 refine qv A8 ?_
 iterate 2 refine qv Bf ?_
 refine qp (Fj JK) ?_
 refine qs (CK FL) ?_
 refine qv A9 ?_
 refine AJ ?_
 refine sg ?_
 refine qv A8 ?_
 refine qv Bn ?_
 refine Cv (hb:=by rfl) (ht:=?_)
 refine AY ?_
 refine AJ ?_
 refine sg ?_
 refine qv A8 ?_
 refine qv BR ?_
 refine qv (AB Ht) ?_
 refine qv (AB Ls) ?_
 refine qv (AL Fv Hl) ?_
 refine qv (Cg Dg) ?_
 refine qv Df ?_
 refine Dw (hb:=(by simp;omega)) (ht:=?_)
 refine sg ?_
 refine qv (DJ JU JL) ?_
 refine JR ⟨_,Tryz.underlying133,by intro ms;nofun⟩ ?_
 refine qv A9 ?_
 refine AP ?_
 rw [Gs (by decide)]
 exact xg [(100000,100000),(100001,100001)]
set_option maxHeartbeats 4000000 in
set_option maxRecDepth 100000 in
theorem uZ (b:Bg) (h:Hp) (n:Int) (c:Cs) (s:Int) (F:Fn b h n) (ok:C8 b h n c) (T:Tx) (hT:T.length < 2000000) {o:Nat × List Nat} (ho:BU T=some o) (hl:c.orders.length < 100) (he:Ti b c o ≠ 0):Aw Tryz.prog 65 [.pt 100000 0 0,.dv (CY T)] (Ba (pair b h n c s 100004)) ⟨[.dv (Ic (Ti b c o))],Ba (pair b h n (c) s 100004)⟩:=by
 have hol:=ok.ord
 refine DC Tryz.func65 rfl rfl (by rw [Tryz.ntmps65];simp) fun cx hP hn hg=>?_
 rw [Tryz.ntmps65] at hn
 refine Bj ?_
 refine sg ?_
 refine qv A9 ?_
 refine sg ?_
 refine qv A8 ?_
 refine Bo (Pt ho hT) ?_
 refine qv A8 ?_
 iterate 2 refine qv Bf ?_
 refine qp (Fj JK) ?_
 refine qs (CK FL) ?_
 refine qv A9 ?_
 refine AJ ?_
 refine sg ?_
 refine qv A8 ?_
 refine qv Bn ?_
 refine Cv (hb:=by rfl) (ht:=?_)
 refine AY ?_
 refine AJ ?_
 refine sg ?_
 refine qv A8 ?_
 refine qv BR ?_
 refine qv (AB Ht) ?_
 refine qv (AB Ls) ?_
 refine qv (AL Fv Hl) ?_
 refine qv (Cg Dg) ?_
 refine qv Df ?_
 refine Cv (hb:=(by simp;omega)) (ht:=?_)
 refine AY ?_
 refine sg ?_
 refine qv A8 ?_
 refine qv BR ?_
 refine qv (AB Ht) ?_
 refine qv (AQ O5 aB) ?_
 refine qp (Fj iQ) ?_
 refine qs (CK O5) ?_
 refine AJ ?_
 refine sg ?_
 refine qv A8 ?_
 refine qv (AQ FL MC) ?_
 refine Dx (f102 b h n c s F ok ho) [] [(100000,7),(100001,100000),(100002,100001)] [7,100000,100001] ?_
 refine qv A9 ?_
 refine sg ?_
 refine qv A8 ?_
 refine mR xV (pV _) ?_
 refine Dw (hb:=(by simp [he])) (ht:=?_)
 refine sg ?_
 refine qv A8 ?_
 refine qv A9 ?_
 refine AP ?_
 exact xg [(100000,100000),(100001,100001)]
set_option maxHeartbeats 4000000 in
set_option maxRecDepth 100000 in
theorem uY (b:Bg) (h:Hp) (n:Int) (c:Cs) (s:Int) (F:Fn b h n) (ok:C8 b h n c) (T:Tx) (hT:T.length < 2000000) {o:Nat × List Nat} (ho:BU T=some o) (hl:c.orders.length < 100) (he:Ti b c o=0):Aw Tryz.prog 65 [.pt 100000 0 0,.dv (CY T)] (Ba (pair b h n c s 100004)) ⟨[.dv (Ic 0)],Ba (pair b h n ({ jm b h n c o with orders:=c.orders ++ [T] }) s 0)⟩:=by
 have hol:=ok.ord
 have hex:=f102 b h n c s F ok ho
 rw [he,Lx,Jz] at hex
 have hexo:=dI (b:=b) (h:=h) (n:=n) (c:=c) (o:=o)
 simp only [three,eF,stC,hexo] at hex
 refine DC Tryz.func65 rfl rfl (by rw [Tryz.ntmps65];simp) fun cx hP hn hg=>?_
 rw [Tryz.ntmps65] at hn
 refine Bj ?_
 refine sg ?_
 refine qv A9 ?_
 refine sg ?_
 refine qv A8 ?_
 refine Bo (Pt ho hT) ?_
 refine qv A8 ?_
 iterate 2 refine qv Bf ?_
 refine qp (Fj JK) ?_
 refine qs (CK FL) ?_
 refine qv A9 ?_
 refine AJ ?_
 refine sg ?_
 refine qv A8 ?_
 refine qv Bn ?_
 refine Cv (hb:=by rfl) (ht:=?_)
 refine AY ?_
 refine AJ ?_
 refine sg ?_
 refine qv A8 ?_
 refine qv BR ?_
 refine qv (AB Ht) ?_
 refine qv (AB Ls) ?_
 refine qv (AL Fv Hl) ?_
 refine qv (Cg Dg) ?_
 refine qv Df ?_
 refine Cv (hb:=(by simp;omega)) (ht:=?_)
 refine AY ?_
 refine sg ?_
 refine qv A8 ?_
 refine qv BR ?_
 refine qv (AB Ht) ?_
 refine qv (AQ O5 aB) ?_
 refine qp (Fj iQ) ?_
 refine qs (CK O5) ?_
 refine AJ ?_
 refine sg ?_
 refine qv A8 ?_
 refine qv (AQ FL MC) ?_
 refine Dx (hex) [] [(100000,7),(100001,100000),(100002,100001)] [7,100000,100001] ?_
 refine qv A9 ?_
 refine sg ?_
 refine qv A8 ?_
 refine mR xV (c:=true) rfl ?_
 refine Cv (hb:=by rfl) (ht:=?_)
 refine AY ?_
 refine sg ?_
 refine qv (AB Ls) ?_
 refine qv (AL Fv Hl) ?_
 refine qv A8 ?_
 refine qr (D7 CF KL DZ) ?_
 refine Qg (DK CF CF KL DZ WQ (hc:=El)) ?_
 refine qv (AB Ls) ?_
 refine qs (CK Fv) ?_
 refine sg ?_
 refine qv A8 ?_
 refine qv (AQ O5 aB) ?_
 refine qv BR ?_
 refine qv (AB Ht) ?_
 refine qs (CK O5) ?_
 refine sg ?_
 refine qv A9 ?_
 refine AP ?_
 rw [Lx]
 exact xg [(100000,100000),(100001,41)]
theorem f65 (b:Bg) (h:Hp) (n:Int) (c:Cs) (s:Int) (F:Fn b h n) (ok:C8 b h n c) (T:Tx) (hT:T.length < 2000000):Aw Tryz.prog 65 [.pt 100000 0 0,.dv (CY T)] (Ba (pair b h n c s 100004)) ⟨[.dv (Ic (Kq b c T))],Ba (pair b h n (Mx b h n c T) s 0)⟩:=by
 have own:∀ e,Aw Tryz.prog 65 [.pt 100000 0 0,.dv (CY T)] (Ba (pair b h n c s 100004)) ⟨[.dv (Ic e)],Ba (pair b h n c s 100004)⟩ -> Aw Tryz.prog 65 [.pt 100000 0 0,.dv (CY T)] (Ba (pair b h n c s 100004)) ⟨[.dv (Ic e)],Ba (pair b h n c s 0)⟩:=fun e hh =>
  hh.own ⟨rfl,.inl rfl,rfl,.inr ⟨Nat.le_of_ble_eq_true rfl,rfl⟩,trivial⟩
 by_cases e:Kq b c T=0
 ·obtain ⟨o,h1,h2,h3,h4⟩:=Xi (h:=h) (n:=n) e
  rw [e,h4]
  exact uY b h n c s F ok T hT h1 h2 h3
 ·rw [Tv e]
  refine own _ ?_
  unfold Kq at e ⊢
  cases hp:BU T with
  | none=>exact ze b h n c s F ok T hT hp
  | some o =>
   rw [hp] at e
   simp only at e ⊢
   by_cases hl:100 <= c.orders.length
   ·rw [if_pos hl];exact oz b h n c s F ok T hT hp hl
   ·rw [if_neg hl] at e ⊢;exact uZ b h n c s F ok T hT hp (by omega) e
end Go.Ab.Tryz
namespace Go.Ab.Tryz
open Go Go.Ab Go.Proofs Go.Conc.Locks
abbrev bF:MuLink:={ lock:=62,unlock:=63,ilock:=98,iunlock:=99,lockSlow:=140,unlockSlow:=143,disable:=136,enable:=138,acquire:=139,relMerge:=141,cas32:=137,add32:=142,tMutex:=96,tIMutex:=94,tPMutex:=131,tPIMutex:=170,tPI32:=172,tUP:=174,tNoCopy:=91,tU32:=92 }
theorem fI:MuLib Tryz.prog bF where
 f_lock:=Tryz.func62
 f_unlock:=Tryz.func63
 f_ilock:=Tryz.func98
 f_iunlock:=Tryz.func99
 f_disable:=Tryz.func136
 f_enable:=Tryz.func138
 f_acquire:=Tryz.func139
 f_relMerge:=Tryz.func141
 f_cas32:=Tryz.func137
 f_add32:=Tryz.func142
 underlying_tIMutex:=Tryz.underlying94
 runUnderlying_tIMutex:=fun w=>run_underlying Tryz.underlying94 w
 sizeOf_tIMutex:=Tryz.sizeOf94
 isAgg_tIMutex:=Tryz.isAgg94
 zeroValue_tIMutex:=Tryz.zeroValue94
 underlying_tMutex:=Tryz.underlying96
 runUnderlying_tMutex:=fun w=>run_underlying Tryz.underlying96 w
 sizeOf_tMutex:=Tryz.sizeOf96
 isAgg_tMutex:=Tryz.isAgg96
 zeroValue_tMutex:=Tryz.zeroValue96
 underlying_tPMutex:=Tryz.underlying131
 runUnderlying_tPMutex:=fun w=>run_underlying Tryz.underlying131 w
 sizeOf_tPMutex:=Tryz.sizeOf131
 isAgg_tPMutex:=Tryz.isAgg131
 zeroValue_tPMutex:=Tryz.zeroValue131
 underlying_tPIMutex:=Tryz.underlying170
 runUnderlying_tPIMutex:=fun w=>run_underlying Tryz.underlying170 w
 sizeOf_tPIMutex:=Tryz.sizeOf170
 isAgg_tPIMutex:=Tryz.isAgg170
 zeroValue_tPIMutex:=Tryz.zeroValue170
 underlying_tPI32:=Tryz.underlying172
 runUnderlying_tPI32:=fun w=>run_underlying Tryz.underlying172 w
 sizeOf_tPI32:=Tryz.sizeOf172
 isAgg_tPI32:=Tryz.isAgg172
 zeroValue_tPI32:=Tryz.zeroValue172
 underlying_tUP:=Tryz.underlying174
 runUnderlying_tUP:=fun w=>run_underlying Tryz.underlying174 w
 sizeOf_tUP:=Tryz.sizeOf174
 isAgg_tUP:=Tryz.isAgg174
 zeroValue_tUP:=Tryz.zeroValue174
 underlying_tNoCopy:=Tryz.underlying91
 runUnderlying_tNoCopy:=fun w=>run_underlying Tryz.underlying91 w
 sizeOf_tNoCopy:=Tryz.sizeOf91
 isAgg_tNoCopy:=Tryz.isAgg91
 zeroValue_tNoCopy:=Tryz.zeroValue91
 underlying_t21:=Tryz.underlying21
 runUnderlying_t21:=fun w=>run_underlying Tryz.underlying21 w
 sizeOf_t21:=Tryz.sizeOf21
 isAgg_t21:=Tryz.isAgg21
 zeroValue_t21:=Tryz.zeroValue21
 room_tIMutex:=by kernel_rfl
end Go.Ab.Tryz
namespace Go.Ab
open Go.RowKit Go.Conc.Locks
section
variable {cx:Cx} {S:St} {ops:Array Oper}
theorem WO:∀ {l:List Oper} {S:St} {K:St -> Prop},Chain cx ops l S K -> ∃ S1,Chain cx ops l S (fun S'=>S'=S1) /\ K S1
 | [],S,K,h=>⟨S,rfl,h⟩
 | o :: l,S,K,⟨S',h1,h2⟩=>by
  obtain ⟨S1,h3,h4⟩:=WO h2
  exact ⟨S1,⟨S',h1,h3⟩,h4⟩
theorem Uc (hg:cx.Good) {P:Program} {fn:Func} {L:MuLink} {Y:qz} (hP:cx.P=P) (hrn:cx.Lc=none) (jW:cx.dq=[]) (hfin:∀ a w,wK P L.unlock fn Y cx.w0 cx.X0 cx.Wr cx.loc a w -> cx.fin a w)
  {id:Nat} {o1 o2 o3:Oper} {x:Operand} {ts:Array TypeId} {ty:TypeId} {p:String} {af:Array Edge} {rest:Code} {K:Exit -> St -> Prop}
  (hch:Chain cx [o1,o2,o3,(⟨none,.defer { callee:=.value (.func L.unlock),args:=#[x],argTypes:=ts },ty,p,af,none⟩:Oper)].toArray [o1,o2,o3] S fun S'=>∃ t g off blk,S'.ev x=.pt t g off /\ S'.M t=(g,some blk) /\ 3 <= blk.st ∧
   ∀ JD:Cx,JD.P=P -> JD.n=cx.n -> JD.Good -> Eu JD rest (A0Y P fn.results.toList Y (blk.st - 3) off) S') :
  Eu cx (.seq (.region id [o1,o2,o3,(⟨none,.defer { callee:=.value (.func L.unlock),args:=#[x],argTypes:=ts },ty,p,af,none⟩:Oper)].toArray false) rest) K S:=by
 obtain ⟨S1,h1,t,g,off,blk,h2,h3,h4,h5⟩:=WO hch
 exact kP hg (L:=L) (fn:=fn) (Y:=Y) hP hrn jW hfin (lo:=[o1,o2,o3]) h1 h2 h3 h4 h5
end
theorem xu {P:Program} {rv:List ResultVar} {Y:qz} {i off g:Nat} {blk:BG} {l:List (Nat × SV)} {m m':List (Nat × Nat × Option BG)} (t:Nat) (k:aH P rv Y .ret ⟨lk l,AA ((t,g,some { blk with cells:=putCells blk.cells off [.dv (.int .i32 0)] }) :: m')⟩)
  (hM:AA m t=(g,some blk):=by (simp only [AA,reduceIte,Nat.reduceEqDiff]<;>rfl)) (hst:blk.st=i+3:=by rfl) (h1:blk.cells[off]?=some (.dv (.int .i32 1)):=by rfl) (hv:Px m=m':=by (simp only [Px,Od]<;>rfl)):A0Y P rv Y i off .ret ⟨lk l,AA m⟩:=by
 subst hv
 refine ⟨rfl,t,g,blk,hM,hst,h1,?_⟩
 show aH P rv Y .ret ⟨lk l,upd (C9 (AA m)) t _⟩
 rw [FV,Ej]
 exact k
end Go.Ab
namespace Go.Ab
open Go.RowKit
def og (P:Program) (s:TypeId) (f:Nat):Option (Nat × TypeId) :=
 match P.underlying s with
 | some (.struct fs)=>(fs[f]?).map fun fl=>(fl.offset,fl.type)
 | _=>none
section
variable {cx:Cx} {P:Program} {N:Nat} {ops:Array Oper} {rest:List Oper} {l:List (Nat × SV)} {m:List (Nat × Nat × Option BG)} {K:St -> Prop} {d t ty f off ft:Nat} {p:String} {af:Array Edge} {x:Operand} {gd:Option (Nat × Bool)}
theorem OQ {cs:List DV} {c:DV} (hf:og P t f=some (off,ft)) (ha:Fy P ft=some false) (hc:cs[off]?=some c) (kk:Chain cx ops rest ⟨lk ((d,.dv c) :: l),AA m⟩ K)
  (hx:St.ev ⟨lk l,AA m⟩ x=.dv (.agg cs):=by (simp only [St.look,St.ev,lk,AA,AV,Au,Ar,reduceIte,Nat.reduceAdd,Nat.reduceEqDiff,Nat.reduceMul]<;>rfl)) (hP:cx.P=P:=by assumption) (hn:cx.n=N:=by assumption) (hd:d < N:=by decide)
  (hgd:Ho ops ⟨lk l,AA m⟩ gd:=by (first | exact trivial | exact ⟨_,rfl,by (simp only [lk,reduceIte,Nat.reduceEqDiff])⟩)) :
  Chain cx ops (⟨some d,.field t x f,ty,p,af,gd⟩ :: rest) ⟨lk l,AA m⟩ K:=by
 subst hP;subst hn
 refine ⟨⟨lk ((d,.dv c) :: l),AA m⟩,Gq hgd (.sem fun hg a w ⟨μ,h⟩=>Runs.does ?_),kk⟩
 have hv:=h.ev x
 rw [hx] at hv
 simp only [AO] at hv
 have hap:(⟨lk l,AA m⟩:St).apply cx.n (some d) (.val (.dv c))=some ⟨lk ((d,.dv c) :: l),AA m⟩:=by
  have:=Ip (MV (r:=.dv c) hd ⟨lk l,AA m⟩)
  rw [this,Ky]
 generalize hxv:a.eval x=v at hv
 cases hv with
 | agg _ vs hsz hh =>
  have hlt:off < vs.size:=by rw [hsz];exact (List.getElem?_eq_some_iff.1 hc).1
  have h1:=hh off c hc
  refine Ca h (v:=vs.getD off undef) ?_ (by simp only [AO];exact h1) hap
  unfold og at hf
  split at hf
  ·rename_i fs hu
   obtain ⟨fl,h2,h3⟩:=Option.map_eq_some_iff.1 hf
   simp only [Prod.mk.injEq] at h3
   obtain ⟨rfl,rfl⟩:=h3
   have hrun:(Instr.field t (.agg vs) f).run cx.P w=.ok (vs.getD fl.offset undef) w:=by
    have hg:vs[fl.offset]?=some (vs.getD fl.offset undef):=by simp [hlt]
    unfold Instr.field
    simp only [Sem.run_bind,run_underlying hu,Result.andThen_ok,h2]
    show (do let cs <- asAgg (.agg vs);part fl.type cs fl.offset:Sem Value).run cx.P w=_
    simp only [Sem.run_bind]
    show Result.andThen (Result.ok vs w) _=_
    simp only [Result.andThen_ok]
    unfold part
    simp only [Sem.run_bind,Uj ha,Result.andThen_ok,hg]
    rfl
   unfold execOp
   simp only [Sem.run_bind,hxv,hrun]
   rfl
  ·cases hf
end
end Go.Ab
namespace Go.Ab.Tryz
open Go Go.Ab Go.Proofs Go.Ab.Ci Go.Ab.Gx
open Go.Ab.Heap (Hp Et validate sm Az)
theorem A3R:F8 Tryz.prog 62:=⟨_,Tryz.func62,rfl,rfl⟩
theorem A3Q:F8 Tryz.prog 63:=⟨_,Tryz.func63,rfl,rfl⟩
theorem XI:Lp Tryz.prog 34=true:=by kernel_rfl
set_option maxHeartbeats 4000000 in
set_option maxRecDepth 100000 in
theorem f24 (b:Bg) (h:Hp) (n:Int) (c:Cs) (F:Fn b h n) (ok:C8 b h n c) (T:Tx) (hT:T.length < 2000000):Aw Tryz.prog 24 [.pt 100000 0 0,.dv (CY T)] (Ba (pair b h n c 0 100004)) ⟨[.dv (i64 (Kq b c T))],Ba (pair b h n (Mx b h n c T) 0 0)⟩:=by
 refine U3 fI A3Q Tryz.func24 rfl rfl (by rw [Tryz.ntmps24];simp) fun cx hP hn hg hrn jW hfin=>?_
 rw [Tryz.ntmps24] at hn
 refine Bj ?_
 refine sg ?_
 refine qv A9 ?_
 refine AJ ?_
 refine sg ?_
 refine qv A8 ?_
 refine Yi XI ?_
 refine Cv (hb:=rfl) (ht:=?_)
 refine AY ?_
 refine sg ?_
 refine qv A8 ?_
 refine qv BR ?_
 refine qv (AB Rk) ?_
 refine mQ fI A3R ?_
 show Eu cx _ _ ⟨lk _,AA [(100000,0,some (ZY b h n c 1 100001 100003)),(100000,0,some (ZY b h n c 0 100001 100003)),(100001,0,some (Cy c.orders 100004))]⟩
 refine Uc hg (L:=bF) (fn:=Proofs.Tryz.f24) hP hrn jW hfin ?_
 refine qv A8 ?_
 refine qv BR ?_
 refine qv (AB Rk) ?_
 refine ⟨100000,0,0,_,(by simp only [St.look,St.ev,lk,AA,AV,Au,Ar,reduceIte,Nat.reduceAdd,Nat.reduceEqDiff,Nat.reduceMul]<;>rfl),(by simp only [AA,reduceIte,Nat.reduceEqDiff]<;>rfl),Nat.le_of_ble_eq_true rfl,fun qy hP1 hn1 hg1=>?_⟩
 rw [hn] at hn1
 refine sg ?_
 iterate 2 refine qv A8 ?_
 refine Dx (f65 b h n c 1 F ok T hT) [] [(100000,100000),(100001,100001)] [100000,100001] ?_
 refine Bo (f64 (Kq b c T)) ?_
 refine qv A9 ?_
 show Eu qy _ _ _
 refine AP ?_
 refine xu 100000 ?_
 exact xg [(100000,100000),(100001,100001)] (h2:=by simp [CV,Al,Ae,Aa,isLive,Ac,Ba,AA,Ch,BK,BJ,CR,Af,BI,BL,BO,BM,BN,Dv,putCells])
end Go.Ab.Tryz
namespace Go.Ab.Tryz
open Go Go.Ab Go.Proofs Go.Ab.Ci Go.Ab.Gx
open Go.Ab.Heap (Hp Et validate sm Az)
abbrev dSt (c:Cs):DV:=.agg [i64 c.day,ints c.AU,ints c.AX,i64 (c.F3:Int),i64 c.Ei,i64 c.cut,i64 c.loaded,.bool c.shut,Gi c.orders]
theorem Hf {ok:Nat -> Prop} {Db:DV -> Prop} {M:Nat -> Nat × Option BG} {t g n st:Nat} {L:List Tx} (hM:M t=(g,some (Cy L st))) (hst:ok st) (hl:L.length=n) (hd:∀ T,Db (CY T)):Data ok Db M (.sl t g 0 n) (Gi L):=by
 have hf:flat (L.map CY)=L.map CY:=II fun _=>rfl
 refine Ot hM hst (by simpa using hl) (fun d hd'=>?_) ?_ fun c hc'=>?_
 ·obtain ⟨q,_,rfl⟩:=List.mem_map.1 hd';rfl
 ·rw [hf];simp
 ·rw [hf] at hc';obtain ⟨q,_,rfl⟩:=List.mem_map.1 hc';exact hd q
set_option maxHeartbeats 4000000 in
set_option maxRecDepth 100000 in
theorem f68 (b:Bg) (h:Hp) (n:Int) (c:Cs) (F:Fn b h n) (ok:C8 b h n c):Aw Tryz.prog 68 [.pt 100000 0 0] (Ba (pair b h n c 0 100004)) ⟨[.dv (dSt c)],Ba (pair b h n c 0 100004)⟩:=by
 have uM:=ok.hol.len
 have Uz:=F.bg.n6
 have htl:=ok.Mj
 have hg5:=F.vh.n5
 have hol:=ok.ord
 refine U3 fI A3Q Tryz.func68 rfl rfl (by rw [Tryz.ntmps68];simp) fun cx hP hn hg hrn jW hfin=>?_
 rw [Tryz.ntmps68] at hn
 refine Bj ?_
 refine sg ?_
 refine qp (Fj iQ) ?_
 refine AJ ?_
 refine sg ?_
 refine qv A8 ?_
 refine Yi XI ?_
 refine Cv (hb:=rfl) (ht:=?_)
 refine AY ?_
 refine sg ?_
 refine qv A8 ?_
 refine qv BR ?_
 refine qv (AB Rk) ?_
 refine mQ fI A3R ?_
 refine Eu.le (tl [(2,2),(100000,100000),(100001,100001)] (l:=[(0,.pt 100000 0 0),(2,.pt 2 0 0)]) (m:=[(2,0,some ⟨[.dv (i64 0),.Bw,.Bw,.dv (i64 0),.dv (i64 0),.dv (i64 0),.dv (i64 0),.dv (.bool false),.Bw],0,98,0,false⟩),(100000,0,some (ZY b h n c 1 100001 100003)),(100001,0,some (Cy c.orders 100004))]) (hM:=by simp [CV,Al,Ae,Aa,lk,AA,isLive,Ac,BK,BJ,CR,Af,BI,BL,BO,BM,BN,putCells])) ?_
 refine Uc hg (L:=bF) (fn:=Proofs.Tryz.f68) hP hrn jW hfin ?_
 refine qv A8 ?_
 refine qv BR ?_
 refine qv (AB Rk) ?_
 refine ⟨100000,0,0,_,(by simp only [St.look,St.ev,lk,AA,AV,Au,Ar,reduceIte,Nat.reduceAdd,Nat.reduceEqDiff,Nat.reduceMul]<;>rfl),(by simp only [AA,reduceIte,Nat.reduceEqDiff]<;>rfl),Nat.le_of_ble_eq_true rfl,fun qy hP1 hn1 hg1=>?_⟩
 rw [hn] at hn1
 refine sg ?_
 refine qv A8 ?_
 refine qv BR ?_
 refine qv (AB Ht) ?_
 refine qv (AQ O5 aB) ?_
 refine qp (Fj iQ) ?_
 refine qs (CK O5) ?_
 show Eu qy _ _ _
 refine AJ ?_
 refine rd mixed ?_
 refine zv (AB FJ) ?_
 refine zv (AL Av Bl) ?_
 refine GA (R:=[]) (f97 c.AU (by omega)) ?_
 refine zv (AB GJ) ?_
 refine zv (AL Av Bl) ?_
 refine GA (R:=[]) (f97 c.AX (by omega)) ?_
 refine zv (AB Ls) ?_
 refine zv (AL Fv Hl) ?_
 refine GA (R:=[100001]) (f105 c.orders (by omega)) ?_ (ha:=CG (Hf (by (first | (simp only [AA,reduceIte,Nat.reduceEqDiff]<;>rfl) | (simp [L8,AA]<;>rfl))) trivial rfl (fun _=>trivial)) EH) (hS:=sK (by simp only [AA,reduceIte,Nat.reduceEqDiff]<;>rfl))
 refine zv (AB FJ) ?_
 refine zs (CK Av) ?_
 refine zv (AB GJ) ?_
 refine zs (CK Av) ?_
 refine zv (AB Ls) ?_
 refine zs (CK Fv) ?_
 refine ⟨by rfl,?_⟩
 show Eu qy _ _ _
 refine G9 20 ?_
 refine G9 23 ?_
 refine G9 26 ?_
 refine sg ?_
 refine qv (AQ O5 aB) ?_
 refine qs (CK O5) ?_
 show Eu qy _ _ _
 refine AP ?_
 refine xu 100000 ?_
 have e1:(putCells (ZY b h n c 1 100001 100003).cells 0 [SV.dv (DV.int IntKind.i32 0)])=coC b h n c 0 100001:=rfl
 rw [e1]
 refine xg (ss:=[.agg [.dv (i64 c.day),.sl 20 1 0 c.AU.length,.sl 23 1 0 c.AX.length,.dv (i64 (c.F3:Int)),.dv (i64 c.Ei),.dv (i64 c.cut),.dv (i64 c.loaded),.dv (.bool c.shut),.sl 26 1 0 c.orders.length]]) [(100000,100000),(100001,100001)] (hs:=?_) (h1:=?_) (h2:=?_)
 ·simp only [Dh,Dt,St.look,St.ev,lk,AA,AV,Au,Ar,O5,aB,reduceIte,Nat.reduceEqDiff];rfl
 ·refine ⟨?_,trivial⟩
  simp only [Aa]
  refine .agg _ _ rfl fun j s d hs hd=>?_
  match j,hs,hd with
  | 0,hs,hd=>cases hs;cases hd;exact .dv _ trivial
  | 1,hs,hd=>cases hs;cases hd;exact BS (L:=c.AU) rfl rfl rfl rfl rfl (fun _=>trivial)
  | 2,hs,hd=>cases hs;cases hd;exact BS (L:=c.AX) rfl rfl rfl rfl rfl (fun _=>trivial)
  | 3,hs,hd=>cases hs;cases hd;exact .dv _ trivial
  | 4,hs,hd=>cases hs;cases hd;exact .dv _ trivial
  | 5,hs,hd=>cases hs;cases hd;exact .dv _ trivial
  | 6,hs,hd=>cases hs;cases hd;exact .dv _ trivial
  | 7,hs,hd=>cases hs;cases hd;exact .dv _ trivial
  | 8,hs,hd=>cases hs;cases hd;exact Hf (L:=c.orders) (st:=1) rfl rfl rfl (fun _=>trivial)
 ·simp [CV,Al,Ae,Aa,isLive,Ac,Ba,AA,Ch,BK,BJ,CR,Af,BI,BL,BO,BM,BN,Dv]
end Go.Ab.Tryz
