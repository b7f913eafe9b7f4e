/- BogPb, Ab51, BogQ4, BogQ5, BogLk, Ab56, BogQ6, BogQ7. -/
import Derived.Test.YtjcecljhjailiaaGreatDoorBogG24
import Derived.Test.YtjcecljhjailiaaGreatDoorBogG21
import Derived.Test.YtjcecljhjailiaaGreatDoorBogG23
import Derived.Test.YtjcecljhjailiaaGreatDoorBogG07
import Derived.Test.YtjcecljhjailiaaGreatDoorBogG11
import Derived.Test.YtjcecljhjailiaaGreatDoorBogG24
import Derived.Conc.MuLone
import Derived.Test.YtjcecljhjailiaaGreatDoorBogG23
import Derived.Test.YtjcecljhjailiaaGreatDoorBogG22
set_option linter.all false
namespace Go.Ab.Tryz
open Go Go.Ab Go.Proofs Go.Ab.Ck Go.Ab.Gi
open Go.Ab.Heap (Az Ap BX)
def fV (x:Tx):Bool:=match Lib.atoiAll x with | .ok _=>false | _=>true
theorem mP (x:Tx):V5 (Rn x).2=some (!fV x):=by
 unfold Rn fV
 cases Lib.atoiAll x<;>rfl
theorem rz {x:Tx} {v:Int} (h:Lib.atoiAll x=.ok v):-9223372036854775808 <= v /\ v <= 9223372036854775807:=by
 unfold Lib.atoiAll at h
 have key:∀ {l:Tx} {u:Nat} ,Lib.parseMag l=.ok u -> u < 18446744073709551616:=fun h=>Lib.parseMag_lt h
 revert h
 simp only []
 repeat' split
 all_goals (intro h;first | (cases h;omega) | (simp at h;omega) | (cases h))
theorem ru {x:Tx} (h:fV x=false):∃ v,Lib.atoiAll x=.ok v /\ (Rn x).1=v /\ -9223372036854775808 <= v /\ v <= 9223372036854775807:=by
 unfold fV at h
 unfold Rn
 cases e:Lib.atoiAll x with
 | ok v=>exact ⟨v,rfl,rfl,rz e⟩
 | range=>rw [e] at h;cases h
 | _=>rw [e] at h;cases h
theorem Mt {x:Tx} (h:fV x=true):Iq x=none:=jS fun v e=>by
 unfold fV at h;rw [e] at h;cases h
def nv (w:Tx):Nat:=(Iq w).getD 0
theorem jP {w:Tx} {v:Int} (h1:Lib.atoiAll w=.ok v) (h2:Lib.itoa v=w) (h3:0 <= v) (h4:v <= 999):Iq w=some v.toNat /\ ((nv w:Nat):Int)=v:=by
 have:=H7 h1
 rw [if_pos ⟨h2,h3,h4⟩] at this
 refine ⟨this,?_⟩
 unfold nv;rw [this];simp;omega
theorem jR {ws:List Tx} {i:Nat} (hi:i < ws.length) (h:Iq ws[i]=none):Js ws=none:=by
 cases e:Js ws with
 | none=>rfl
 | some ns =>
  exfalso
  revert e ns
  induction ws generalizing i with
  | nil=>simp at hi
  | cons w ws ih =>
   intro ns e
   obtain ⟨n,ns',h1,h2,_⟩:=Lg e
   cases i with
   | zero =>
    have h':Iq w=none:=h
    rw [h'] at h1;cases h1
   | succ i=>exact ih (i:=i) (by simpa using hi) h ns' h2
theorem TT:∀ {ws:List Tx},(∀ i (hi:i < ws.length),(Iq ws[i]).isSome=true) -> Js ws=some (ws.map nv)
 | [],_=>rfl
 | w :: ws,h=>by
  have h0:=h 0 (by simp)
  have ih:=TT (ws:=ws) fun i hi=>h (i+1) (by simpa using hi)
  obtain ⟨n,hn⟩:=Option.isSome_iff_exists.1 h0
  have hn':Iq w=some n:=hn
  rw [Js,hn',ih]
  simp [nv,hn']
theorem zV (w:Tx):((Dm w).getD (0,0)).2 <= 2:=by
 unfold Dm
 (repeat' split)<;>decide
abbrev kc (w:Tx):Nat × Nat:=(Dm w).getD (0,0)
section
variable {T wd:Tx} {ws:List Tx}
theorem aF (hs:dS T=wd :: ws) (hk:(Dm wd).isSome=false):CQ T=none:=by
 unfold CQ
 rw [hs]
 have:Dm wd=none:=by cases h:Dm wd with
  | none=>rfl
  | some x=>rw [h] at hk;cases hk
 simp only [this]
theorem Us (hs:dS T=wd :: ws) (hk:(Dm wd).isSome=true) (h:40 < T.length \/ ws.length ≠ (kc wd).2):CQ T=none:=by
 obtain ⟨⟨k,c⟩,hx⟩:=Option.isSome_iff_exists.1 hk
 unfold CQ
 rw [hs]
 simp only [hx]
 rw [if_pos (by simpa [kc,hx] using h)]
theorem su (hs:dS T=wd :: ws) (hk:(Dm wd).isSome=true) (h1:¬ 40 < T.length) (h2:ws.length=(kc wd).2):CQ T=(Js ws).map fun ns=>((kc wd).1,ns):=by
 obtain ⟨⟨k,c⟩,hx⟩:=Option.isSome_iff_exists.1 hk
 unfold CQ
 rw [hs]
 simp only [hx]
 rw [if_neg (by rw [kc,hx] at h2;simp at h2;omega)]
 simp [kc,hx]
theorem Qj (hs:dS T=wd :: ws) (hk:(Dm wd).isSome=true) (h1:¬ 40 < T.length) (h2:ws.length=(kc wd).2) {i:Nat} (hi:i < ws.length) (h3:Iq ws[i]=none):CQ T=none:=by
 rw [su hs hk h1 h2,jR hi h3];rfl
theorem oH (hs:dS T=wd :: ws) (hk:(Dm wd).isSome=true) (h1:¬ 40 < T.length) (h2:ws.length=(kc wd).2) (h3:∀ i (hi:i < ws.length),(Iq ws[i]).isSome=true):CQ T=some ((kc wd).1,ws.map nv):=by
 rw [su hs hk h1 h2,TT h3];rfl
end
def nr (ws:List Tx) (i:Nat):List Int:=ns ((ws.take i).map nv)
theorem aH {ws:List Tx}:nr ws 0=[]:=by simp [nr,ns]
theorem jT {ws:List Tx} {i:Nat} (h:i <= ws.length):(nr ws i).length=i:=by simp [nr,ns];omega
theorem oM {ws:List Tx} {i:Nat} (hi:i < ws.length) {v:Int} (h:((nv ws[i]:Nat):Int)=v):nr ws (i+1)=nr ws i ++ [v]:=by
 unfold nr
 rw [List.take_succ_eq_append_getElem hi,List.map_append,<- h];simp [ns]
theorem vP {ws:List Tx}:nr ws ws.length=ns (ws.map nv):=by unfold nr;rw [List.take_length]
abbrev rM (o:Nat × List Nat):DV:=.agg [i64 (o.1:Int),ints (ns o.2)]
abbrev Jb (T:Tx):Nat × List Nat:=(CQ T).getD (0,[])
theorem sU {P:Program} {Cv:DV -> Prop} {S:St} {rv:List ResultVar} {x:Exit} {s0 s1:SV} {d0 d1:DV} (he:x=.normal \/ x=.ret) (h:DX P S rv=some [s0,s1]) (h0:E5 Cv S.M s0 (.dv d0)) (h1:E5 Cv S.M s1 (.dv d1)):PU P Cv rv (.many [.dv d0,.dv d1]) x S :=
 ⟨he,[s0,s1],[.dv d0,.dv d1],h,⟨h0,h1,trivial⟩,jC (by simp [KY]),rfl⟩
theorem uR:Tryz.prog.underlying 103=some (.interface (Tryz.prog.methodsAt 103)):=by kernel_rfl
set_option maxHeartbeats 4000000 in
set_option maxRecDepth 100000 in
theorem f101 (T:Tx) (hT:T.length < 2000000):AR Tryz.prog 101 [Cg T] (.many [.dv (rM (Jb T)),.dv (.bool (CQ T).isSome)]):=by
 obtain ⟨wd,ws,hs⟩:∃ wd ws,dS T=wd :: ws:=by
  cases h:dS T with
  | nil=>exact absurd h (ug _ _)
  | cons a b=>exact ⟨a,b,rfl⟩
 have hmem:∀ W ∈ wd :: ws,W.length <= T.length:=fun W hW=>Zv T.length T W (by rw [show Uc T.length T=dS T from rfl,hs];exact hW)
 have hwd:wd.length < 2000000:=by have:=hmem wd (by simp);omega
 have hcnt:ws.length <= T.length:=by
  have:=TB T.length T
  rw [show Uc T.length T=dS T from rfl,hs] at this
  simpa using this
 have hkb:((Dm wd).getD (0,0)).2 <= 2 /\ (kc wd).2=((Dm wd).getD (0,0)).2:=⟨zV wd,rfl⟩
 have hsp:=f148 T [32] (by omega) (by decide)
 rw [dR,hs] at hsp
 refine Bv Tryz.func101 rfl rfl (by rw [Tryz.ntmps101];simp) fun cx hP hn hg=>?_
 rw [Tryz.ntmps101] at hn
 rw [Br,Bq]
 simp only [List.nil_append,List.append_nil,List.cons_append,BH,Nat.reduceAdd]
 refine sg ?_
 refine qp (IJ IV) ?_
 refine qv A9 ?_
 refine sg ?_
 refine qv A8 ?_
 refine CF (hsp) ?_
 refine qv A9 ?_
 refine AL ?_
 refine zB (ws:=wd :: ws) (wd:=wd) trivial (by rfl) rfl hwd hg hP hn ?_
 iterate 2 refine qv BZ ?_
 refine qp (IJ yU) ?_
 refine qs (Cu yg) ?_
 refine qv A9 ?_
 refine AL ?_
 refine sg ?_
 refine qv A8 ?_
 refine qv CP ?_
 refine qx A8 (fun JH=>?_) (fun JH=>?_)
 ·try simp at JH
  iterate 3 refine qk ?_
  refine qv Ae ?_
  refine qv A8 ?_
  iterate 6 refine qk ?_
  refine qv Ae ?_
  refine G5 (hb:=by first | rfl | simp | simp_all) (ht:=?_)
  refine sg ?_
  refine qv (DC Oj IV) ?_
  refine qs (Cu Ed) ?_
  refine qv A9 ?_
  refine AV ?_
  rw [show Jb T=(0,[]) by unfold Jb;rw [aF hs (by simpa using JH)];rfl,show (CQ T).isSome=false by rw [aF hs (by simpa using JH)];rfl]
  exact sU (rv:=[.cell 2 138,.tmp 3]) (s0:=.agg [.dv (i64 0),.Bh]) (s1:=.dv (.bool false)) (.inr rfl) (by simp only [DX,Dr,St.look,St.ev,lk,AA,AO,Ah,Ag,Ed,KX,reduceIte,Nat.reduceEqDiff];rfl) (.agg _ _ rfl fun j s c hs hd=>by match j,hs,hd with | 0,hs,hd=>cases hs;cases hd;exact .dv _ (.int _ _) | 1,hs,hd=>cases hs;cases hd;exact .Bh) (Eo (.dv _ (.bool _)))
 ·try simp at JH
  have hk:(Dm wd).isSome=true:=by simpa using JH
  refine qv A8 ?_
  refine qv (EH K4) ?_
  refine qv Dk ?_
  refine qv Ae ?_
  refine qx A8 (fun ZC=>?_) (fun ZC=>?_)
  ·try simp at ZC
   iterate 6 refine qk ?_
   refine qv Ae ?_
   refine G5 (hb:=by first | rfl | simp | simp_all) (ht:=?_)
   refine sg ?_
   refine qv (DC Oj IV) ?_
   refine qs (Cu Ed) ?_
   refine qv A9 ?_
   refine AV ?_
   rw [show Jb T=(0,[]) by unfold Jb;rw [Us hs hk (.inl (by omega))];rfl,show (CQ T).isSome=false by rw [Us hs hk (.inl (by omega))];rfl]
   exact sU (rv:=[.cell 2 138,.tmp 3]) (s0:=.agg [.dv (i64 0),.Bh]) (s1:=.dv (.bool false)) (.inr rfl) (by simp only [DX,Dr,St.look,St.ev,lk,AA,AO,Ah,Ag,Ed,KX,reduceIte,Nat.reduceEqDiff];rfl) (.agg _ _ rfl fun j s c hs hd=>by match j,hs,hd with | 0,hs,hd=>cases hs;cases hd;exact .dv _ (.int _ _) | 1,hs,hd=>cases hs;cases hd;exact .Bh) (Eo (.dv _ (.bool _)))
  ·try simp at ZC
   refine qv A8 ?_
   first | refine qv (BD Ce) ?_ | refine qv (CZ Ce) ?_ | refine qv (vS Ce) ?_
   refine qv (AB qU) ?_
   refine qv (AQ Aw Bw) ?_
   refine qv Aq ?_
   refine qv Ay ?_
   refine qv Ae ?_
   refine cd (fun hc0=>?_) (fun hc0=>?_)
   ·try simp at hc0
    have hne:ws.length ≠ (kc wd).2:=by omega
    refine sg ?_
    refine qv (DC Oj IV) ?_
    refine qs (Cu Ed) ?_
    refine qv A9 ?_
    refine AV ?_
    rw [show Jb T=(0,[]) by unfold Jb;rw [Us hs hk (.inr hne)];rfl,show (CQ T).isSome=false by rw [Us hs hk (.inr hne)];rfl]
    exact sU (rv:=[.cell 2 138,.tmp 3]) (s0:=.agg [.dv (i64 0),.Bh]) (s1:=.dv (.bool false)) (.inr rfl) (by simp only [DX,Dr,St.look,St.ev,lk,AA,AO,Ah,Ag,Ed,KX,reduceIte,Nat.reduceEqDiff];rfl) (.agg _ _ rfl fun j s c hs hd=>by match j,hs,hd with | 0,hs,hd=>cases hs;cases hd;exact .dv _ (.int _ _) | 1,hs,hd=>cases hs;cases hd;exact .Bh) (Eo (.dv _ (.bool _)))
   ·try simp at hc0
    have yO:ws.length=(kc wd).2:=by omega
    refine Af ?_
    refine sg ?_
    refine qv (AB qV) ?_
    refine qv (AQ Sr UH) ?_
    refine qv (DC Oj IV) ?_
    refine qp (IJ IV) ?_
    refine qs (Cu Ed) ?_
    refine AL ?_
    refine sg ?_
    refine qv A8 ?_
    refine qv (aM (L':=ws) CS Dh (hL:=by simp)) ?_
    refine qv (BD Ce) ?_
    refine qv A8 ?_
    refine BI ?_
    refine Ao (ι:=Nat) (fun i=>⟨lk [(2,.pt 2 0 0),(7,.pt 7 0 0),(48,.dv (.list ((ws).map Cg))),(49,.dv (i64 ((ws.length:Int)))),(50,.dv (i64 (i:Nat)))],AA [(2,0,some ⟨[.dv (i64 0),.Bh],0,138,0,false⟩),(7,0,some ⟨[.dv (i64 ((kc wd).1:Int)),.sl 80 0 0 i],0,138,0,false⟩),(80,0,some (SK (nr ws i)))]⟩) (fun i=>i <= ws.length /\ ∀ j (hj:j < ws.length),j < i -> (Iq ws[j]).isSome=true) (fun i=>ws.length - i) 0 (by simp) (tl [(2,2),(7,7)] (hF:=by simp [DK,AX,lk,AA,isLive,AZ,aH]) (hM:=by simp [Cm,Ar,AX,Aa,lk,AA,isLive,AZ,BO,BN,Al,BL,BP,BS,BQ,BR,aH])) ?_
    intro i BM
    refine sg ?_
    refine qv BK ?_
    refine AL ?_
    refine cd (fun hc1=>?_) (fun hc1=>?_)
    ·try simp at hc1
     refine Af ?_
     refine AL ?_
     refine BI ?_
     refine sg ?_
     have hi:i < ws.length:=by omega
     have hwl:ws[i].length <= T.length:=hmem _ (List.mem_cons_of_mem _ (List.getElem_mem hi))
     have hgi:(ws.map Cg)[i]?=some (Cg ws[i]):=by simp [hi]
     first | refine qv (BF CS Dh) ?_ | refine qv (Bf CS Dh) ?_
     refine qv (Bb Dh MK) ?_
     refine qv A9 ?_
     refine sg ?_
     refine qv A8 ?_
     refine CF (f149 ws[i] (by omega)) ?_
     refine qv A8 ?_
     iterate 2 refine qv BZ ?_
     iterate 2 refine qv A9 ?_
     refine AL ?_
     refine sg ?_
     refine qv A8 ?_
     refine jE uR (mP ws[i]) ?_
     refine qx A8 (fun V7=>?_) (fun V7=>?_)
     ·try simp at V7
      iterate 4 refine qk ?_
      refine qv Ae ?_
      refine qv A8 ?_
      iterate 2 refine qk ?_
      refine qv Ae ?_
      refine qv A8 ?_
      iterate 2 refine qk ?_
      refine qv Ae ?_
      refine G5 (hb:=by first | rfl | simp | simp_all) (ht:=?_)
      refine sg ?_
      refine qv (DC Oj IV) ?_
      refine qs (Cu Ed) ?_
      refine qv A9 ?_
      refine AV ?_
      have hbad:CQ T=none:=Qj hs hk (by omega) yO hi (by
       first
       | exact Mt (by simpa using V7)
       | (rw [H7 hv1,if_neg];rintro ⟨h1,h2,h3⟩;simp_all<;>omega))
      rw [show Jb T=(0,[]) by unfold Jb;rw [hbad];rfl,show (CQ T).isSome=false by rw [hbad];rfl]
      exact sU (rv:=[.cell 2 138,.tmp 3]) (s0:=.agg [.dv (i64 0),.Bh]) (s1:=.dv (.bool false)) (.inr rfl) (by simp only [DX,Dr,St.look,St.ev,lk,AA,AO,Ah,Ag,Ed,KX,reduceIte,Nat.reduceEqDiff];rfl) (.agg _ _ rfl fun j s c hs hd=>by match j,hs,hd with | 0,hs,hd=>cases hs;cases hd;exact .dv _ (.int _ _) | 1,hs,hd=>cases hs;cases hd;exact .Bh) (Eo (.dv _ (.bool _)))
     ·try simp at V7
      obtain ⟨v,hv1,hv2,hv3,hv4⟩:=ru (x:=ws[i]) (by simpa using V7)
      rw [hv2]
      refine qv A8 ?_
      refine CF (f87 v hv3 hv4) ?_
      refine qv A8 ?_
      refine qv DY ?_
      refine qv Ae ?_
      refine qx A8 (fun IQ=>?_) (fun IQ=>?_)
      ·try simp at IQ
       iterate 2 refine qk ?_
       refine qv Ae ?_
       refine qv A8 ?_
       iterate 2 refine qk ?_
       refine qv Ae ?_
       refine G5 (hb:=by first | rfl | simp | simp_all) (ht:=?_)
       refine sg ?_
       refine qv (DC Oj IV) ?_
       refine qs (Cu Ed) ?_
       refine qv A9 ?_
       refine AV ?_
       have hbad:CQ T=none:=Qj hs hk (by omega) yO hi (by
        first
        | exact Mt (by simpa using V7)
        | (rw [H7 hv1,if_neg];rintro ⟨h1,h2,h3⟩;simp_all<;>omega))
       rw [show Jb T=(0,[]) by unfold Jb;rw [hbad];rfl,show (CQ T).isSome=false by rw [hbad];rfl]
       exact sU (rv:=[.cell 2 138,.tmp 3]) (s0:=.agg [.dv (i64 0),.Bh]) (s1:=.dv (.bool false)) (.inr rfl) (by simp only [DX,Dr,St.look,St.ev,lk,AA,AO,Ah,Ag,Ed,KX,reduceIte,Nat.reduceEqDiff];rfl) (.agg _ _ rfl fun j s c hs hd=>by match j,hs,hd with | 0,hs,hd=>cases hs;cases hd;exact .dv _ (.int _ _) | 1,hs,hd=>cases hs;cases hd;exact .Bh) (Eo (.dv _ (.bool _)))
      ·try simp at IQ
       refine qv A8 ?_
       refine qv BK ?_
       refine qv Ae ?_
       refine qx A8 (fun wI=>?_) (fun wI=>?_)
       ·try simp at wI
        iterate 2 refine qk ?_
        refine qv Ae ?_
        refine G5 (hb:=by first | rfl | simp | simp_all) (ht:=?_)
        refine sg ?_
        refine qv (DC Oj IV) ?_
        refine qs (Cu Ed) ?_
        refine qv A9 ?_
        refine AV ?_
        have hbad:CQ T=none:=Qj hs hk (by omega) yO hi (by
         first
         | exact Mt (by simpa using V7)
         | (rw [H7 hv1,if_neg];rintro ⟨h1,h2,h3⟩;simp_all<;>omega))
        rw [show Jb T=(0,[]) by unfold Jb;rw [hbad];rfl,show (CQ T).isSome=false by rw [hbad];rfl]
        exact sU (rv:=[.cell 2 138,.tmp 3]) (s0:=.agg [.dv (i64 0),.Bh]) (s1:=.dv (.bool false)) (.inr rfl) (by simp only [DX,Dr,St.look,St.ev,lk,AA,AO,Ah,Ag,Ed,KX,reduceIte,Nat.reduceEqDiff];rfl) (.agg _ _ rfl fun j s c hs hd=>by match j,hs,hd with | 0,hs,hd=>cases hs;cases hd;exact .dv _ (.int _ _) | 1,hs,hd=>cases hs;cases hd;exact .Bh) (Eo (.dv _ (.bool _)))
       ·try simp at wI
        refine qv A8 ?_
        refine qv Dk ?_
        refine qv Ae ?_
        refine cd (fun hc2=>?_) (fun hc2=>?_)
        ·try simp at hc2
         have hbad:CQ T=none:=Qj hs hk (by omega) yO hi (by
          first
          | exact Mt (by simpa using V7)
          | (rw [H7 hv1,if_neg];rintro ⟨h1,h2,h3⟩;simp_all;omega))
         refine sg ?_
         refine qv (DC Oj IV) ?_
         refine qs (Cu Ed) ?_
         refine qv A9 ?_
         refine AV ?_
         have hbad:CQ T=none:=Qj hs hk (by omega) yO hi (by
          first
          | exact Mt (by simpa using V7)
          | (rw [H7 hv1,if_neg];rintro ⟨h1,h2,h3⟩;simp_all<;>omega))
         rw [show Jb T=(0,[]) by unfold Jb;rw [hbad];rfl,show (CQ T).isSome=false by rw [hbad];rfl]
         exact sU (rv:=[.cell 2 138,.tmp 3]) (s0:=.agg [.dv (i64 0),.Bh]) (s1:=.dv (.bool false)) (.inr rfl) (by simp only [DX,Dr,St.look,St.ev,lk,AA,AO,Ah,Ag,Ed,KX,reduceIte,Nat.reduceEqDiff];rfl) (.agg _ _ rfl fun j s c hs hd=>by match j,hs,hd with | 0,hs,hd=>cases hs;cases hd;exact .dv _ (.int _ _) | 1,hs,hd=>cases hs;cases hd;exact .Bh) (Eo (.dv _ (.bool _)))
        ·try simp at hc2
         have htk:=oM hi (jP hv1 (by simpa using IQ) (by omega) (by omega)).2
         have hnl:=jT (ws:=ws) (i:=i) (by omega)
         have hnx:i+1 <= ws.length /\ ∀ j (hj:j < ws.length),j < i+1 -> (Iq ws[j]).isSome=true:=by
          refine ⟨by omega,fun j hj h=>?_⟩
          rcases Nat.lt_or_ge j i with h1 | h1
          ·exact BM.2 j hj h1
          ·obtain rfl:j=i:=by omega
           rw [(jP hv1 (by simpa using IQ) (by omega) (by omega)).1];rfl
         obtain ⟨hw1,hw2⟩:=jP hv1 (by simpa using IQ) (by omega) (by omega)
         refine Af ?_
         refine EF.le (tl [(2,2),(7,7),(80,80)] (l:=[(2,.pt 2 0 0),(7,.pt 7 0 0),(10,.dv (i64 (v))),(48,.dv (.list ((ws).map Cg))),(49,.dv (i64 ((ws.length:Int)))),(50,.dv (i64 (i:Nat)))]) (m:=[(2,0,some ⟨[.dv (i64 0),.Bh],0,138,0,false⟩),(7,0,some ⟨[.dv (i64 ((kc wd).1:Int)),.sl 80 0 0 i],0,138,0,false⟩),(80,0,some (SK (nr ws i)))])) ?_
         refine rg ?_
         refine qv (AB Jk) ?_
         first | refine qv (Ig Av Bz) ?_ | refine qv (AQ Av Bz) ?_
         refine qv A8 ?_
         refine qr (FV BG Nu Aw) ?_
         first | refine qa0 (jY BG BG Nu Aw ZY) ?_ | refine vG (Iu BG BG Nu Aw ZY) ?_
         refine qv (AB Jk) ?_
         first | refine qs (KI Av) ?_ | refine qs (Cu Av) ?_
         refine rg ?_
         refine qv Aq ?_
         refine qv A8 ?_
         exact ⟨i+1,hnx,(by simp only;omega),(tl [(2,2),(7,7),(80,80)] (hF:=by simp [DK,AX,lk,AA,isLive,AZ,htk]) (hM:=by simp [Cm,Ar,AX,Aa,lk,AA,isLive,AZ,BO,BN,Al,BL,BP,BS,BQ,BR,htk]))⟩
    ·try simp at hc1
     obtain rfl:i=ws.length:=by omega
     have hgd:=oH hs hk (by omega) yO fun j hj=>BM.2 j hj hj
     refine Ai ?_
     refine sg ?_
     refine qv (AY Ed KX) ?_
     refine qs (Cu Ed) ?_
     refine qv A9 ?_
     refine AV ?_
     rw [show Jb T=((kc wd).1,ws.map nv) by unfold Jb;rw [hgd];rfl,show (CQ T).isSome=true by rw [hgd];rfl]
     exact sU (rv:=[.cell 2 138,.tmp 3]) (s0:=.agg [.dv (i64 ((kc wd).1:Int)),.sl 80 0 0 ws.length]) (s1:=.dv (.bool true)) (.inr rfl) (by simp only [DX,Dr,St.look,St.ev,lk,AA,AO,Ah,Ag,Ed,KX,reduceIte,Nat.reduceEqDiff];rfl) (.agg _ _ rfl fun j s c hs hd=>by match j,hs,hd with | 0,hs,hd=>cases hs;cases hd;exact .dv _ (.int _ _) | 1,hs,hd=>cases hs;cases hd;rw [<- vP];exact Bc (L:=nr ws ws.length) (by simp only [AA,reduceIte,Nat.reduceEqDiff]<;>rfl) trivial (jT (Nat.le_refl _)) rfl rfl (fun _=>.int _ _)) (Eo (.dv _ (.bool _)))
end Go.Ab.Tryz
namespace Go.Ab
open Go.RowKit
section
variable {M M' N:Nat -> Nat × Option Au} {τ:Nat -> Option Nat}
def MI (M M':Nat -> Nat × Option Au):Prop:=∀ t g b,M t=(g,some b) -> M' t=(g,some b)
theorem MI.some (h:MI M M') {t:Nat} {b:Au} (e:(M t).2=some b):(M' t).2=some b:=by
 rw [h t (M t).1 b (by rw [<- e])]
theorem MI.live (h:MI M M') {t g:Nat} (e:isLive M t g):isLive M' t g:=by
 obtain ⟨e1,e2⟩:=e
 obtain ⟨b,hb⟩:=Option.isSome_iff_exists.1 e2
 have:=h t (M t).1 b (by rw [<- hb])
 exact ⟨by rw [this];exact e1,by rw [this];rfl⟩
theorem MI.Tk (h:MI M M') (ts:List Nat):MI (DZ M ts) (DZ M' ts):=by
 intro t g b e
 unfold DZ at e ⊢
 split at e
 ·rename_i ht
  rw [if_pos ht]
  simp only [Prod.mk.injEq,Option.map_eq_some_iff] at e
  obtain ⟨rfl,b0,h1,rfl⟩:=e
  have:=h t (M t).1 b0 (by rw [<- h1])
  rw [this];rfl
 ·rename_i ht
  rw [if_neg ht]
  exact h t g b e
mutual
theorem ni (h:MI M M'):∀ (c s:SV),AX τ M N c s -> AX τ M' N c s
 | .dead,_,_=>by simp only [AX]
 | .dv _,s,e=>by cases s<;>simp only [AX] at e ⊢<;>first | exact e | exact e.Sm h
 | .Bh,s,e=>by cases s<;>simp only [AX] at e ⊢
 | .emp _,s,e=>by cases s<;>simp only [AX] at e ⊢<;>exact e
 | .sl _ _ _ _,s,e=>by cases s<;>simp only [AX] at e ⊢<;>first | exact e | exact ⟨e.1,h.live e.2.1,e.2.2⟩
 | .pt _ _ _,s,e=>by cases s<;>simp only [AX] at e ⊢<;>exact ⟨e.1,h.live e.2.1,e.2.2⟩
 | .agg cs,s,e=>by
  cases s with
  | agg ds=>simp only [AX] at e ⊢;exact K8 h cs ds e
  | dv d=>cases d<;>simp only [AX] at e ⊢<;>exact e
  | _=>simp only [AX] at e
 | .Em cs,s,e=>by
  cases s with
  | Em ds=>simp only [AX] at e ⊢;exact K8 h cs ds e
  | _=>simp only [AX] at e
theorem K8 (h:MI M M'):∀ (cs ss:List SV),Aa τ M N cs ss -> Aa τ M' N cs ss
 | [],[],_=>by simp only [Aa]
 | c :: cs,s :: ss,e=>by simp only [Aa] at e ⊢;exact ⟨ni h c s e.1,K8 h cs ss e.2⟩
 | [],_ :: _,e=>by simp only [Aa] at e
 | _ :: _,[],e=>by simp only [Aa] at e
end
end
section
variable {M M':Nat -> Nat × Option Au} {τ:List (Nat × Nat)}
theorem Wy (h:MI M M') {M0:Nat -> Nat × Option Au}:∀ {m0:List (Nat × Au)},Ju τ M M0 m0 -> Ju τ M' M0 m0
 | [],_=>trivial
 | (t',b') :: m0,⟨⟨q0,t,b,q1,q2,q3,q4,q5,q6,q7⟩,k⟩=>⟨⟨q0,t,b,q1,h.some q2,q3,q4,q5,q6,K8 h _ _ q7⟩,Wy h k⟩
theorem Wp (h:MI M M'):∀ {mem:List (Nat × Au)} {rt:List Nat},Ez M τ mem rt -> Ez M' τ mem rt
 | [],[],_=>trivial
 | (_,b) :: mem,t :: rt,e=>by
  simp only [Ez] at e ⊢
  refine ⟨?_,Wp h e.2⟩
  rcases e.1 with ⟨h3,h4,b0,h5,h6⟩ | h3
  ·exact .inl ⟨h3,h4,b0,h.some h5,h6⟩
  ·exact .inr h3
 | [],_ :: _,e=>by simp only [Ez] at e
 | _ :: _,[],e=>by simp only [Ez] at e
theorem Xg (h:MI M M'):∀ {ts:List Nat},Jv M ts -> Jv M' ts
 | [],_=>trivial
 | _ :: _,⟨⟨b,h1,h2⟩,k⟩=>⟨⟨b,h.some h1,h2⟩,Xg h k⟩
theorem kM {S T:St} (h:MI S.M T.M) {fz:List Nat} {m0 mem:List (Nat × Au)} {rt:List Nat} {args ss:List SV} (k:dH S fz τ m0 mem rt args ss):dH T fz τ m0 mem rt args ss :=
 ⟨Xg h k.hfz,Wy (h.Tk fz) k.zU,k.inj,k.keys,k.nd0,K8 (h.Tk fz) _ _ k.hargs,Wp h k.hmem,k.nd1,k.nd2,k.off⟩
theorem QZ:∀ {mem:List (Nat × Au)} {rt:List Nat},(∀ t ∈ rt,M' t=M t) -> Fa M' mem rt=Fa M mem rt
 | (e,b) :: mem,t :: rt,h=>by
  funext i
  simp only [Fa,QZ (mem:=mem) (rt:=rt) fun u hu=>h u (List.mem_cons_of_mem _ hu),Lv,h t (by simp)]
 | [],[],_=>rfl
 | [],_ :: _,_=>rfl
 | _ :: _,[],_=>rfl
theorem Qg {N:Nat -> Nat × Option Au} {ρ:Nat -> Option (Nat × Nat)}:∀ {mem:List (Nat × Au)} {rt:List Nat},(∀ t ∈ rt,M' t=M t) -> puts M' N ρ mem rt=puts M N ρ mem rt
 | (e,b) :: mem,t :: rt,h=>by
  simp only [puts,Qg (mem:=mem) (rt:=rt) fun u hu=>h u (List.mem_cons_of_mem _ hu),Lv,iU,h t (by simp)]
 | [],[],_=>rfl
 | [],_ :: _,_=>rfl
 | _ :: _,[],_=>rfl
theorem ZO {d:Nat} {S T:St} {fz:List Nat} {res:List SV} {mem:List (Nat × Au)} {rt:List Nat} (h:∀ t ∈ fz ++ τ.map (·.2) ++ rt,T.M t=S.M t):PK d T fz τ res mem rt=PK d S fz τ res mem rt:=by
 have h1:∀ t ∈ fz,T.M t=S.M t:=fun t ht=>h t (by simp [ht])
 have h2:∀ p ∈ τ,T.M p.2=S.M p.2:=fun p hp=>h p.2 (by simp only [List.mem_append,List.mem_map];exact .inl (.inr ⟨p,hp,rfl⟩))
 have h3:∀ t ∈ rt,T.M t=S.M t:=fun t ht=>h t (by simp [ht])
 unfold PK PZ
 rw [QZ h3,Qg h3]
 have e1:Ik T.M fz=Ik S.M fz:=List.map_congr_left fun t ht=>by rw [h1 t ht]
 have e2:drops T.M τ=drops S.M τ:=List.map_congr_left fun p hp=>by rw [h2 p hp]
 rw [e1,e2]
theorem jV {fz:List Nat} {mem:List (Nat × Au)} {rt:List Nat}:∀ p ∈ PZ M fz τ mem rt,p.1 ∈ fz ++ τ.map (·.2) ++ rt:=by
 have hp:∀ {mem:List (Nat × Au)} {rt:List Nat} {N:Nat -> Nat × Option Au} {ρ:Nat -> Option (Nat × Nat)},∀ p ∈ puts M N ρ mem rt,p.1 ∈ rt:=by
  intro mem
  induction mem with
  | nil=>intro rt N ρ p h;simp [puts] at h
  | cons x mem ih =>
   intro rt N ρ p h
   cases rt with
   | nil=>simp [puts] at h
   | cons t rt =>
    simp only [puts,List.mem_append,List.mem_singleton] at h
    rcases h with h | h
    ·exact List.mem_cons_of_mem _ (ih p h)
    ·subst h;simp
 intro p h
 simp only [PZ,List.mem_append] at h ⊢
 rcases h with (h | h) | h
 ·simp only [Ik,List.mem_map] at h
  obtain ⟨t,ht,rfl⟩:=h
  exact .inl (.inl ht)
 ·simp only [drops,List.mem_map] at h
  obtain ⟨q,hq,rfl⟩:=h
  exact .inl (.inr (List.mem_map.2 ⟨q,hq,rfl⟩))
 ·exact .inr (hp p h)
end
theorem dP {m:List (Nat × Nat × Option Au)} {M':Nat -> Nat × Option Au} (h:∀ t ∈ m.map (·.1),M' t=AA m t):MI (AA m) M':=by
 intro t g b e
 have hin:∀ (m:List (Nat × Nat × Option Au)),AA m t=(g,some b) -> t ∈ m.map (·.1):=by
  intro m
  induction m with
  | nil=>intro e;simp [AA] at e
  | cons p m ih =>
   obtain ⟨k,v⟩:=p
   intro e
   simp only [AA] at e
   split at e
   ·rename_i hk;subst hk;simp
   ·exact List.mem_cons_of_mem _ (ih e)
 rw [h t (hin m e)];exact e
section
variable {cx:Cx} {P:Program} {N:Nat} {ops:Array Oper} {rest:List Oper} {l:List (Nat × SV)} {m m':List (Nat × Nat × Option Au)} {KD:List It -> St -> Prop} {its:List It}
 {d f:Nat} {ty:TypeId} {p:String} {af:Array Edge} {gd:Option (Nat × Bool)} {oa:Array Operand} {ts:Array TypeId} {args res ss:List SV} {m0 mem:List (Nat × Au)}
theorem UL (hc:BA P f args (Bj m0) ⟨res,Bj mem⟩) (fz:List Nat) (τ:List (Nat × Nat)) (rt:List Nat) {v:SV}
  (kk:Ba cx ops rest (⟨m.map (·.1) ++ (fz ++ τ.map (·.2) ++ rt),⟨some d,v,true,PZ (AA m) fz τ mem rt⟩⟩ :: its) ⟨lk ((d,v) :: l),AA m'⟩ KD)
  (hs:oa.toList.map (St.ev ⟨lk l,AA m⟩)=ss:=by (simp only [List.map,St.look,St.ev,lk,AA,AO,Ah,Ag,reduceIte,Nat.reduceAdd,Nat.reduceEqDiff,Nat.reduceMul]<;>rfl)) (h1:Jv (AA m) fz:=by (simp [Jv,AA,ED])) (h2:Ju τ (DZ (AA m) fz) (Bj m0) m0:=by (simp [Ju,Aa,AX,isLive,AZ,Bj,AA,DZ,BO,BN,Al,BL,BP,BS,BQ,BR,ED])) (h3:(τ.map (·.2)).Nodup:=by decide) (h4:τ.all (fun p=>(m0.map (·.1)).contains p.1)=true:=by rfl) (h5:(m0.map (·.1)).Nodup:=by (simp))
  (h6:Aa (AZ τ) (DZ (AA m) fz) (Bj m0) args ss:=by (simp [Aa,AX,isLive,AZ,Bj,AA,DZ,BO,BN,Al,BL,BP,BS,BQ,BR,ED])) (h7:Ez (AA m) τ mem rt:=by (simp [Ez,AA,AZ])) (h8:(mem.map (·.1)).Nodup:=by (simp)) (h9:rt.Nodup:=by decide) (h10:∀ t ∈ rt,t ∉ fz:=by decide)
  (hv:dX (Bj mem) (Fa (AA m) mem rt) res=v:=by (simp only [dX,FQ,Dq,Ht BL,Fa,Lv,iU,Bj,AA,List.map,reduceIte,Nat.reduceEqDiff,Nat.reduceAdd,Nat.reduceLeDiff]<;>rfl)) (hm:Ug (OA m) (PZ (AA m) fz τ mem rt)=m':=by (simp only [Ug,PZ,Ik,drops,puts,FQ,Dq,Ht BL,Fa,Lv,iU,Bj,AA,OA,NH,List.map,List.nil_append,List.cons_append,List.append_nil,Option.map_some,Option.getD_some,reduceIte,Nat.reduceEqDiff,Nat.reduceAdd,Nat.reduceLeDiff]<;>rfl)) (hP:cx.P=P:=by assumption) (hn:cx.n=N:=by assumption) (hd:d < N:=by decide) (hne:m ≠ []:=by simp) (hgd:G8 ops ⟨lk l,AA m⟩ gd:=by (first | exact trivial | exact ⟨_,rfl,by (simp only [lk,reduceIte,Nat.reduceEqDiff])⟩)) :
  Ba cx ops (⟨some d,.call { callee:=.value (.func f),args:=oa,argTypes:=ts },ty,p,af,gd⟩ :: rest) its ⟨lk l,AA m⟩ KD:=by
 subst hP;subst hn;subst hs
 have hok:dH ⟨lk l,AA m⟩ fz τ m0 mem rt args (oa.toList.map (St.ev ⟨lk l,AA m⟩)):=⟨h1,h2,h3,fun p hp=>by
  have:=List.all_eq_true.1 h4 p hp
  simpa using this,h5,h6,h7,h8,h9,h10⟩
 have he:PK d ⟨lk l,AA m⟩ fz τ res mem rt=⟨some d,v,true,PZ (AA m) fz τ mem rt⟩:=by unfold PK;rw [hv]
 refine ⟨⟨m.map (·.1) ++ (fz ++ τ.map (·.2) ++ rt),⟨some d,v,true,PZ (AA m) fz τ mem rt⟩⟩,⟨rfl,fun q hq=>List.mem_append_right _ (jV q hq),fun _=>?_⟩,?_,?_⟩
 ·cases m with
  | nil=>exact absurd rfl hne
  | cons q m=>simp
 ·intro T t1 t2
  have hev:=RJ t1
  have hss:oa.toList.map T.ev=oa.toList.map (St.ev ⟨lk l,AA m⟩):=List.map_congr_left fun x hx=>hev x (by simp [Op.operands,Call.operands];exact .inr (by simpa using hx))
  have hsub:MI (AA m) T.M:=dP fun t ht=>t2 t (List.mem_append_left _ ht)
  have hgT:G8 ops T gd:=by
   unfold G8 at hgd ⊢
   split
   ·trivial
   ·rename_i j want
    obtain ⟨s,q1,q2⟩:=hgd
    exact ⟨s,q1,by rw [t1 s (Ih rfl q1)];exact q2⟩
  have zi:=kM (S:=⟨lk l,AA m⟩) (T:=T) hsub hok
  rw [<- hss] at zi
  have hcg:PK d T fz τ res mem rt=⟨some d,v,true,PZ (AA m) fz τ mem rt⟩:=by
   rw [ZO (S:=⟨lk l,AA m⟩) fun t ht=>t2 t (List.mem_append_right _ ht),he]
  show GStep cx ops T _ (Eff.app T ⟨some d,v,true,PZ (AA m) fz τ mem rt⟩)
  rw [<- hcg]
  exact Fe hgT (.sem fun hg a w h=>Rb hg h rfl (pre:=[]) (caps:=[]) (args:=args) rfl zi (by simpa using hc) rfl hd)
 ·have:Eff.app ⟨lk l,AA m⟩ ⟨some d,v,true,PZ (AA m) fz τ mem rt⟩=⟨lk ((d,v) :: l),AA m'⟩:=by
   rw [<- he]
   simp only [PK,Eff.app,if_true,Er,Mg,EY,hv,hm]
  rw [this]
  exact kk
end
end Go.Ab
namespace Go.Ab.Tryz
open Go Go.Ab Go.Proofs Go.Ab.Ck Go.Ab.Gi
open Go.Ab.Heap (Az Ap BX)
open Go.Ab.Heap (Hp GX validate sm)
theorem Ub {b:Bg} {h:Hp} {n:Int} {c:Cs} (F:Fn b h n) (ok:C9 b h n c):AR Tryz.prog 150 [dMw (PD b n),i64 (c.Gj:Int)] (.many [.dv (i64 ((c.Gj ||| nC (Qn b n) c.Gj:Nat):Int)),.dv (i64 0)]):=by
 have h1:=f150 (PD b n) (c.Gj:Int)
 have h2:=Wi F.mn (ok.Gj n) (d:=(0:Int)) (g:=fun n v=>((v ||| nC n v:Nat):Int))
 have h3:=YR F.mn (ok.Gj n)
 rw [F.mw] at h1 ⊢
 rw [h2,h3] at h1
 exact h1
theorem dQ {b:Bg} {h:Hp} {n:Int} {c:Cs} (F:Fn b h n) (ok:C9 b h n c):c.Gj ||| nC (Qn b n) c.Gj < 68719476736:=by
 have h1:=oo F.mn (ok.Gj n)
 have h2:=jA F.mn (w:=c.Gj)
 exact Nat.or_lt_two_pow (n:=36) h1 h2
set_option maxHeartbeats 4000000 in
set_option maxRecDepth 100000 in
theorem l8 (b:Bg) (h:Hp) (n:Int) (c:Cs) (s:Int) (F:Fn b h n) (ok:C9 b h n c):BA Tryz.prog 102 [.pt 100001 0 0,.pt 100000 0 0,.dv (.agg [i64 0,ints []])] (Bj (three b h n c c s)) ⟨[.dv (Gt (0))],Bj (three b h n c (rC b n c) s)⟩:=by
 have hwf:=oo F.mn (ok.Gj n)
 have hsf:=dQ F ok
 have hbf:=oo F.mn (U7 ok.hol n)
 have hd0:=ok.lT
 have hd1:=ok.day
 have ho:=ok.ord
 have hab:(c.Gj ||| nC (Qn b n) c.Gj) &&& Nl b c.AU < 68719476736:=Nat.lt_of_le_of_lt Nat.and_le_right hbf
 refine EI Tryz.func102 rfl rfl (by rw [Tryz.ntmps102];simp) fun cx hP hn hg=>?_
 rw [Tryz.ntmps102] at hn
 refine CB ?_
 refine sg ?_
 refine qp Bu ?_
 refine qv A9 ?_
 refine AL ?_
 refine sg ?_
 refine qv (AB NS) ?_
 refine qv (AQ Sr UH) ?_
 refine BI ?_
 refine sg ?_
 refine qv Bl ?_
 refine qv A9 ?_
 refine G5 (hb:=by decide) (ht:=?_)
 refine AL ?_
 refine rd mixed ?_
 refine zv A8 ?_
 refine zv CK ?_
 refine zv (AB Jl) ?_
 refine zv (AY Jw Np) ?_
 refine zv A8 ?_
 refine zv CK ?_
 refine zv (AB J4) ?_
 refine zv (AQ Aw Bw) ?_
 refine Kz (R:=[]) (Ub F ok) ?_
 refine zv A8 ?_
 iterate 2 refine zv BZ ?_
 iterate 2 refine zv A9 ?_
 refine ⟨by rfl,?_⟩
 refine AL ?_
 refine sg ?_
 refine qv A8 ?_
 refine qv Ay ?_
 refine Dy (hb:=by simp) (ht:=?_)
 refine Af ?_
 refine sg ?_
 refine qv A8 ?_
 refine qv CK ?_
 refine qv (AB VD) ?_
 refine qv (AQ Aw Bw) ?_
 refine qv Aq ?_
 refine qv CK ?_
 refine qv (AB VD) ?_
 refine qs (Cu Aw) ?_
 refine rd mixed ?_
 refine zv A8 ?_
 refine zv CK ?_
 refine zv (AB J4) ?_
 refine zv (AQ Aw Bw) ?_
 iterate 2 refine zv A8 ?_
 refine Kz (R:=[100001]) (f151 b h n c s ok.hol) ?_ (ha:=(CV (NY (by (first | (simp only [AA,reduceIte,Nat.reduceEqDiff]<;>rfl) | (simp [Oe,AA]<;>rfl)))) FI))
 refine zv (Qt (ha:=by omega) (hb:=by omega)) ?_
 refine zv (D9 (ha:=by omega) (hb:=by omega)) ?_
 refine zv CK ?_
 refine zv (AB J4) ?_
 refine zs (Cu Aw) ?_
 refine ⟨by rfl,?_⟩
 refine sg ?_
 refine qv A9 ?_
 refine AV ?_
 rw [KS]
 exact xg [(100000,100000),(100001,100001),(100002,100002)] (h2:=by simp [Cm,Ar,Aa,AX,isLive,AZ,Bj,AA,DZ,BO,BN,CW,Al,BL,BP,BS,BQ,BR,ED,rC])
set_option maxHeartbeats 4000000 in
set_option maxRecDepth 100000 in
theorem l7 (b:Bg) (h:Hp) (n:Int) (c:Cs) (s:Int) (F:Fn b h n) (ok:C9 b h n c) (k:Nat) (hk:k < 1000):BA Tryz.prog 102 [.pt 100001 0 0,.pt 100000 0 0,.dv (.agg [i64 1,ints [(k:Int)]])] (Bj (three b h n c c s)) ⟨[.dv (Gt (IU b c k))],Bj (three b h n c (jJ (IU b c k) (ZP b h c k) c) s)⟩:=by
 have g0:([(k:Int)]:List Int)[0]?=some (k:Int):=rfl
 refine EI Tryz.func102 rfl rfl (by rw [Tryz.ntmps102];simp) fun cx hP hn hg=>?_
 rw [Tryz.ntmps102] at hn
 refine CB ?_
 refine sg ?_
 refine qp Bu ?_
 refine qv A9 ?_
 refine AL ?_
 refine sg ?_
 refine qv (AB NS) ?_
 refine qv (AQ Sr UH) ?_
 refine BI ?_
 refine sg ?_
 refine qv Bl ?_
 refine qv A9 ?_
 refine Dy (hb:=by decide) (ht:=?_)
 refine sg ?_
 refine qv Bl ?_
 refine qv A9 ?_
 refine G5 (hb:=by decide) (ht:=?_)
 refine sg ?_
 iterate 2 refine qv A8 ?_
 refine qv (AB Jk) ?_
 refine qv (AQ Av Bz) ?_
 first | refine qv (BF BG Aw) ?_ | refine qv (Bf BG Aw) ?_
 refine qv (Bb Aw Bw) ?_
 refine CY (f152 b h n c s k F ok hk) [] [(100000,100000),(100001,100001),(100002,100002)] [100000,100001,100002] ?_
 refine qv A9 ?_
 refine AV ?_
 exact xg [(100000,100000),(100001,100001),(100002,100002)]
set_option maxHeartbeats 4000000 in
set_option maxRecDepth 100000 in
theorem fP (b:Bg) (h:Hp) (n:Int) (c:Cs) (s:Int) (F:Fn b h n) (ok:C9 b h n c) (i m:Nat) (hi:i < 1000) (hm:m < 1000):BA Tryz.prog 102 [.pt 100001 0 0,.pt 100000 0 0,.dv (.agg [i64 2,ints [(i:Int),(m:Int)]])] (Bj (three b h n c c s)) ⟨[.dv (Gt (FW c i m))],Bj (three b h n c (jJ (FW c i m) (TY c i m) c) s)⟩:=by
 have g0:([(i:Int),(m:Int)]:List Int)[0]?=some (i:Int):=rfl
 have g1:([(i:Int),(m:Int)]:List Int)[1]?=some (m:Int):=rfl
 refine EI Tryz.func102 rfl rfl (by rw [Tryz.ntmps102];simp) fun cx hP hn hg=>?_
 rw [Tryz.ntmps102] at hn
 refine CB ?_
 refine sg ?_
 refine qp Bu ?_
 refine qv A9 ?_
 refine AL ?_
 refine sg ?_
 refine qv (AB NS) ?_
 refine qv (AQ Sr UH) ?_
 refine BI ?_
 refine sg ?_
 refine qv Bl ?_
 refine qv A9 ?_
 refine Dy (hb:=by decide) (ht:=?_)
 refine sg ?_
 refine qv Bl ?_
 refine qv A9 ?_
 refine Dy (hb:=by decide) (ht:=?_)
 refine sg ?_
 refine qv Bl ?_
 refine qv A9 ?_
 refine G5 (hb:=by decide) (ht:=?_)
 refine AL ?_
 refine rd mixed ?_
 iterate 2 refine zv A8 ?_
 refine zv (AB Jk) ?_
 refine zv (AQ Av Bz) ?_
 first | refine zv (BF BG Aw) ?_ | refine zv (Bf BG Aw) ?_
 refine zv (Bb Aw Bw) ?_
 refine zv (AB Jk) ?_
 refine zv (AQ Av Bz) ?_
 first | refine zv (BF BG Aw) ?_ | refine zv (Bf BG Aw) ?_
 refine zv (Bb Aw Bw) ?_
 refine UL (f153 b h n c s i m F ok hi hm) [] [(100000,100000),(100001,100001),(100002,100002)] [100000,100001,100002] ?_
 refine zv A9 ?_
 refine ⟨by rfl,?_⟩
 refine AV ?_
 exact xg [(100000,100000),(100001,100001),(100002,100002)]
set_option maxHeartbeats 4000000 in
set_option maxRecDepth 100000 in
theorem l6 (b:Bg) (h:Hp) (n:Int) (c:Cs) (s:Int) (F:Fn b h n) (ok:C9 b h n c) (r k:Nat) (hr:r < 1000) (hk:k < 1000):BA Tryz.prog 102 [.pt 100001 0 0,.pt 100000 0 0,.dv (.agg [i64 3,ints [(r:Int),(k:Int)]])] (Bj (three b h n c c s)) ⟨[.dv (Gt (Iz b c r k))],Bj (three b h n c (jJ (Iz b c r k) (eY b c r k) c) s)⟩:=by
 have g0:([(r:Int),(k:Int)]:List Int)[0]?=some (r:Int):=rfl
 have g1:([(r:Int),(k:Int)]:List Int)[1]?=some (k:Int):=rfl
 refine EI Tryz.func102 rfl rfl (by rw [Tryz.ntmps102];simp) fun cx hP hn hg=>?_
 rw [Tryz.ntmps102] at hn
 refine CB ?_
 refine sg ?_
 refine qp Bu ?_
 refine qv A9 ?_
 refine AL ?_
 refine sg ?_
 refine qv (AB NS) ?_
 refine qv (AQ Sr UH) ?_
 refine BI ?_
 refine sg ?_
 refine qv Bl ?_
 refine qv A9 ?_
 refine Dy (hb:=by decide) (ht:=?_)
 refine sg ?_
 refine qv Bl ?_
 refine qv A9 ?_
 refine Dy (hb:=by decide) (ht:=?_)
 refine sg ?_
 refine qv Bl ?_
 refine qv A9 ?_
 refine Dy (hb:=by decide) (ht:=?_)
 refine sg ?_
 refine qv Bl ?_
 refine qv A9 ?_
 refine G5 (hb:=by decide) (ht:=?_)
 refine AL ?_
 refine rd mixed ?_
 iterate 2 refine zv A8 ?_
 refine zv (AB Jk) ?_
 refine zv (AQ Av Bz) ?_
 first | refine zv (BF BG Aw) ?_ | refine zv (Bf BG Aw) ?_
 refine zv (Bb Aw Bw) ?_
 refine zv (AB Jk) ?_
 refine zv (AQ Av Bz) ?_
 first | refine zv (BF BG Aw) ?_ | refine zv (Bf BG Aw) ?_
 refine zv (Bb Aw Bw) ?_
 refine UL (f154 b h n c s r k F ok hr hk) [] [(100000,100000),(100001,100001),(100002,100002)] [100000,100001,100002] ?_
 refine zv A9 ?_
 refine ⟨by rfl,?_⟩
 refine AV ?_
 exact xg [(100000,100000),(100001,100001),(100002,100002)]
set_option maxHeartbeats 4000000 in
set_option maxRecDepth 100000 in
theorem fO (b:Bg) (h:Hp) (n:Int) (c:Cs) (s:Int) (F:Fn b h n) (ok:C9 b h n c):BA Tryz.prog 102 [.pt 100001 0 0,.pt 100000 0 0,.dv (.agg [i64 4,ints []])] (Bj (three b h n c c s)) ⟨[.dv (Gt (if c.shut then 5 else 0))],Bj (three b h n c (jJ (if c.shut then 5 else 0) { c with shut:=true } c) s)⟩:=by
 refine EI Tryz.func102 rfl rfl (by rw [Tryz.ntmps102];simp) fun cx hP hn hg=>?_
 rw [Tryz.ntmps102] at hn
 refine CB ?_
 refine sg ?_
 refine qp Bu ?_
 refine qv A9 ?_
 refine AL ?_
 refine sg ?_
 refine qv (AB NS) ?_
 refine qv (AQ Sr UH) ?_
 refine BI ?_
 refine sg ?_
 refine qv Bl ?_
 refine qv A9 ?_
 refine Dy (hb:=by decide) (ht:=?_)
 refine sg ?_
 refine qv Bl ?_
 refine qv A9 ?_
 refine Dy (hb:=by decide) (ht:=?_)
 refine sg ?_
 refine qv Bl ?_
 refine qv A9 ?_
 refine Dy (hb:=by decide) (ht:=?_)
 refine sg ?_
 refine qv Bl ?_
 refine qv A9 ?_
 refine Dy (hb:=by decide) (ht:=?_)
 refine sg ?_
 refine qv Bl ?_
 refine qv A9 ?_
 refine G5 (hb:=by decide) (ht:=?_)
 refine AL ?_
 refine sg ?_
 refine qv A8 ?_
 refine qv CK ?_
 refine qv (AB RI) ?_
 refine qv (AQ Ga YO) ?_
 refine cd (fun hc6=>?_) (fun hc6=>?_)
 ·try simp at hc6
  refine sg ?_
  refine qv (DC Ib IW) ?_
  refine Ia ⟨_,Tryz.underlying133,by intro ms;nofun⟩ ?_
  refine qv A9 ?_
  refine AV ?_
  have hs:c.shut=true:=by simpa using hc6
  rw [if_pos hs,Fj (by decide),Jr (by decide)]
  exact xg [(100000,100000),(100001,100001),(100002,100002)]
 ·try simp at hc6
  refine Af ?_
  refine rg ?_
  refine qv A8 ?_
  refine qv CK ?_
  refine qv (AB RI) ?_
  refine qs (Cu Ga) ?_
  refine sg ?_
  refine qv A9 ?_
  refine AV ?_
  have hs:c.shut=false:=by simpa using hc6
  rw [if_neg (by simp [hs]),KS,TQ]
  exact xg [(100000,100000),(100001,100001),(100002,100002)]
theorem dz {T:Tx} {o:Nat × List Nat} (h:CQ T=some o):o=(0,[]) \/ (∃ k,o=(1,[k]) /\ k < 1000) \/ (∃ i m,o=(2,[i,m]) /\ i < 1000 /\ m < 1000) \/ (∃ r k,o=(3,[r,k]) /\ r < 1000 /\ k < 1000) \/ o=(4,[]):=by
 unfold CQ at h
 split at h
 ·cases h
 ·rename_i w ws hs
  split at h
  ·cases h
  ·rename_i k c hk
   split at h
   ·cases h
   ·rename_i hc
    obtain ⟨ns,hns,rfl⟩:=Option.map_eq_some_iff.1 h
    obtain ⟨h1,h2⟩:=eH hns
    have hcl:ns.length=c:=by omega
    clear hc h1 hns hs h
    unfold Dm at hk
    split at hk
    ·simp only [Option.some.injEq,Prod.mk.injEq] at hk;obtain ⟨rfl,rfl⟩:=hk
     exact .inl (by rw [List.eq_nil_of_length_eq_zero hcl])
    ·split at hk
     ·simp only [Option.some.injEq,Prod.mk.injEq] at hk;obtain ⟨rfl,rfl⟩:=hk
      match ns,hcl,h2 with
      | [x],_,h2=>exact .inr (.inl ⟨x,rfl,h2 x (by simp)⟩)
     ·split at hk
      ·simp only [Option.some.injEq,Prod.mk.injEq] at hk;obtain ⟨rfl,rfl⟩:=hk
       match ns,hcl,h2 with
       | [x,y],_,h2=>exact .inr (.inr (.inl ⟨x,y,rfl,h2 x (by simp),h2 y (by simp)⟩))
      ·split at hk
       ·simp only [Option.some.injEq,Prod.mk.injEq] at hk;obtain ⟨rfl,rfl⟩:=hk
        match ns,hcl,h2 with
        | [x,y],_,h2=>exact .inr (.inr (.inr (.inl ⟨x,y,rfl,h2 x (by simp),h2 y (by simp)⟩)))
       ·split at hk
        ·simp only [Option.some.injEq,Prod.mk.injEq] at hk;obtain ⟨rfl,rfl⟩:=hk
         exact .inr (.inr (.inr (.inr (by rw [List.eq_nil_of_length_eq_zero hcl]))))
        ·cases hk
theorem f102 (b:Bg) (h:Hp) (n:Int) (c:Cs) (s:Int) (F:Fn b h n) (ok:C9 b h n c) {T:Tx} {o:Nat × List Nat} (ho:CQ T=some o):BA Tryz.prog 102 [.pt 100001 0 0,.pt 100000 0 0,.dv (rM o)] (Bj (three b h n c c s)) ⟨[.dv (Gt (ZN b c o))],Bj (three b h n c (jJ (ZN b c o) (fQ b h n c o) c) s)⟩:=by
 rcases dz ho with rfl | ⟨k,rfl,hk⟩ | ⟨i,m,rfl,hi,hm⟩ | ⟨r,k,rfl,hr,hk⟩ | rfl
 ·exact l8 b h n c s F ok
 ·exact l7 b h n c s F ok k hk
 ·exact fP b h n c s F ok i m hi hm
 ·exact l6 b h n c s F ok r k hr hk
 ·exact fO b h n c s F ok
end Go.Ab.Tryz
namespace Go.Ab.Tryz
open Go Go.Ab Go.Proofs Go.Ab.Ck Go.Ab.Gi
open Go.Ab.Heap (Az Ap BX)
open Go.Ab.Heap (Hp GX validate sm)
abbrev pair (b:Bg) (h:Hp) (n:Int) (c:Cs) (s:Int) (st:Nat):List (Nat × Au):=[(100000,VQ b h n c s 100001 100003),(100001,Di c.orders st)]
theorem l9 (e:Int):V5 (Gt e)=some (decide (e=0)):=by
 unfold Gt
 by_cases h:e=0
 ·rw [if_pos h,decide_eq_true h];rfl
 ·rw [if_neg h,decide_eq_false h];rfl
theorem ZM {b:Bg} {h:Hp} {n:Int} {c:Cs} {o:Nat × List Nat}:(fQ b h n c o).orders=c.orders:=by
 unfold fQ
 split<;>rfl
theorem O9 {T:Tx} {o:Nat × List Nat} (h:CQ T=some o) (hT:T.length < 2000000):AR Tryz.prog 101 [Cg T] (.many [.dv (rM o),.dv (.bool true)]):=by
 have h1:=f101 T hT
 unfold Jb at h1
 rw [h] at h1;exact h1
theorem dw {T:Tx} (h:CQ T=none) (hT:T.length < 2000000):AR Tryz.prog 101 [Cg T] (.many [.dv (rM (0,[])),.dv (.bool false)]):=by
 have h1:=f101 T hT
 unfold Jb at h1
 rw [h] at h1;exact h1
set_option maxHeartbeats 4000000 in
set_option maxRecDepth 100000 in
theorem wW (b:Bg) (h:Hp) (n:Int) (c:Cs) (s:Int) (F:Fn b h n) (ok:C9 b h n c) (T:Tx) (hT:T.length < 2000000) (hp:CQ T=none):BA Tryz.prog 65 [.pt 100000 0 0,.dv (Cg T)] (Bj (pair b h n c s 100004)) ⟨[.dv (Gt 2)],Bj (pair b h n (c) s 100004)⟩:=by
 have hol:=ok.ord
 refine EI Tryz.func65 rfl rfl (by rw [Tryz.ntmps65];simp) fun cx hP hn hg=>?_
 rw [Tryz.ntmps65] at hn
 refine CB ?_
 refine sg ?_
 refine qv A9 ?_
 refine sg ?_
 refine qv A8 ?_
 refine CF (dw hp hT) ?_
 refine qv A8 ?_
 iterate 2 refine qv BZ ?_
 refine qp (IJ IV) ?_
 refine qs (Cu Ed) ?_
 refine qv A9 ?_
 refine AL ?_
 refine sg ?_
 refine qv A8 ?_
 refine qv CP ?_
 refine G5 (hb:=by rfl) (ht:=?_)
 refine sg ?_
 refine qv (DC Ib IW) ?_
 refine Ia ⟨_,Tryz.underlying133,by intro ms;nofun⟩ ?_
 refine qv A9 ?_
 refine AV ?_
 rw [Fj (by decide)]
 exact xg [(100000,100000),(100001,100001)]
set_option maxHeartbeats 4000000 in
set_option maxRecDepth 100000 in
theorem ko (b:Bg) (h:Hp) (n:Int) (c:Cs) (s:Int) (F:Fn b h n) (ok:C9 b h n c) (T:Tx) (hT:T.length < 2000000) {o:Nat × List Nat} (ho:CQ T=some o) (hl:100 <= c.orders.length):BA Tryz.prog 65 [.pt 100000 0 0,.dv (Cg T)] (Bj (pair b h n c s 100004)) ⟨[.dv (Gt 3)],Bj (pair b h n (c) s 100004)⟩:=by
 have hol:=ok.ord
 refine EI Tryz.func65 rfl rfl (by rw [Tryz.ntmps65];simp) fun cx hP hn hg=>?_
 rw [Tryz.ntmps65] at hn
 refine CB ?_
 refine sg ?_
 refine qv A9 ?_
 refine sg ?_
 refine qv A8 ?_
 refine CF (O9 ho hT) ?_
 refine qv A8 ?_
 iterate 2 refine qv BZ ?_
 refine qp (IJ IV) ?_
 refine qs (Cu Ed) ?_
 refine qv A9 ?_
 refine AL ?_
 refine sg ?_
 refine qv A8 ?_
 refine qv CP ?_
 refine Dy (hb:=by rfl) (ht:=?_)
 refine Af ?_
 refine AL ?_
 refine sg ?_
 refine qv A8 ?_
 refine qv CK ?_
 refine qv (AB GD) ?_
 refine qv (AB KQ) ?_
 refine qv (AQ P9 PS) ?_
 refine qv (CZ Ce) ?_
 refine qv FT ?_
 refine G5 (hb:=(by simp;omega)) (ht:=?_)
 refine sg ?_
 refine qv (DC Ib IW) ?_
 refine Ia ⟨_,Tryz.underlying133,by intro ms;nofun⟩ ?_
 refine qv A9 ?_
 refine AV ?_
 rw [Fj (by decide)]
 exact xg [(100000,100000),(100001,100001)]
set_option maxHeartbeats 4000000 in
set_option maxRecDepth 100000 in
theorem qX (b:Bg) (h:Hp) (n:Int) (c:Cs) (s:Int) (F:Fn b h n) (ok:C9 b h n c) (T:Tx) (hT:T.length < 2000000) {o:Nat × List Nat} (ho:CQ T=some o) (hl:c.orders.length < 100) (he:ZN b c o ≠ 0):BA Tryz.prog 65 [.pt 100000 0 0,.dv (Cg T)] (Bj (pair b h n c s 100004)) ⟨[.dv (Gt (ZN b c o))],Bj (pair b h n (c) s 100004)⟩:=by
 have hol:=ok.ord
 refine EI Tryz.func65 rfl rfl (by rw [Tryz.ntmps65];simp) fun cx hP hn hg=>?_
 rw [Tryz.ntmps65] at hn
 refine CB ?_
 refine sg ?_
 refine qv A9 ?_
 refine sg ?_
 refine qv A8 ?_
 refine CF (O9 ho hT) ?_
 refine qv A8 ?_
 iterate 2 refine qv BZ ?_
 refine qp (IJ IV) ?_
 refine qs (Cu Ed) ?_
 refine qv A9 ?_
 refine AL ?_
 refine sg ?_
 refine qv A8 ?_
 refine qv CP ?_
 refine Dy (hb:=by rfl) (ht:=?_)
 refine Af ?_
 refine AL ?_
 refine sg ?_
 refine qv A8 ?_
 refine qv CK ?_
 refine qv (AB GD) ?_
 refine qv (AB KQ) ?_
 refine qv (AQ P9 PS) ?_
 refine qv (CZ Ce) ?_
 refine qv FT ?_
 refine Dy (hb:=(by simp;omega)) (ht:=?_)
 refine Af ?_
 refine sg ?_
 refine qv A8 ?_
 refine qv CK ?_
 refine qv (AB GD) ?_
 refine qv (AY L8 Ve) ?_
 refine qp (IJ Vm) ?_
 refine qs (Cu L8) ?_
 refine AL ?_
 refine sg ?_
 refine qv A8 ?_
 refine qv (AY Ed KX) ?_
 refine CY (f102 b h n c s F ok ho) [] [(100000,7),(100001,100000),(100002,100001)] [7,100000,100001] ?_
 refine qv A9 ?_
 refine sg ?_
 refine qv A8 ?_
 refine jE uR (l9 _) ?_
 refine G5 (hb:=(by simp [he])) (ht:=?_)
 refine sg ?_
 refine qv A8 ?_
 refine qv A9 ?_
 refine AV ?_
 exact xg [(100000,100000),(100001,100001)]
set_option maxHeartbeats 4000000 in
set_option maxRecDepth 100000 in
theorem qW (b:Bg) (h:Hp) (n:Int) (c:Cs) (s:Int) (F:Fn b h n) (ok:C9 b h n c) (T:Tx) (hT:T.length < 2000000) {o:Nat × List Nat} (ho:CQ T=some o) (hl:c.orders.length < 100) (he:ZN b c o=0):BA Tryz.prog 65 [.pt 100000 0 0,.dv (Cg T)] (Bj (pair b h n c s 100004)) ⟨[.dv (Gt 0)],Bj (pair b h n ({ fQ b h n c o with orders:=c.orders ++ [T] }) s 0)⟩:=by
 have hol:=ok.ord
 have hex:=f102 b h n c s F ok ho
 rw [he,KS,TQ] at hex
 have hexo:=ZM (b:=b) (h:=h) (n:=n) (c:=c) (o:=o)
 simp only [three,stB,stC,hexo] at hex
 refine EI Tryz.func65 rfl rfl (by rw [Tryz.ntmps65];simp) fun cx hP hn hg=>?_
 rw [Tryz.ntmps65] at hn
 refine CB ?_
 refine sg ?_
 refine qv A9 ?_
 refine sg ?_
 refine qv A8 ?_
 refine CF (O9 ho hT) ?_
 refine qv A8 ?_
 iterate 2 refine qv BZ ?_
 refine qp (IJ IV) ?_
 refine qs (Cu Ed) ?_
 refine qv A9 ?_
 refine AL ?_
 refine sg ?_
 refine qv A8 ?_
 refine qv CP ?_
 refine Dy (hb:=by rfl) (ht:=?_)
 refine Af ?_
 refine AL ?_
 refine sg ?_
 refine qv A8 ?_
 refine qv CK ?_
 refine qv (AB GD) ?_
 refine qv (AB KQ) ?_
 refine qv (AQ P9 PS) ?_
 refine qv (CZ Ce) ?_
 refine qv FT ?_
 refine Dy (hb:=(by simp;omega)) (ht:=?_)
 refine Af ?_
 refine sg ?_
 refine qv A8 ?_
 refine qv CK ?_
 refine qv (AB GD) ?_
 refine qv (AY L8 Ve) ?_
 refine qp (IJ Vm) ?_
 refine qs (Cu L8) ?_
 refine AL ?_
 refine sg ?_
 refine qv A8 ?_
 refine qv (AY Ed KX) ?_
 refine CY (hex) [] [(100000,7),(100001,100000),(100002,100001)] [7,100000,100001] ?_
 refine qv A9 ?_
 refine sg ?_
 refine qv A8 ?_
 refine jE uR (c:=true) rfl ?_
 refine Dy (hb:=by rfl) (ht:=?_)
 refine Af ?_
 refine sg ?_
 refine qv (AB KQ) ?_
 refine qv (AQ P9 PS) ?_
 refine qv A8 ?_
 refine qr (FV CS YQ Dh) ?_
 refine vG (Iu CS CS YQ Dh uI (hc:=MP)) ?_
 refine qv (AB KQ) ?_
 refine qs (Cu P9) ?_
 refine sg ?_
 refine qv A8 ?_
 refine qv (AY L8 Ve) ?_
 refine qv CK ?_
 refine qv (AB GD) ?_
 refine qs (Cu L8) ?_
 refine sg ?_
 refine qv A9 ?_
 refine AV ?_
 rw [KS]
 exact xg [(100000,100000),(100001,41)]
theorem f65 (b:Bg) (h:Hp) (n:Int) (c:Cs) (s:Int) (F:Fn b h n) (ok:C9 b h n c) (T:Tx) (hT:T.length < 2000000):BA Tryz.prog 65 [.pt 100000 0 0,.dv (Cg T)] (Bj (pair b h n c s 100004)) ⟨[.dv (Gt (Oz b c T))],Bj (pair b h n (Ns b h n c T) s 0)⟩:=by
 have own:∀ e,BA Tryz.prog 65 [.pt 100000 0 0,.dv (Cg T)] (Bj (pair b h n c s 100004)) ⟨[.dv (Gt e)],Bj (pair b h n c s 100004)⟩ -> BA Tryz.prog 65 [.pt 100000 0 0,.dv (Cg T)] (Bj (pair b h n c s 100004)) ⟨[.dv (Gt e)],Bj (pair b h n c s 0)⟩:=fun e hh =>
  hh.own ⟨rfl,.inl rfl,rfl,.inr ⟨Nat.le_of_ble_eq_true rfl,rfl⟩,trivial⟩
 by_cases e:Oz b c T=0
 ·obtain ⟨o,h1,h2,h3,h4⟩:=bU (h:=h) (n:=n) e
  rw [e,h4]
  exact qW b h n c s F ok T hT h1 h2 h3
 ·rw [VL e]
  refine own _ ?_
  unfold Oz at e ⊢
  cases hp:CQ T with
  | none=>exact wW b h n c s F ok T hT hp
  | some o =>
   rw [hp] at e
   simp only at e ⊢
   by_cases hl:100 <= c.orders.length
   ·rw [if_pos hl];exact ko b h n c s F ok T hT hp hl
   ·rw [if_neg hl] at e ⊢;exact qX b h n c s F ok T hT hp (by omega) e
end Go.Ab.Tryz
namespace Go.Ab.Tryz
open Go Go.Ab Go.Proofs Go.Conc.Locks
abbrev Yv:MuLink:={ lock:=62,unlock:=63,ilock:=98,iunlock:=99,lockSlow:=140,unlockSlow:=143,disable:=136,enable:=138,acquire:=139,relMerge:=141,cas32:=137,add32:=142,tMutex:=96,tIMutex:=94,tPMutex:=131,tPIMutex:=170,tPI32:=172,tUP:=174,tNoCopy:=91,tU32:=92 }
theorem aJ:MuLib Tryz.prog Yv where
 f_lock:=Tryz.func62
 f_unlock:=Tryz.func63
 f_ilock:=Tryz.func98
 f_iunlock:=Tryz.func99
 f_disable:=Tryz.func136
 f_enable:=Tryz.func138
 f_acquire:=Tryz.func139
 f_relMerge:=Tryz.func141
 f_cas32:=Tryz.func137
 f_add32:=Tryz.func142
 underlying_tIMutex:=Tryz.underlying94
 runUnderlying_tIMutex:=fun w=>run_underlying Tryz.underlying94 w
 sizeOf_tIMutex:=Tryz.sizeOf94
 isAgg_tIMutex:=Tryz.isAgg94
 zeroValue_tIMutex:=Tryz.zeroValue94
 underlying_tMutex:=Tryz.underlying96
 runUnderlying_tMutex:=fun w=>run_underlying Tryz.underlying96 w
 sizeOf_tMutex:=Tryz.sizeOf96
 isAgg_tMutex:=Tryz.isAgg96
 zeroValue_tMutex:=Tryz.zeroValue96
 underlying_tPMutex:=Tryz.underlying131
 runUnderlying_tPMutex:=fun w=>run_underlying Tryz.underlying131 w
 sizeOf_tPMutex:=Tryz.sizeOf131
 isAgg_tPMutex:=Tryz.isAgg131
 zeroValue_tPMutex:=Tryz.zeroValue131
 underlying_tPIMutex:=Tryz.underlying170
 runUnderlying_tPIMutex:=fun w=>run_underlying Tryz.underlying170 w
 sizeOf_tPIMutex:=Tryz.sizeOf170
 isAgg_tPIMutex:=Tryz.isAgg170
 zeroValue_tPIMutex:=Tryz.zeroValue170
 underlying_tPI32:=Tryz.underlying172
 runUnderlying_tPI32:=fun w=>run_underlying Tryz.underlying172 w
 sizeOf_tPI32:=Tryz.sizeOf172
 isAgg_tPI32:=Tryz.isAgg172
 zeroValue_tPI32:=Tryz.zeroValue172
 underlying_tUP:=Tryz.underlying174
 runUnderlying_tUP:=fun w=>run_underlying Tryz.underlying174 w
 sizeOf_tUP:=Tryz.sizeOf174
 isAgg_tUP:=Tryz.isAgg174
 zeroValue_tUP:=Tryz.zeroValue174
 underlying_tNoCopy:=Tryz.underlying91
 runUnderlying_tNoCopy:=fun w=>run_underlying Tryz.underlying91 w
 sizeOf_tNoCopy:=Tryz.sizeOf91
 isAgg_tNoCopy:=Tryz.isAgg91
 zeroValue_tNoCopy:=Tryz.zeroValue91
 underlying_t21:=Tryz.underlying21
 runUnderlying_t21:=fun w=>run_underlying Tryz.underlying21 w
 sizeOf_t21:=Tryz.sizeOf21
 isAgg_t21:=Tryz.isAgg21
 zeroValue_t21:=Tryz.zeroValue21
 room_tIMutex:=by kernel_rfl
end Go.Ab.Tryz
namespace Go.Ab
open Go.RowKit Go.Conc.Locks
section
variable {cx:Cx} {S:St} {ops:Array Oper}
theorem U1:∀ {l:List Oper} {S:St} {K:St -> Prop},Chain cx ops l S K -> ∃ S1,Chain cx ops l S (fun S'=>S'=S1) /\ K S1
 | [],S,K,h=>⟨S,rfl,h⟩
 | o :: l,S,K,⟨S',h1,h2⟩=>by
  obtain ⟨S1,h3,h4⟩:=U1 h2
  exact ⟨S1,⟨S',h1,h3⟩,h4⟩
theorem Rm (hg:cx.Good) {P:Program} {fn:Func} {L:MuLink} {Y:nL} (hP:cx.P=P) (hrn:cx.KC=none) (fF:cx.dq=[]) (hfin:∀ a w,sQ P L.unlock fn Y cx.w0 cx.X0 cx.Wr cx.loc a w -> cx.fin a w)
  {id:Nat} {o1 o2 o3:Oper} {x:Operand} {ts:Array TypeId} {ty:TypeId} {p:String} {af:Array Edge} {rest:Code} {K:Exit -> St -> Prop}
  (hch:Chain cx [o1,o2,o3,(⟨none,.defer { callee:=.value (.func L.unlock),args:=#[x],argTypes:=ts },ty,p,af,none⟩:Oper)].toArray [o1,o2,o3] S fun S'=>∃ t g off blk,S'.ev x=.pt t g off /\ S'.M t=(g,some blk) /\ 3 <= blk.st ∧
   ∀ I7:Cx,I7.P=P -> I7.n=cx.n -> I7.Good -> EF I7 rest (yC P fn.results.toList Y (blk.st - 3) off) S') :
  EF cx (.seq (.region id [o1,o2,o3,(⟨none,.defer { callee:=.value (.func L.unlock),args:=#[x],argTypes:=ts },ty,p,af,none⟩:Oper)].toArray false) rest) K S:=by
 obtain ⟨S1,h1,t,g,off,blk,h2,h3,h4,h5⟩:=U1 hch
 exact gU hg (L:=L) (fn:=fn) (Y:=Y) hP hrn fF hfin (lo:=[o1,o2,o3]) h1 h2 h3 h4 h5
end
theorem xu {P:Program} {rv:List ResultVar} {Y:nL} {i off g:Nat} {blk:Au} {l:List (Nat × SV)} {m m':List (Nat × Nat × Option Au)} (t:Nat) (k:YL P rv Y .ret ⟨lk l,AA ((t,g,some { blk with cells:=putCells blk.cells off [.dv (.int .i32 0)] }) :: m')⟩)
  (hM:AA m t=(g,some blk):=by (simp only [AA,reduceIte,Nat.reduceEqDiff]<;>rfl)) (hst:blk.st=i+3:=by rfl) (h1:blk.cells[off]?=some (.dv (.int .i32 1)):=by rfl) (hv:OA m=m':=by (simp only [OA,NH]<;>rfl)):yC P rv Y i off .ret ⟨lk l,AA m⟩:=by
 subst hv
 refine ⟨rfl,t,g,blk,hM,hst,h1,?_⟩
 show YL P rv Y .ret ⟨lk l,upd (Bd (AA m)) t _⟩
 rw [Er,EM]
 exact k
end Go.Ab
namespace Go.Ab
open Go.RowKit
def kN (P:Program) (s:TypeId) (f:Nat):Option (Nat × TypeId) :=
 match P.underlying s with
 | some (.struct fs)=>(fs[f]?).map fun fl=>(fl.offset,fl.type)
 | _=>none
section
variable {cx:Cx} {P:Program} {N:Nat} {ops:Array Oper} {rest:List Oper} {l:List (Nat × SV)} {m:List (Nat × Nat × Option Au)} {K:St -> Prop} {d t ty f off ft:Nat} {p:String} {af:Array Edge} {x:Operand} {gd:Option (Nat × Bool)}
theorem Fv {cs:List DV} {c:DV} (hf:kN P t f=some (off,ft)) (ha:FB P ft=some false) (hc:cs[off]?=some c) (kk:Chain cx ops rest ⟨lk ((d,.dv c) :: l),AA m⟩ K)
  (hx:St.ev ⟨lk l,AA m⟩ x=.dv (.agg cs):=by (simp only [St.look,St.ev,lk,AA,AO,Ah,Ag,reduceIte,Nat.reduceAdd,Nat.reduceEqDiff,Nat.reduceMul]<;>rfl)) (hP:cx.P=P:=by assumption) (hn:cx.n=N:=by assumption) (hd:d < N:=by decide)
  (hgd:G8 ops ⟨lk l,AA m⟩ gd:=by (first | exact trivial | exact ⟨_,rfl,by (simp only [lk,reduceIte,Nat.reduceEqDiff])⟩)) :
  Chain cx ops (⟨some d,.field t x f,ty,p,af,gd⟩ :: rest) ⟨lk l,AA m⟩ K:=by
 subst hP;subst hn
 refine ⟨⟨lk ((d,.dv c) :: l),AA m⟩,Fe hgd (.sem fun hg a w ⟨μ,h⟩=>Runs.does ?_),kk⟩
 have hv:=h.ev x
 rw [hx] at hv
 simp only [AJ] at hv
 have hap:(⟨lk l,AA m⟩:St).apply cx.n (some d) (.val (.dv c))=some ⟨lk ((d,.dv c) :: l),AA m⟩:=by
  have:=HY (Ko (r:=.dv c) hd ⟨lk l,AA m⟩)
  rw [this,Jp]
 generalize hxv:a.eval x=v at hv
 cases hv with
 | agg _ vs hsz hh =>
  have hlt:off < vs.size:=by rw [hsz];exact (List.getElem?_eq_some_iff.1 hc).1
  have h1:=hh off c hc
  refine CX h (v:=vs.getD off undef) ?_ (by simp only [AJ];exact h1) hap
  unfold kN at hf
  split at hf
  ·rename_i fs hu
   obtain ⟨fl,h2,h3⟩:=Option.map_eq_some_iff.1 hf
   simp only [Prod.mk.injEq] at h3
   obtain ⟨rfl,rfl⟩:=h3
   have hrun:(Instr.field t (.agg vs) f).run cx.P w=.ok (vs.getD fl.offset undef) w:=by
    have hg:vs[fl.offset]?=some (vs.getD fl.offset undef):=by simp [hlt]
    unfold Instr.field
    simp only [Sem.run_bind,run_underlying hu,Result.andThen_ok,h2]
    show (do let cs <- asAgg (.agg vs);part fl.type cs fl.offset:Sem Value).run cx.P w=_
    simp only [Sem.run_bind]
    show Result.andThen (Result.ok vs w) _=_
    simp only [Result.andThen_ok]
    unfold part
    simp only [Sem.run_bind,Ru ha,Result.andThen_ok,hg]
    rfl
   unfold execOp
   simp only [Sem.run_bind,hxv,hrun]
   rfl
  ·cases hf
end
end Go.Ab
namespace Go.Ab.Tryz
open Go Go.Ab Go.Proofs Go.Ab.Ck Go.Ab.Gi
open Go.Ab.Heap (Hp GX validate sm Az)
theorem A0O:ES Tryz.prog 62:=⟨_,Tryz.func62,rfl,rfl⟩
theorem A0N:ES Tryz.prog 63:=⟨_,Tryz.func63,rfl,rfl⟩
theorem L9:Lm Tryz.prog 34=true:=by kernel_rfl
set_option maxHeartbeats 4000000 in
set_option maxRecDepth 100000 in
theorem f24 (b:Bg) (h:Hp) (n:Int) (c:Cs) (F:Fn b h n) (ok:C9 b h n c) (T:Tx) (hT:T.length < 2000000):BA Tryz.prog 24 [.pt 100000 0 0,.dv (Cg T)] (Bj (pair b h n c 0 100004)) ⟨[.dv (i64 (Oz b c T))],Bj (pair b h n (Ns b h n c T) 0 0)⟩:=by
 refine Ra aJ A0N Tryz.func24 rfl rfl (by rw [Tryz.ntmps24];simp) fun cx hP hn hg hrn fF hfin=>?_
 rw [Tryz.ntmps24] at hn
 refine CB ?_
 refine sg ?_
 refine qv A9 ?_
 refine AL ?_
 refine sg ?_
 refine qv A8 ?_
 refine KG L9 ?_
 refine Dy (hb:=rfl) (ht:=?_)
 refine Af ?_
 refine sg ?_
 refine qv A8 ?_
 refine qv CK ?_
 refine qv (AB Pn) ?_
 refine jD aJ A0O ?_
 show EF cx _ _ ⟨lk _,AA [(100000,0,some (VQ b h n c 1 100001 100003)),(100000,0,some (VQ b h n c 0 100001 100003)),(100001,0,some (Di c.orders 100004))]⟩
 refine Rm hg (L:=Yv) (fn:=Proofs.Tryz.f24) hP hrn fF hfin ?_
 refine qv A8 ?_
 refine qv CK ?_
 refine qv (AB Pn) ?_
 refine ⟨100000,0,0,_,(by simp only [St.look,St.ev,lk,AA,AO,Ah,Ag,reduceIte,Nat.reduceAdd,Nat.reduceEqDiff,Nat.reduceMul]<;>rfl),(by simp only [AA,reduceIte,Nat.reduceEqDiff]<;>rfl),Nat.le_of_ble_eq_true rfl,fun nK hP1 hn1 hg1=>?_⟩
 rw [hn] at hn1
 refine sg ?_
 iterate 2 refine qv A8 ?_
 refine CY (f65 b h n c 1 F ok T hT) [] [(100000,100000),(100001,100001)] [100000,100001] ?_
 refine CF (f64 (Oz b c T)) ?_
 refine qv A9 ?_
 show EF nK _ _ _
 refine AV ?_
 refine xu 100000 ?_
 exact xg [(100000,100000),(100001,100001)] (h2:=by simp [Cm,Ar,Aa,AX,isLive,AZ,Bj,AA,DZ,BO,BN,CW,Al,BL,BP,BS,BQ,BR,ED,putCells])
end Go.Ab.Tryz
namespace Go.Ab.Tryz
open Go Go.Ab Go.Proofs Go.Ab.Ck Go.Ab.Gi
open Go.Ab.Heap (Hp GX validate sm Az)
abbrev dSt (c:Cs):DV:=.agg [i64 c.day,ints c.AU,ints c.Ad,i64 (c.Gj:Int),i64 c.EL,i64 c.cut,i64 c.loaded,.bool c.shut,GL c.orders]
theorem EW {ok:Nat -> Prop} {Cv:DV -> Prop} {M:Nat -> Nat × Option Au} {t g n st:Nat} {L:List Tx} (hM:M t=(g,some (Di L st))) (hst:ok st) (hl:L.length=n) (hd:∀ T,Cv (Cg T)):Data ok Cv M (.sl t g 0 n) (GL L):=by
 have hf:flat (L.map Cg)=L.map Cg:=GU fun _=>rfl
 refine NW hM hst (by simpa using hl) (fun d hd'=>?_) ?_ fun c hc'=>?_
 ·obtain ⟨q,_,rfl⟩:=List.mem_map.1 hd';rfl
 ·rw [hf];simp
 ·rw [hf] at hc';obtain ⟨q,_,rfl⟩:=List.mem_map.1 hc';exact hd q
set_option maxHeartbeats 4000000 in
set_option maxRecDepth 100000 in
theorem f68 (b:Bg) (h:Hp) (n:Int) (c:Cs) (F:Fn b h n) (ok:C9 b h n c):BA Tryz.prog 68 [.pt 100000 0 0] (Bj (pair b h n c 0 100004)) ⟨[.dv (dSt c)],Bj (pair b h n c 0 100004)⟩:=by
 have tY:=ok.hol.len
 have X8:=F.bg.n6
 have htl:=ok.MV
 have hg5:=F.vh.n5
 have hol:=ok.ord
 refine Ra aJ A0N Tryz.func68 rfl rfl (by rw [Tryz.ntmps68];simp) fun cx hP hn hg hrn fF hfin=>?_
 rw [Tryz.ntmps68] at hn
 refine CB ?_
 refine sg ?_
 refine qp (IJ Vm) ?_
 refine AL ?_
 refine sg ?_
 refine qv A8 ?_
 refine KG L9 ?_
 refine Dy (hb:=rfl) (ht:=?_)
 refine Af ?_
 refine sg ?_
 refine qv A8 ?_
 refine qv CK ?_
 refine qv (AB Pn) ?_
 refine jD aJ A0O ?_
 refine EF.le (tl [(2,2),(100000,100000),(100001,100001)] (l:=[(0,.pt 100000 0 0),(2,.pt 2 0 0)]) (m:=[(2,0,some ⟨[.dv (i64 0),.Bh,.Bh,.dv (i64 0),.dv (i64 0),.dv (i64 0),.dv (i64 0),.dv (.bool false),.Bh],0,98,0,false⟩),(100000,0,some (VQ b h n c 1 100001 100003)),(100001,0,some (Di c.orders 100004))]) (hM:=by simp [Cm,Ar,Aa,AX,lk,AA,isLive,AZ,BO,BN,CW,Al,BL,BP,BS,BQ,BR,putCells])) ?_
 refine Rm hg (L:=Yv) (fn:=Proofs.Tryz.f68) hP hrn fF hfin ?_
 refine qv A8 ?_
 refine qv CK ?_
 refine qv (AB Pn) ?_
 refine ⟨100000,0,0,_,(by simp only [St.look,St.ev,lk,AA,AO,Ah,Ag,reduceIte,Nat.reduceAdd,Nat.reduceEqDiff,Nat.reduceMul]<;>rfl),(by simp only [AA,reduceIte,Nat.reduceEqDiff]<;>rfl),Nat.le_of_ble_eq_true rfl,fun nK hP1 hn1 hg1=>?_⟩
 rw [hn] at hn1
 refine sg ?_
 refine qv A8 ?_
 refine qv CK ?_
 refine qv (AB GD) ?_
 refine qv (AY L8 Ve) ?_
 refine qp (IJ Vm) ?_
 refine qs (Cu L8) ?_
 show EF nK _ _ _
 refine AL ?_
 refine rd mixed ?_
 refine zv (AB Eb) ?_
 refine zv (AQ Av Bz) ?_
 refine Kz (R:=[]) (f97 c.AU (by omega)) ?_
 refine zv (AB FJ) ?_
 refine zv (AQ Av Bz) ?_
 refine Kz (R:=[]) (f97 c.Ad (by omega)) ?_
 refine zv (AB KQ) ?_
 refine zv (AQ P9 PS) ?_
 refine Kz (R:=[100001]) (f105 c.orders (by omega)) ?_ (ha:=CV (EW (by (first | (simp only [AA,reduceIte,Nat.reduceEqDiff]<;>rfl) | (simp [Oe,AA]<;>rfl))) trivial rfl (fun _=>trivial)) FI) (hS:=o9 (by simp only [AA,reduceIte,Nat.reduceEqDiff]<;>rfl))
 refine zv (AB Eb) ?_
 refine zs (Cu Av) ?_
 refine zv (AB FJ) ?_
 refine zs (Cu Av) ?_
 refine zv (AB KQ) ?_
 refine zs (Cu P9) ?_
 refine ⟨by rfl,?_⟩
 show EF nK _ _ _
 refine Dz 20 ?_
 refine Dz 23 ?_
 refine Dz 26 ?_
 refine sg ?_
 refine qv (AY L8 Ve) ?_
 refine qs (Cu L8) ?_
 show EF nK _ _ _
 refine AV ?_
 refine xu 100000 ?_
 have e1:(putCells (VQ b h n c 1 100001 100003).cells 0 [SV.dv (DV.int IntKind.i32 0)])=coC b h n c 0 100001:=rfl
 rw [e1]
 refine xg (ss:=[.agg [.dv (i64 c.day),.sl 20 1 0 c.AU.length,.sl 23 1 0 c.Ad.length,.dv (i64 (c.Gj:Int)),.dv (i64 c.EL),.dv (i64 c.cut),.dv (i64 c.loaded),.dv (.bool c.shut),.sl 26 1 0 c.orders.length]]) [(100000,100000),(100001,100001)] (hs:=?_) (h1:=?_) (h2:=?_)
 ·simp only [DX,Dr,St.look,St.ev,lk,AA,AO,Ah,Ag,L8,Ve,reduceIte,Nat.reduceEqDiff];rfl
 ·refine ⟨?_,trivial⟩
  simp only [AX]
  refine .agg _ _ rfl fun j s d hs hd=>?_
  match j,hs,hd with
  | 0,hs,hd=>cases hs;cases hd;exact .dv _ trivial
  | 1,hs,hd=>cases hs;cases hd;exact Bc (L:=c.AU) rfl rfl rfl rfl rfl (fun _=>trivial)
  | 2,hs,hd=>cases hs;cases hd;exact Bc (L:=c.Ad) rfl rfl rfl rfl rfl (fun _=>trivial)
  | 3,hs,hd=>cases hs;cases hd;exact .dv _ trivial
  | 4,hs,hd=>cases hs;cases hd;exact .dv _ trivial
  | 5,hs,hd=>cases hs;cases hd;exact .dv _ trivial
  | 6,hs,hd=>cases hs;cases hd;exact .dv _ trivial
  | 7,hs,hd=>cases hs;cases hd;exact .dv _ trivial
  | 8,hs,hd=>cases hs;cases hd;exact EW (L:=c.orders) (st:=1) rfl rfl rfl (fun _=>trivial)
 ·simp [Cm,Ar,Aa,AX,isLive,AZ,Bj,AA,DZ,BO,BN,CW,Al,BL,BP,BS,BQ,BR,ED]
end Go.Ab.Tryz
