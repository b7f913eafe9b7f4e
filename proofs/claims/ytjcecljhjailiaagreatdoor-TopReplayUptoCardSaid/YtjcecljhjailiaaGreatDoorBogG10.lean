/- Ab27, Ab28, Ab29, Ab30, Ab31, Ab32. -/
import Derived.Test.YtjcecljhjailiaaGreatDoorBogG09
set_option linter.unusedVariables false
namespace Go.Ab
open Go.RowKit
def valOf (us:List Value):Value:=if h:us.toArray.size=1 then us.toArray[0] else .tuple us.toArray
structure YK (w:World) (X:Nat -> Prop) (Pl:Nat -> Prop) (loc:Nat -> Option (Nat × Nat)) (M:Nat -> Nat × Option Au) (μ:Nat -> Option (Nat × Nat)):Prop where
 blk:∀ t g blk,M t=(g,some blk) -> Bt w M μ X t blk
 place:∀ t g blk b cap,M t=(g,some blk) -> μ t=some (b,cap) -> Pl b /\ b < w.heap.size
 uniq:∀ t g blk t' g' Aj b cap cap',t ≠ t' -> M t=(g,some blk) -> M t'=(g',some Aj) -> ED blk.st -> μ t=some (b,cap) -> μ t'=some (b,cap') -> Aj.st=2 /\ Aj.cells.length <= blk.cells.length
 Ei:∀ t g blk,M t=(g,some blk) -> 3 <= blk.st -> μ t=loc (blk.st - 3)
structure nL where
 res:List SV
 mem:Nat -> Nat × Option Au
def BA (P:Program) (f:FuncId) (args:List SV) (M0:Nat -> Nat × Option Au) (Y:nL):Prop :=
 ES P f /\ ∀ (w:World) (X0 Wr:Nat -> Prop) (loc μ:Nat -> Option (Nat × Nat)) (vs:List Value),
  (∀ b,X0 b -> b < w.heap.size /\ ¬ Wr b) -> Laid w -> (∀ g,Td g -> ¬ X0 g /\ ¬ Wr g) -> YK w (fun b=>Own (M0) μ b \/ X0 b) Wr loc (M0) μ -> Ac w (M0) μ (fun b=>Own (M0) μ b \/ X0 b) args vs →
  Calls P f vs.toArray w fun e w'=>∃ (us:List Value) (μ':Nat -> Option (Nat × Nat)),e=.returned (valOf us) /\ Dg Wr w w' ∧
   YK w' (fun b=>Own Y.mem μ' b \/ X0 b) (fun b=>w.heap.size <= b \/ Wr b) loc Y.mem μ' /\ Ac w' Y.mem μ' (fun b=>Own Y.mem μ' b \/ X0 b) Y.res us
def Nt:Nat -> List SV -> List (Nat × SV)
 | _,[]=>[]
 | n,s :: ss=>(n,s) :: Nt (n+1) ss
theorem Pz:∀ (ss:List SV) (n i:Nat),lk (Nt n ss) i=if n <= i then (ss[i - n]?).getD .dead else .dead
 | [],n,i=>by simp [Nt,lk]
 | s :: ss,n,i=>by
  simp only [Nt,lk,Pz ss (n+1) i]
  by_cases h:i=n
  ·subst h;simp
  ·by_cases h2:n <= i
   ·have:n+1 <= i:=by omega
    have e:i - n=(i - (n+1))+1:=by omega
    simp only [h,if_false,this,if_true,h2,e,List.getElem?_cons_succ]
   ·have:¬ n+1 <= i:=by omega
    simp [h,this,h2]
def YL (P:Program) (rv:List ResultVar) (Y:nL):Exit -> St -> Prop:=fun e S =>
 (e=.normal \/ e=.ret) /\ ∃ ss,DX P S rv=some ss /\ ∃ τ:Nat -> Option Nat,Aa τ S.M Y.mem Y.res ss /\ (∀ t' g' b',Y.mem t'=(g',some b') -> Ar τ S.M Y.mem t' b') /\ (∀ t1 t2 t,τ t1=some t -> τ t2=some t -> t1=t2)
theorem KF {cx:Cx} {S:St} {a:Act} {w:World} {μ:Nat -> Option (Nat × Nat)} (h:BJ cx S a w μ) {fn:Func} {ss:List SV} (hr:DX cx.P S fn.results.toList=some ss) :
  ∃ us,(results fn a.tmps).run cx.P w=.ok (valOf us) w /\ Ac w S.M μ (XX cx S.M μ) ss us:=by
 obtain ⟨us,h1,h2⟩:=IY h _ ss hr
 refine ⟨us,?_,h2⟩
 show (do let vs <- fn.results.mapM (Qc a.tmps);pure (if hh:vs.size=1 then vs[0] else .tuple vs):Sem Value).run cx.P w=_
 rw [Array.mapM_eq_mapM_toList]
 simp [h1,valOf]
theorem EI {P:Program} {f:FuncId} {fn:Func} {c:Code} {args:List SV} {M0:Nat -> Nat × Option Au} {Y:nL} (hf:P.funcs[f]?=some fn) (hb:fn.body=some c) (hname:(fn.name == "runtime.NumGoroutine")=false) (hn:args.length <= fn.ntmps)
  (h:∀ cx:Cx,cx.P=P -> cx.n=fn.ntmps -> cx.Good -> EF cx c (YL P fn.results.toList Y) ⟨lk (Nt 0 args),M0⟩):BA P f args M0 Y:=by
 refine ⟨H9 hf hb hname,fun w X0 Wr loc μ vs hX hLd hLk hM hV=>callsIn_wide.1 (callsIn_of_wp (F:=Fence.wide) (n:=0) hf hb trivial ?_)⟩
 have hl:=hV.length
 have hs:BJ { P:=P,w0:=w,n:=fn.ntmps,Wr:=Wr,X0:=X0,loc:=loc } ⟨lk (Nt 0 args),M0⟩ { tmps:=vs.toArray ++ Array.replicate (fn.ntmps - vs.toArray.size) undef,defers:=[] } w μ:=by
  refine ⟨hM.blk,fun i=>?_,fun t g blk b cap e hm=>⟨.inr (hM.place t g blk b cap e hm).1,(hM.place t g blk b cap e hm).2⟩,hM.uniq,hM.Ei,Dg.refl _ _,?_,rfl⟩
  ·show AJ w (M0) μ _ (lk (Nt 0 args) i) _
   rw [Pz]
   simp only [Nat.zero_le,if_true,Nat.sub_zero]
   rcases Nat.lt_or_ge i args.length with hi | hi
   ·have hi':i < vs.length:=by omega
    rw [List.getElem?_eq_getElem hi]
    have e:(vs.toArray ++ Array.replicate (fn.ntmps - vs.toArray.size) undef).getD i undef=vs[i]:=by simp [Array.getElem?_append_left,hi']
    rw [e]
    exact hV.get i args[i] vs[i] (by simp [hi]) (by simp [hi'])
   ·rw [List.getElem?_eq_none hi]
    trivial
  ·show (vs.toArray ++ Array.replicate (fn.ntmps - vs.toArray.size) undef).size=fn.ntmps
   rw [Array.size_append,Array.size_replicate,List.size_toArray]
   omega
 have hgood:({ P:=P,w0:=w,n:=fn.ntmps,Wr:=Wr,X0:=X0,loc:=loc }:Cx).Good:=⟨hX,hLd,hLk⟩
 refine wpIn_mono (h _ rfl rfl hgood _ w ⟨_,hs⟩) ?_
 rintro e a' w' (⟨S',⟨UK,h1⟩,he,ss,e1,τ,e2,e3,e4⟩ | ⟨_,hf⟩)
 rotate_left
 ·exact (show False from hf).elim
 obtain ⟨us,r1,r2⟩:=KF (fn:=fn) h1 e1
 have h2:=O6 (S':=⟨fun _=>.dead,Y.mem⟩) hgood h1 (τ:=τ) (fun i=>by simp only [AX]) e3 e4
 have hX2:∀ b,XX { P:=P,w0:=w,n:=fn.ntmps,Wr:=Wr,X0:=X0,loc:=loc } Y.mem (BU τ UK) b -> XX { P:=P,w0:=w,n:=fn.ntmps,Wr:=Wr,X0:=X0,loc:=loc } S'.M UK b:=by
  rintro b (⟨t',g',b',cap,f1,f2,f3⟩ | hx)
  ·have hb:=e3 t' g' b' f1
   unfold Ar at hb
   unfold BU at f3
   cases SX:τ t' with
   | none=>rw [SX] at f3;cases f3
   | some t =>
    rw [SX] at hb f3
    obtain ⟨blk,q1,q2,q3,q4,q5⟩:=hb
    exact .inl ⟨t,(S'.M t).1,blk,cap,by rw [<- q1],by rw [<- q4];exact f2,f3⟩
  ·exact .inr hx
 have r3:=Fw hgood h1 (M':=Y.mem) (Kv e3) (X':=XX { P:=P,w0:=w,n:=fn.ntmps,Wr:=Wr,X0:=X0,loc:=loc } Y.mem (BU τ UK)) hX2 _ _ _ e2 r2
 have fin:(results fn a'.tmps).run P w'=.ok (valOf us) w' /\ ∃ (us':List Value) (μ':Nat -> Option (Nat × Nat)),Ending.returned (valOf us)=.returned (valOf us') /\ Dg Wr w w' ∧
   YK w' (fun b=>Own Y.mem μ' b \/ X0 b) (fun b=>w.heap.size <= b \/ Wr b) loc Y.mem μ' /\ Ac w' Y.mem μ' (fun b=>Own Y.mem μ' b \/ X0 b) Y.res us' :=
  ⟨r1,us,BU τ UK,rfl,h1.below,⟨h2.blk,h2.place,h2.uniq,h2.Ei⟩,r3⟩
 rcases he with rfl | rfl<;>exact ⟨h1.defers,valOf us,fin.1,fin.2⟩
theorem fZ {P:Program} {rv:List ResultVar} {res:List SV} {mem:List (Nat × Nat × Option Au)} {e:Exit} {S:St} {ss:List SV} (τ:List (Nat × Nat)) (he:e=.normal \/ e=.ret) (hs:DX P S rv=some ss) (h1:Aa (AZ τ) S.M (AA mem) res ss) (h2:Cm (AZ τ) S (AA mem) mem)
  (h3:(τ.map (·.2)).Nodup):YL P rv ⟨res,AA mem⟩ e S:=⟨he,ss,hs,AZ τ,h1,Py h2,QL h3⟩
end Go.Ab
set_option linter.unusedVariables false
namespace Go.Ab
open Go.RowKit
mutual
def FQ (N:Nat -> Nat × Option Au) (ρ:Nat -> Option (Nat × Nat)):SV -> SV
 | .sl e g off n=>match ρ e with | some (t,gen)=>if (N e).1=g then .sl t gen off n else .dead | none=>.dead
 | .pt e g off=>match ρ e with | some (t,gen)=>if (N e).1=g then .pt t gen off else .dead | none=>.dead
 | .agg cs=>.agg (Dq N ρ cs)
 | .Em cs=>.Em (Dq N ρ cs)
 | .dead=>.dead
 | .dv d=>.dv d
 | .Bh=>.Bh
 | .emp b=>.emp b
def Dq (N:Nat -> Nat × Option Au) (ρ:Nat -> Option (Nat × Nat)):List SV -> List SV
 | []=>[]
 | c :: cs=>FQ N ρ c :: Dq N ρ cs
end
theorem Hr (N:Nat -> Nat × Option Au) (ρ:Nat -> Option (Nat × Nat)):∀ cs:List SV,Dq N ρ cs=cs.map (FQ N ρ)
 | []=>by simp [Dq]
 | c :: cs=>by simp [Dq,Hr N ρ cs]
theorem Ht {N:Nat -> Nat × Option Au} {ρ:Nat -> Option (Nat × Nat)} {cs:List SV} (h:Al cs=true):Dq N ρ cs=cs:=by
 rw [Hr]
 have h2:=Dv.1 h
 induction cs with
 | nil=>rfl
 | cons c cs ih =>
  obtain ⟨d,rfl⟩:=h2 c (by simp)
  rw [List.map_cons,ih (Dv.2 fun c hc=>h2 c (by simp [hc])) (fun c hc=>h2 c (by simp [hc]))]
  simp [FQ]
section
variable {w:World} {N M:Nat -> Nat × Option Au} {ν μ:Nat -> Option (Nat × Nat)} {X X':Nat -> Prop} {ρ:Nat -> Option (Nat × Nat)}
mutual
theorem aB (hρ:∀ e t gen,ρ e=some (t,gen) -> (M t).1=gen /\ ∀ b',M t=(gen,some b') -> ∃ b,N e=((N e).1,some b) /\ b'.C8=b.C8 /\ μ t=ν e) (hX:∀ b,X' b -> X b) :
  ∀ (c:SV) (v:Value),AJ w N ν X c v -> AJ w M μ X' (FQ N ρ c) v
 | .dead,_,_=>by simp only [FQ,AJ]
 | .dv d,v,h=>by simp only [FQ,AJ] at h ⊢;exact h.weaken hX
 | .Bh,v,h=>by simpa only [FQ,AJ] using h
 | .emp b,v,h=>by simpa only [FQ,AJ] using h
 | .sl e g off n,v,h=>by
  simp only [FQ]
  split
  ·rename_i t gen he
   split
   ·rename_i hg
    simp only [AJ] at h ⊢
    obtain ⟨h1,h2⟩:=hρ e t gen he
    refine ⟨⟨h.1.1,by omega⟩,fun b' hb'=>?_⟩
    obtain ⟨b,q1,q2,q3⟩:=h2 b' hb'
    rw [hg] at q1
    have:=h.2 b q1
    rw [q3,q2]
    exact this
   ·simp only [AJ]
  ·simp only [AJ]
 | .pt e g off,v,h=>by
  simp only [FQ]
  split
  ·rename_i t gen he
   split
   ·rename_i hg
    simp only [AJ] at h ⊢
    obtain ⟨h1,h2⟩:=hρ e t gen he
    refine ⟨⟨h.1.1,by omega⟩,fun b' hb'=>?_⟩
    obtain ⟨b,q1,q2,q3⟩:=h2 b' hb'
    rw [hg] at q1
    rw [q3]
    exact h.2 b q1
   ·simp only [AJ]
  ·simp only [AJ]
 | .agg cs,v,h=>by
  simp only [FQ,AJ] at h ⊢
  obtain ⟨vs,rfl,hv⟩:=h
  exact ⟨vs,rfl,Qe hρ hX cs vs hv⟩
 | .Em cs,v,h=>by
  simp only [FQ,AJ] at h ⊢
  obtain ⟨vs,rfl,hv⟩:=h
  exact ⟨vs,rfl,Qe hρ hX cs vs hv⟩
theorem Qe (hρ:∀ e t gen,ρ e=some (t,gen) -> (M t).1=gen /\ ∀ b',M t=(gen,some b') -> ∃ b,N e=((N e).1,some b) /\ b'.C8=b.C8 /\ μ t=ν e) (hX:∀ b,X' b -> X b) :
  ∀ (cs:List SV) (vs:List Value),Ac w N ν X cs vs -> Ac w M μ X' (Dq N ρ cs) vs
 | [],[],_=>by simp only [Dq,Ac]
 | c :: cs,v :: vs,h=>by
  simp only [Dq,Ac] at h ⊢
  exact ⟨aB hρ hX c v h.1,Qe hρ hX cs vs h.2⟩
 | [],_ :: _,h=>by simp only [Ac] at h
 | _ :: _,[],h=>by simp only [Ac] at h
end
end
def Vi (τ:Nat -> Option Nat) (M1 M0:Nat -> Nat × Option Au):Prop :=
 (∀ t' g' b',M0 t'=(g',some b') -> b'.st=3+t' /\ ∃ t b,τ t'=some t /\ (M1 t).2=some b /\ ED b.st /\ b'.C8=b.C8 /\ b'.elem=b.elem /\ b'.row=b.row /\ Aa τ M1 M0 b'.cells b.cells) ∧
 (∀ t1 t2 t,τ t1=some t -> τ t2=some t -> t1=t2) /\ (∀ t' t,τ t'=some t -> ∃ g' b',M0 t'=(g',some b'))
structure Zi (τ:Nat -> Option Nat) (M1 N M2:Nat -> Nat × Option Au) (σ:Nat -> Option Nat) (ρ:Nat -> Option (Nat × Nat)):Prop where
 at_:∀ t e,σ t=some e -> ∃ b st gen,(N e).2=some b /\ M2 t=(gen,some { b with cells:=Dq N ρ b.cells,st:=st }) /\ ρ e=some (t,gen) ∧
  ((3 <= b.st /\ τ (b.st - 3)=some t /\ ∃ b0,M1 t=(gen,some b0) /\ b0.st=st /\ b0.C8=b.C8) \/ (b.st < 2 /\ st=b.st /\ gen=(M1 t).1+1))
 off:∀ t,σ t=none -> (M2 t=Bd M1 t /\ ∀ t',τ t' ≠ some t) \/ M2 t=((M1 t).1,none)
 ren:∀ e t gen,ρ e=some (t,gen) -> σ t=some e
section
variable {cx:Cx} {S:St} {a:Act} {w w':World} {μ ν:Nat -> Option (Nat × Nat)} {M1 M0 N M2:Nat -> Nat × Option Au} {τ σ:Nat -> Option Nat} {ρ:Nat -> Option (Nat × Nat)}
theorem Qx (hg:cx.Good) (h:BJ cx ⟨S.F,M1⟩ a w μ) (hL:Vi τ M1 M0) :
  YK w (fun b=>Own M0 (BU τ μ) b \/ (XX cx M1 μ b /\ ¬ Own M0 (BU τ μ) b)) (Own M0 (BU τ μ)) (BU τ μ) M0 (BU τ μ) ∧
  (∀ b,Own M0 (BU τ μ) b -> XX cx M1 μ b /\ ∃ t g blk cap,M1 t=(g,some blk) /\ ED blk.st /\ μ t=some (b,cap) /\ ∃ t',τ t'=some t) ∧
  (∀ (args ss:List SV) (vs:List Value),Aa τ M1 M0 args ss -> Ac w M1 μ (XX cx M1 μ) ss vs -> Ac w M0 (BU τ μ) (fun b=>Own M0 (BU τ μ) b \/ (XX cx M1 μ b /\ ¬ Own M0 (BU τ μ) b)) args vs):=by
 obtain ⟨hL1,hL2,hL3⟩:=hL
 have hW:∀ b,Own M0 (BU τ μ) b -> XX cx M1 μ b /\ ∃ t g blk cap,M1 t=(g,some blk) /\ ED blk.st /\ μ t=some (b,cap) /\ ∃ t',τ t'=some t:=by
  rintro b ⟨t',g',b',cap,e1,e2,e3⟩
  obtain ⟨q0,t,b0,q1,q2,q3,_⟩:=hL1 t' g' b' e1
  have hm:μ t=some (b,cap):=by simpa [BU,q1] using e3
  have hM:M1 t=((M1 t).1,some b0):=by rw [<- q2]
  exact ⟨.inl ⟨t,_,b0,cap,hM,q3,hm⟩,t,_,b0,cap,hM,q3,hm,t',q1⟩
 have hX:∀ b,(Own M0 (BU τ μ) b \/ (XX cx M1 μ b /\ ¬ Own M0 (BU τ μ) b)) -> XX cx M1 μ b:=fun b hb=>hb.elim (fun h1=>(hW b h1).1) (fun h1=>h1.1)
 have hrep:∀ (args ss:List SV) (vs:List Value),Aa τ M1 M0 args ss -> Ac w M1 μ (XX cx M1 μ) ss vs -> Ac w M0 (BU τ μ) (fun b=>Own M0 (BU τ μ) b \/ (XX cx M1 μ b /\ ¬ Own M0 (BU τ μ) b)) args vs :=
  fun args ss vs h1 h2=>Fw hg h (M':=M0) (fun t' g' b' t e ht=>by
   obtain ⟨_,t2,b0,q1,q2,_,q3,_⟩:=hL1 t' g' b' e
   rw [ht] at q1
   obtain rfl:t=t2:=Option.some.inj q1
   exact ⟨b0,q2,q3⟩) hX _ _ _ h1 h2
 refine ⟨⟨fun t' g' b' e=>?_,fun t' g' b' b cap e hm=>?_,fun t1 g1 b1 t2 g2 b2 b c1 c2 hne e1 e2 hst m1 m2=>?_,fun t' g' b' e h3=>?_⟩,hW,hrep⟩
 ·obtain ⟨q0,t,b0,q1,q2,q3,q4,q5,q6,q7⟩:=hL1 t' g' b' e
  have hm:BU τ μ t'=μ t:=by simp [BU,q1]
  have hb:=h.blk t (M1 t).1 b0 (by show M1 t=_;rw [<- q2])
  unfold Bt at hb ⊢
  rw [hm]
  cases hmt:μ t with
  | none =>
   rw [hmt] at hb
   have hl:=Fx q7
   rw [hb.1] at hl
   exact ⟨List.eq_nil_of_length_eq_zero hl,by rw [q6];exact hb.2⟩
  | some p =>
   obtain ⟨b,cap⟩:=p
   rw [hmt] at hb
   obtain ⟨cur,r1,r2,r3,r4,r5⟩:=hb
   have hl:=Fx q7
   refine ⟨cur,by rw [q5];exact r1,by omega,?_,fun hr=>by rw [q4];exact r4 (by rw [<- q6];exact hr),fun hr=>by rw [hl];exact r5 (by rw [<- q6];exact hr)⟩
   have hall:Ac w M1 μ (XX cx M1 μ) b0.cells (cur.toList.take b0.cells.length):=Ac.mk (by simp;omega) fun j c u hj hu=>by
    rw [List.getElem?_take] at hu
    split at hu
    ·exact r3 j c u hj (by simpa using hu)
    ·cases hu
   have h2:=hrep _ _ _ q7 hall
   intro j c u hj hu
   refine h2.get j c u hj ?_
   rw [List.getElem?_take]
   have:=(List.getElem?_eq_some_iff.1 hj).1
   rw [if_pos (by omega)]
   simpa using hu
 ·obtain ⟨q0,t,b0,q1,q2,q3,_⟩:=hL1 t' g' b' e
  refine ⟨⟨t',g',b',cap,e,by unfold ED;omega,hm⟩,?_⟩
  have hmt:μ t=some (b,cap):=by simpa [BU,q1] using hm
  exact (h.place t (M1 t).1 b0 b cap (by show M1 t=_;rw [<- q2]) hmt).2
 ·obtain ⟨_,t,b0,q1,q2,q3,_⟩:=hL1 t1 g1 b1 e1
  obtain ⟨_,t',b0',q1',q2',q3',_⟩:=hL1 t2 g2 b2 e2
  have n1:μ t=some (b,c1):=by simpa [BU,q1] using m1
  have n2:μ t'=some (b,c2):=by simpa [BU,q1'] using m2
  have hne':t ≠ t':=fun hh=>hne (hL2 t1 t2 t q1 (hh ▸ q1'))
  have:=(h.uniq t (M1 t).1 b0 t' (M1 t').1 b0' b c1 c2 hne' (by show M1 t=_;rw [<- q2]) (by show M1 t'=_;rw [<- q2']) q3 n1 n2).1
  unfold ED at q3'
  omega
 ·obtain ⟨q0,_⟩:=hL1 t' g' b' e
  rw [q0]
  congr 1
  omega
theorem Y7 (hg:cx.Good) (h:BJ cx ⟨S.F,M1⟩ a w μ) (hL:Vi τ M1 M0) (hB:Zi τ M1 N M2 σ ρ) (hbel:Dg (Own M0 (BU τ μ)) w w')
  (hN:YK w' (fun b=>Own N ν b \/ (XX cx M1 μ b /\ ¬ Own M0 (BU τ μ) b)) (fun b=>w.heap.size <= b \/ Own M0 (BU τ μ) b) (BU τ μ) N ν) :
  ∃ KZ,BJ cx ⟨S.F,M2⟩ a w' KZ /\ ∀ c v,AJ w' N ν (fun b=>Own N ν b \/ (XX cx M1 μ b /\ ¬ Own M0 (BU τ μ) b)) c v -> AJ w' M2 KZ (XX cx M2 KZ) (FQ N ρ c) v:=by
 obtain ⟨_,hW,_⟩:=Qx hg h hL
 obtain ⟨hL1,hL2,hL3⟩:=hL
 let KZ:Nat -> Option (Nat × Nat):=fun t=>match σ t with | some e=>ν e | none=>μ t
 have Mx:∀ {t e},σ t=some e -> KZ t=ν e:=fun {t e} hs=>by simp only [KZ,hs]
 have Je:∀ {t},σ t=none -> KZ t=μ t:=fun {t} hs=>by simp only [KZ,hs]
 have Vg:∀ {e b},(N e).2=some b -> N e=((N e).1,some b):=fun {e b} hh=>by rw [<- hh]
 -- what is left of the caller's own tags
 have rest:∀ t g blk,σ t=none -> M2 t=(g,some blk) -> M1 t=(g,some blk) /\ blk.st ≠ 2 /\ (∀ t',τ t' ≠ some t):=by
  intro t g blk hs e
  rcases hB.off t hs with ⟨h1,h2⟩ | h1
  ·rw [h1] at e
   unfold Bd at e
   split at e
   ·rename_i b'' ZG
    split at e
    ·cases e
    ·rename_i hne
     refine ⟨e,?_,h2⟩
     rw [e] at ZG
     simp only [Option.some.injEq] at ZG
     rw [ZG];exact hne
   ·rename_i hn
    rw [e] at hn;cases hn
  ·rw [h1] at e;simp at e
 have ig:∀ t g blk b cap,σ t=none -> M2 t=(g,some blk) -> μ t=some (b,cap) -> ¬ Own M0 (BU τ μ) b:=by
  intro t g blk b cap hs e hm hw
  obtain ⟨h1,h2,h3⟩:=rest t g blk hs e
  obtain ⟨_,t0,g0,b0,c0,f1,f2,f3,t',f4⟩:=hW b hw
  have hne:t0 ≠ t:=fun hh=>h3 t' (hh ▸ f4)
  exact h2 (h.uniq t0 g0 b0 t g blk b c0 cap hne f1 h1 f2 f3 hm).1
 have hX0:∀ b,cx.X0 b -> ¬ Own M0 (BU τ μ) b:=by
  intro b hx hw
  obtain ⟨_,t0,g0,b0,c0,f1,f2,f3,_⟩:=hW b hw
  have:=(h.place t0 g0 b0 b c0 f1 f3).1
  have h0:=hg.1 b hx
  rcases this with h1 | h1
  ·omega
  ·exact h0.2 h1
 -- what is owned behind the call
 have own:∀ b,Own M2 KZ b -> Own N ν b \/ (Own M1 μ b /\ ¬ Own M0 (BU τ μ) b):=by
  rintro b ⟨t,g,blk,cap,e1,e2,e3⟩
  cases hs:σ t with
  | some e =>
   obtain ⟨be,st,gen,q1,q2,q3,q4⟩:=hB.at_ t e hs
   rw [Mx hs] at e3
   rw [q2] at e1
   simp only [Prod.mk.injEq,Option.some.injEq] at e1
   obtain ⟨_,rfl⟩:=e1
   refine .inl ⟨e,(N e).1,be,cap,Vg q1,?_,e3⟩
   rcases q4 with ⟨h3,_⟩ | ⟨h3,h4,_⟩
   ·exact .inr h3
   ·simp only at e2;rw [h4] at e2;exact e2
  | none =>
   obtain ⟨h1,_⟩:=rest t g blk hs e1
   rw [Je hs] at e3
   exact .inr ⟨⟨t,g,blk,cap,h1,e2,e3⟩,ig t g blk b cap hs e1 e3⟩
 have hXX:∀ b,XX cx M2 KZ b -> Own N ν b \/ (XX cx M1 μ b /\ ¬ Own M0 (BU τ μ) b):=by
  rintro b (h1 | h1)
  ·rcases own b h1 with h2 | ⟨h2,h3⟩
   ·exact .inl h2
   ·exact .inr ⟨.inl h2,h3⟩
  ·exact .inr ⟨.inr h1,hX0 b h1⟩
 have hs:w.heap.size <= w'.heap.size:=hbel.size
 have hk:∀ b,b < w.heap.size -> ¬ XX cx M1 μ b -> w'.heap[b]?=w.heap[b]? /\ ¬ XX cx M2 KZ b:=by
  intro b hb hx
  have hnw:¬ Own M0 (BU τ μ) b:=fun hw=>hx (hW b hw).1
  refine ⟨hbel.block b hb hnw,fun hx2=>?_⟩
  rcases hXX b hx2 with ⟨e,g,blk,cap,f1,f2,f3⟩ | ⟨h2,_⟩
  ·rcases (hN.place e g blk b cap f1 f3).1 with h3 | h3
   ·omega
   ·exact hnw h3
  ·exact hx h2
 have kK:∀ t,(M1 t).1 <= (M2 t).1:=by
  intro t
  cases hs:σ t with
  | some e =>
   obtain ⟨be,st,gen,q1,q2,q3,q4⟩:=hB.at_ t e hs
   rw [q2]
   rcases q4 with ⟨_,_,b0,h4,_⟩ | ⟨_,_,h4⟩
   ·rw [h4];exact Nat.le_refl _
   ·rw [h4];exact Nat.le_succ _
  | none =>
   rcases hB.off t hs with ⟨h1,_⟩ | h1
   ·rw [h1]
    unfold Bd
    split
    ·split<;>exact Nat.le_refl _
    ·exact Nat.le_refl _
   ·rw [h1];exact Nat.le_refl _
 have hBm:∀ t g Aj,M2 t=(g,some Aj) -> g <= (M1 t).1 -> ∃ blk,M1 t=(g,some blk) /\ KZ t=μ t /\ Aj.C8=blk.C8:=by
  intro t g Aj e hle
  cases hs:σ t with
  | some e' =>
   obtain ⟨be,st,gen,q1,q2,q3,q4⟩:=hB.at_ t e' hs
   rw [q2] at e
   simp only [Prod.mk.injEq,Option.some.injEq] at e
   obtain ⟨rfl,rfl⟩:=e
   rcases q4 with ⟨h3,h5,b0,h4,h6,h7⟩ | ⟨_,_,h4⟩
   ·refine ⟨b0,h4,?_,h7.symm⟩
    rw [Mx hs,hN.Ei e' _ be (Vg q1) h3]
    simp [BU,h5]
   ·omega
  | none =>
   obtain ⟨h1,_⟩:=rest t g Aj hs e
   exact ⟨Aj,h1,Je hs,rfl⟩
 have hρ:∀ e t gen,ρ e=some (t,gen) -> (M2 t).1=gen /\ ∀ b',M2 t=(gen,some b') -> ∃ b,N e=((N e).1,some b) /\ b'.C8=b.C8 /\ KZ t=ν e:=by
  intro e t gen he
  have hs:=hB.ren e t gen he
  obtain ⟨be,st,gen',q1,q2,q3,q4⟩:=hB.at_ t e hs
  rw [he] at q3
  simp only [Option.some.injEq,Prod.mk.injEq,true_and] at q3
  subst q3
  refine ⟨by rw [q2],fun b' hb'=>⟨be,Vg q1,?_,Mx hs⟩⟩
  rw [q2] at hb'
  simp only [Prod.mk.injEq,Option.some.injEq,true_and] at hb'
  rw [<- hb']
 have ze:=aB (w:=w') (N:=N) (M:=M2) (ν:=ν) (μ:=KZ) (X:=fun b=>Own N ν b \/ (XX cx M1 μ b /\ ¬ Own M0 (BU τ μ) b)) (X':=XX cx M2 KZ) hρ hXX
 refine ⟨KZ,⟨fun t g blk e=>?_,fun i=>AJ.mono hs hk kK hBm _ _ (h.slot i),fun t g blk b cap e hm=>?_,fun t1 g1 b1 t2 g2 b2 b c1 c2 hne e1 e2 s1 m1 m2=>?_,fun t g blk e h3=>?_,?_,h.size,h.defers⟩,ze⟩
 ·change M2 t=_ at e
  show Bt w' M2 KZ (XX cx M2 KZ) t blk
  cases hσ:σ t with
  | some e' =>
   obtain ⟨be,st,gen,q1,q2,q3,q4⟩:=hB.at_ t e' hσ
   rw [q2] at e
   simp only [Prod.mk.injEq,Option.some.injEq] at e
   obtain ⟨_,rfl⟩:=e
   have hb:=hN.blk e' _ be (Vg q1)
   unfold Bt at hb ⊢
   rw [Mx hσ]
   cases hm:ν e' with
   | none =>
    rw [hm] at hb
    exact ⟨by rw [hb.1];simp [Dq],hb.2⟩
   | some p =>
    obtain ⟨b,cap⟩:=p
    rw [hm] at hb
    obtain ⟨cur,r1,r2,r3,r4,r5⟩:=hb
    have hlen:(Dq N ρ be.cells).length=be.cells.length:=by rw [Hr];simp
    refine ⟨cur,r1,by simp only [hlen];exact r2,fun j c u hc hu=>?_,r4,fun hr=>by simp only [hlen];exact r5 hr⟩
    simp only [Hr,List.getElem?_map,Option.map_eq_some_iff] at hc
    obtain ⟨c0,hc0,rfl⟩:=hc
    exact ze c0 u (r3 j c0 u hc0 hu)
  | none =>
   obtain ⟨h1,h2,h3⟩:=rest t g blk hσ e
   have hb:=h.blk t g blk h1
   refine Bt.mono (st:=blk.st) hs hk kK hBm (Je hσ) (fun b cap hm=>hbel.block b ?_ (ig t g blk b cap hσ e hm)) hb
   exact (h.place t g blk b cap h1 hm).2
 ·change M2 t=_ at e
  cases hσ:σ t with
  | some e' =>
   obtain ⟨be,st,gen,q1,q2,q3,q4⟩:=hB.at_ t e' hσ
   have hm':ν e'=some (b,cap):=(Mx hσ).symm.trans hm
   obtain ⟨p1,p2⟩:=hN.place e' _ be b cap (Vg q1) hm'
   refine ⟨?_,p2⟩
   rcases p1 with p1 | p1
   ·exact .inl (Nat.le_trans h.below.size p1)
   ·obtain ⟨_,t0,g0,b0,c0,f1,f2,f3,_⟩:=hW b p1
    exact (h.place t0 g0 b0 b c0 f1 f3).1
  | none =>
   obtain ⟨h1,_⟩:=rest t g blk hσ e
   have:=h.place t g blk b cap h1 ((Je hσ).symm.trans hm)
   exact ⟨this.1,Nat.lt_of_lt_of_le this.2 hs⟩
 ·change M2 t1=_ at e1
  change M2 t2=_ at e2
  exfalso
  have bad:∀ t g blk e' c c',σ t=none -> M2 t=(g,some blk) -> KZ t=some (b,c) -> ∀ be,(N e').2=some be -> ν e'=some (b,c') -> False:=by
   intro t g blk e' c c' hσ e hm be q1 hm'
   rcases (hN.place e' _ be b c' (Vg q1) hm').1 with h3 | h3
   ·have:=(h.place t g blk b c (rest t g blk hσ e).1 ((Je hσ).symm.trans hm)).2
    omega
   ·exact ig t g blk b c hσ e ((Je hσ).symm.trans hm) h3
  cases h1:σ t1 with
  | some x1 =>
   obtain ⟨be1,st1,gen1,q1,q2,q3,q4⟩:=hB.at_ t1 x1 h1
   have n1:ν x1=some (b,c1):=(Mx h1).symm.trans m1
   have o1:ED be1.st:=by
    rw [q2] at e1
    simp only [Prod.mk.injEq,Option.some.injEq] at e1
    obtain ⟨_,rfl⟩:=e1
    rcases q4 with ⟨h3,_⟩ | ⟨h3,h4,_⟩
    ·exact .inr h3
    ·simp only at s1;rw [h4] at s1;exact s1
   cases h2:σ t2 with
   | some x2 =>
    obtain ⟨be2,st2,gen2,p1,p2,p3,p4⟩:=hB.at_ t2 x2 h2
    have n2:ν x2=some (b,c2):=(Mx h2).symm.trans m2
    have hx:x1 ≠ x2:=fun hh=>by
     subst hh
     rw [q3] at p3
     simp only [Option.some.injEq,Prod.mk.injEq] at p3
     exact hne p3.1
    have:=(hN.uniq x1 _ be1 x2 _ be2 b c1 c2 hx (Vg q1) (Vg p1) o1 n1 n2).1
    rcases p4 with ⟨h3,_⟩ | ⟨h3,_⟩<;>omega
   | none=>exact bad t2 g2 b2 x1 c2 c1 h2 e2 m2 be1 q1 n1
  | none =>
   cases h2:σ t2 with
   | some x2 =>
    obtain ⟨be2,st2,gen2,p1,p2,p3,p4⟩:=hB.at_ t2 x2 h2
    exact bad t1 g1 b1 x2 c1 c2 h1 e1 m1 be2 p1 ((Mx h2).symm.trans m2)
   | none =>
    have:=(h.uniq t1 g1 b1 t2 g2 b2 b c1 c2 hne (rest t1 g1 b1 h1 e1).1 (rest t2 g2 b2 h2 e2).1 s1 ((Je h1).symm.trans m1) ((Je h2).symm.trans m2)).1
    exact (rest t2 g2 b2 h2 e2).2.1 this
 ·change M2 t=_ at e
  cases hσ:σ t with
  | some e' =>
   obtain ⟨be,st,gen,q1,q2,q3,q4⟩:=hB.at_ t e' hσ
   rw [q2] at e
   simp only [Prod.mk.injEq,Option.some.injEq] at e
   obtain ⟨rfl,rfl⟩:=e
   simp only at h3 ⊢
   rcases q4 with ⟨p3,p5,b0,p4,p6,p7⟩ | ⟨p3,p4,_⟩
   ·rw [Mx hσ,hN.Ei e' _ be (Vg q1) p3]
    have:=h.Ei t gen b0 p4 (by omega)
    simp only [BU,p5]
    rw [this,p6]
   ·omega
  | none =>
   obtain ⟨h1,_⟩:=rest t g blk hσ e
   rw [Je hσ]
   exact h.Ei t g blk h1 h3
 ·refine h.below.then hbel fun i hi hw hib=>?_
  obtain ⟨_,t0,g0,b0,c0,f1,f2,f3,_⟩:=hW i hib
  rcases (h.place t0 g0 b0 i c0 f1 f3).1 with h1 | h1
  ·omega
  ·exact hw h1
end
end Go.Ab
set_option linter.unusedVariables false
namespace Go.Ab
open Go.RowKit
def Bj (l:List (Nat × Au)):Nat -> Nat × Option Au:=AA (l.map fun p=>(p.1,0,some p.2))
def dX (N:Nat -> Nat × Option Au) (ρ:Nat -> Option (Nat × Nat)) (res:List SV):SV :=
 match res with
 | [r]=>FQ N ρ r
 | rs=>.Em (Dq N ρ rs)
def DZ (M:Nat -> Nat × Option Au) (ts:List Nat):Nat -> Nat × Option Au:=fun t=>if t ∈ ts then ((M t).1,(M t).2.map fun b=>{ b with st:=1 }) else M t
def Ik (M:Nat -> Nat × Option Au) (ts:List Nat):List (Nat × Nat × Option Au):=ts.map fun t=>(t,(M t).1,(M t).2.map fun b=>{ b with st:=1 })
def drops (M:Nat -> Nat × Option Au) (τ:List (Nat × Nat)):List (Nat × Nat × Option Au):=τ.map fun p=>(p.2,(M p.2).1,none)
def Lv (M:Nat -> Nat × Option Au) (b:Au) (t:Nat):Nat:=if 3 <= b.st then (M t).1 else (M t).1+1
def iU (M:Nat -> Nat × Option Au) (b:Au) (t:Nat):Nat:=if 3 <= b.st then ((M t).2.map (·.st)).getD 0 else b.st
def Fa (M:Nat -> Nat × Option Au):List (Nat × Au) -> List Nat -> Nat -> Option (Nat × Nat)
 | (e,b) :: mem,t :: ts,i=>if i=e then some (t,Lv M b t) else Fa M mem ts i
 | _,_,_=>none
def Me:List (Nat × Au) -> List Nat -> Nat -> Option Nat
 | (e,_) :: mem,t :: ts,i=>if i=t then some e else Me mem ts i
 | _,_,_=>none
def puts (M N:Nat -> Nat × Option Au) (ρ:Nat -> Option (Nat × Nat)):List (Nat × Au) -> List Nat -> List (Nat × Nat × Option Au)
 | (_,b) :: mem,t :: ts=>puts M N ρ mem ts ++ [(t,Lv M b t,some { b with cells:=Dq N ρ b.cells,st:=iU M b t })]
 | _,_=>[]
def PZ (M:Nat -> Nat × Option Au) (fz:List Nat) (τ:List (Nat × Nat)) (mem:List (Nat × Au)) (rt:List Nat):List (Nat × Nat × Option Au) :=
 Ik M fz ++ drops M τ ++ puts M (Bj mem) (Fa M mem rt) mem rt
def PK (d:Nat) (S:St) (fz:List Nat) (τ:List (Nat × Nat)) (res:List SV) (mem:List (Nat × Au)) (rt:List Nat):Eff :=
 ⟨some d,dX (Bj mem) (Fa S.M mem rt) res,true,PZ S.M fz τ mem rt⟩
def Ez (M:Nat -> Nat × Option Au) (τ:List (Nat × Nat)):List (Nat × Au) -> List Nat -> Prop
 | (_,b) :: mem,t :: ts=>((3 <= b.st /\ AZ τ (b.st - 3)=some t /\ ∃ b0,(M t).2=some b0 /\ b0.C8=b.C8) \/ b.st < 2) /\ Ez M τ mem ts
 | [],[]=>True
 | _,_=>False
def Ju (τ:List (Nat × Nat)) (M1 M0:Nat -> Nat × Option Au):List (Nat × Au) -> Prop
 | []=>True
 | (t',b') :: m0=>(b'.st=3+t' /\ ∃ t b,AZ τ t'=some t /\ (M1 t).2=some b /\ ED b.st /\ b'.C8=b.C8 /\ b'.elem=b.elem /\ b'.row=b.row /\ Aa (AZ τ) M1 M0 b'.cells b.cells) /\ Ju τ M1 M0 m0
def Jv (M:Nat -> Nat × Option Au):List Nat -> Prop
 | []=>True
 | t :: ts=>(∃ b,(M t).2=some b /\ (ED b.st \/ b.st=1)) /\ Jv M ts
theorem aK:∀ {l:List (Nat × Au)} {t g:Nat} {b:Au},Bj l t=(g,some b) -> g=0 /\ (t,b) ∈ l
 | [],t,g,b,h=>by simp [Bj,AA] at h
 | (k,v) :: l,t,g,b,h=>by
  simp only [Bj,List.map_cons,AA] at h
  split at h
  ·rename_i e
   subst e
   simp only [Prod.mk.injEq,Option.some.injEq] at h
   obtain ⟨rfl,rfl⟩:=h
   exact ⟨rfl,by simp⟩
  ·obtain ⟨h1,h2⟩:=aK (l:=l) h
   exact ⟨h1,List.mem_cons_of_mem _ h2⟩
theorem Qo:∀ {l:List (Nat × Au)},(l.map (·.1)).Nodup -> ∀ {t:Nat} {b:Au},(t,b) ∈ l -> Bj l t=(0,some b)
 | [],_,t,b,h=>by cases h
 | (k,v) :: l,hn,t,b,h=>by
  simp only [List.map_cons,List.nodup_cons] at hn
  simp only [Bj,List.map_cons,AA]
  rcases List.mem_cons.1 h with h1 | h1
  ·simp only [Prod.mk.injEq] at h1
   obtain ⟨rfl,rfl⟩:=h1
   simp
  ·have:t ≠ k:=fun e=>hn.1 (e ▸ List.mem_map.2 ⟨_,h1,rfl⟩)
   rw [if_neg this]
   exact Qo hn.2 h1
theorem Xf:∀ (ts:List Nat) (M:Nat -> Nat × Option Au),Jv M ts -> ∃ M',Tk M ts=some M' /\ M'=DZ M ts
 | [],M,_=>⟨M,rfl,by funext t;simp [DZ]⟩
 | t :: ts,M,h=>by
  obtain ⟨⟨b,h1,h2⟩,h3⟩:=h
  have hM:M t=((M t).1,some b):=by rw [<- h1]
  have h3':Jv (upd M t ((M t).1,some { b with st:=1 })) ts:=by
   have:∀ ts:List Nat,Jv M ts -> Jv (upd M t ((M t).1,some { b with st:=1 })) ts:=by
    intro ts
    induction ts with
    | nil=>exact fun _=>trivial
    | cons s ts ih =>
     rintro ⟨⟨c,c1,c2⟩,c3⟩
     refine ⟨?_,ih c3⟩
     by_cases hs:s=t
     ·subst hs;exact ⟨_,by rw [upd_same],.inr rfl⟩
     ·exact ⟨c,by rw [upd_ne _ _ _ _ hs];exact c1,c2⟩
   exact this ts h3
  obtain ⟨M',e1,e2⟩:=Xf ts _ h3'
  refine ⟨M',?_,?_⟩
  ·rw [Tk,hM]
   simp only [h2,if_true]
   exact e1
  ·rw [e2]
   funext s
   simp only [DZ,List.mem_cons]
   by_cases hs:s=t
   ·subst hs
    rw [upd_same,hM]
    simp
   ·rw [upd_ne _ _ _ _ hs]
    simp [hs]
theorem JB:∀ (l l':List (Nat × Nat × Option Au)) (M:Nat -> Nat × Option Au),D6 M (l ++ l')=D6 (D6 M l) l'
 | [],_,_=>rfl
 | (t,e) :: l,l',M=>JB l l' _
theorem Kg:∀ (l:List (Nat × Nat × Option Au)) (M:Nat -> Nat × Option Au) (t:Nat),(∀ p ∈ l,p.1 ≠ t) -> D6 M l t=M t
 | [],_,_,_=>rfl
 | (k,e) :: l,M,t,h=>by
  rw [D6,Kg l _ t fun p hp=>h p (List.mem_cons_of_mem _ hp),upd_ne _ _ _ _ (Ne.symm (h (k,e) (by simp)))]
theorem O4 {f:Nat -> Nat × Option Au}:∀ (l:List (Nat × Nat × Option Au)) (M:Nat -> Nat × Option Au) (t:Nat),(∀ p ∈ l,p.2=f p.1) -> (∃ p ∈ l,p.1=t) -> D6 M l t=f t
 | [],_,_,_,h=>by obtain ⟨p,hp,_⟩:=h;cases hp
 | (k,e) :: l,M,t,hf,h=>by
  by_cases h2:∃ p ∈ l,p.1=t
  ·exact O4 l _ t (fun p hp=>hf p (List.mem_cons_of_mem _ hp)) h2
  ·rw [D6,Kg l _ t fun p hp e=>h2 ⟨p,hp,e⟩]
   obtain ⟨p,hp,hpt⟩:=h
   rcases List.mem_cons.1 hp with rfl | hp
   ·simp only at hpt
    subst hpt
    rw [upd_same]
    exact hf (_,e) (by simp)
   ·exact absurd ⟨p,hp,hpt⟩ h2
section
variable {M:Nat -> Nat × Option Au} {fz:List Nat} {τ:List (Nat × Nat)}
theorem Uf:∀ {mem:List (Nat × Au)} {rt:List Nat},Ez M τ mem rt -> (mem.map (·.1)).Nodup -> rt.Nodup -> ∀ {t e:Nat},Me mem rt t=some e ↔ ∃ b,(e,b) ∈ mem /\ Fa M mem rt e=some (t,Lv M b t)
 | [],[],_,_,_,t,e=>by simp [Me,Fa]
 | [],_ :: _,h,_,_,_,_=>by simp only [Ez] at h
 | _ :: _,[],h,_,_,_,_=>by simp only [Ez] at h
 | (k,v) :: mem,s :: rt,h,hn,hr,t,e=>by
  simp only [Ez] at h
  simp only [List.map_cons,List.nodup_cons] at hn hr
  have ih:=Uf h.2 hn.2 hr.2 (t:=t) (e:=e)
  have isrt:∀ {mem:List (Nat × Au)} {rt:List Nat} {i t g:Nat},Fa M mem rt i=some (t,g) -> t ∈ rt:=by
   intro mem
   induction mem with
   | nil=>intro rt i t g h;simp [Fa] at h
   | cons p mem ih =>
    obtain ⟨k,v⟩:=p
    intro rt i t g h
    cases rt with
    | nil=>simp [Fa] at h
    | cons s rt =>
     simp only [Fa] at h
     split at h
     ·simp only [Option.some.injEq,Prod.mk.injEq] at h;rw [<- h.1];simp
     ·exact List.mem_cons_of_mem _ (ih h)
  have ismem:∀ {mem:List (Nat × Au)} {rt:List Nat} {t e:Nat},Me mem rt t=some e -> e ∈ mem.map (·.1) /\ t ∈ rt:=by
   intro mem
   induction mem with
   | nil=>intro rt t e h;simp [Me] at h
   | cons p mem ih =>
    obtain ⟨k,v⟩:=p
    intro rt t e h
    cases rt with
    | nil=>simp [Me] at h
    | cons s rt =>
     simp only [Me] at h
     split at h
     ·rename_i h1;simp only [Option.some.injEq] at h;subst h;subst h1;simp
     ·obtain ⟨a,b⟩:=ih h;exact ⟨List.mem_cons_of_mem _ a,List.mem_cons_of_mem _ b⟩
  simp only [Me,Fa]
  by_cases h1:t=s
  ·subst h1
   rw [if_pos rfl]
   constructor
   ·intro h2
    simp only [Option.some.injEq] at h2
    subst h2
    exact ⟨v,by simp,by rw [if_pos rfl]⟩
   ·rintro ⟨b,hb,hb2⟩
    split at hb2
    ·rename_i h3;rw [h3]
    ·exact absurd (isrt hb2) hr.1
  ·rw [if_neg h1,ih]
   constructor
   ·rintro ⟨b,hb,hb2⟩
    have:e ≠ k:=fun hh=>hn.1 (hh ▸ List.mem_map.2 ⟨_,hb,rfl⟩)
    exact ⟨b,List.mem_cons_of_mem _ hb,by rw [if_neg this];exact hb2⟩
   ·rintro ⟨b,hb,hb2⟩
    split at hb2
    ·simp only [Option.some.injEq,Prod.mk.injEq] at hb2;exact absurd hb2.1.symm h1
    ·rename_i h3
     refine ⟨b,?_,hb2⟩
     rcases List.mem_cons.1 hb with h4 | h4
     ·simp only [Prod.mk.injEq] at h4;exact absurd h4.1 h3
     ·exact h4
theorem Ul:∀ {mem:List (Nat × Au)} {rt:List Nat},(mem.map (·.1)).Nodup -> rt.Nodup -> ∀ {t e g:Nat},Fa M mem rt e=some (t,g) -> ∃ b,(e,b) ∈ mem /\ g=Lv M b t /\ t ∈ rt
 | [],_,_,_,t,e,g,h=>by simp [Fa] at h
 | _ :: _,[],_,_,t,e,g,h=>by simp [Fa] at h
 | (k,v) :: mem,s :: rt,hn,hr,t,e,g,h=>by
  simp only [List.map_cons,List.nodup_cons] at hn hr
  simp only [Fa] at h
  split at h
  ·rename_i h1
   subst h1
   simp only [Option.some.injEq,Prod.mk.injEq] at h
   exact ⟨v,by simp,by rw [<- h.2,h.1],by rw [<- h.1];simp⟩
  ·obtain ⟨b,h1,h2,h3⟩:=Ul hn.2 hr.2 h
   exact ⟨b,List.mem_cons_of_mem _ h1,h2,List.mem_cons_of_mem _ h3⟩
theorem Ur {N:Nat -> Nat × Option Au} {ρ:Nat -> Option (Nat × Nat)}:∀ {mem:List (Nat × Au)} {rt:List Nat},Ez M τ mem rt -> rt.Nodup -> ∀ (M0:Nat -> Nat × Option Au) (t:Nat),
  (∀ e,Me mem rt t=some e -> ∃ b,(e,b) ∈ mem /\ D6 M0 (puts M N ρ mem rt) t=(Lv M b t,some { b with cells:=Dq N ρ b.cells,st:=iU M b t }) /\ ((3 <= b.st /\ AZ τ (b.st - 3)=some t /\ ∃ b0,(M t).2=some b0 /\ b0.C8=b.C8) \/ b.st < 2)) ∧
  (Me mem rt t=none -> D6 M0 (puts M N ρ mem rt) t=M0 t)
 | [],[],_,_,M0,t=>by simp [Me,puts,D6]
 | [],_ :: _,h,_,_,_=>by simp only [Ez] at h
 | _ :: _,[],h,_,_,_=>by simp only [Ez] at h
 | (k,v) :: mem,s :: rt,h,hr,M0,t=>by
  simp only [Ez] at h
  simp only [List.nodup_cons] at hr
  obtain ⟨i1,i2⟩:=Ur (N:=N) (ρ:=ρ) h.2 hr.2 M0 t
  simp only [puts,JB,D6,Me]
  by_cases h1:t=s
  ·subst h1
   rw [upd_same,if_pos rfl]
   refine ⟨fun e he=>?_,fun he=>by cases he⟩
   simp only [Option.some.injEq] at he
   subst he
   exact ⟨v,by simp,rfl,h.1⟩
  ·rw [upd_ne _ _ _ _ h1,if_neg h1]
   refine ⟨fun e he=>?_,i2⟩
   obtain ⟨b,b1,b2,b3⟩:=i1 e he
   exact ⟨b,List.mem_cons_of_mem _ b1,b2,b3⟩
theorem P5 {mem:List (Nat × Au)} {rt:List Nat} (hm:Ez M τ mem rt) (hn:(mem.map (·.1)).Nodup) (hr:rt.Nodup) (hfz:∀ t ∈ rt,t ∉ fz) :
  Zi (AZ τ) (DZ M fz) (Bj mem) (D6 (Bd M) (PZ M fz τ mem rt)) (Me mem rt) (Fa M mem rt):=by
 have hf:∀ t ∈ rt,DZ M fz t=M t:=fun t ht=>by simp [DZ,hfz t ht]
 have hfg:∀ t,(DZ M fz t).1=(M t).1:=fun t=>by unfold DZ;split<;>rfl
 refine ⟨fun t e hs=>?_,fun t hs=>?_,fun e t gen he=>?_⟩
 ·obtain ⟨b,b1,b2,b3⟩:=(Ur (N:=Bj mem) (ρ:=Fa M mem rt) hm hr (D6 (D6 (Bd M) (Ik M fz)) (drops M τ)) t).1 e hs
  obtain ⟨b',c1,c2⟩:=(Uf hm hn hr).1 hs
  have hbb:b'=b:=by
   have q1:=Qo hn b1
   have q2:=Qo hn c1
   rw [q1] at q2
   simp only [Prod.mk.injEq,Option.some.injEq,true_and] at q2
   exact q2.symm
  subst hbb
  obtain ⟨_,_,_,htr⟩:=Ul hn hr c2
  refine ⟨b',iU M b' t,Lv M b' t,by rw [Qo hn b1],?_,c2,?_⟩
  ·rw [PZ,JB,JB];exact b2
  ·rcases b3 with ⟨h3,h4,b0,h5,h6⟩ | h3
   ·refine .inl ⟨h3,h4,b0,?_,?_,h6⟩
    ·rw [hf t htr,Lv,if_pos h3,<- h5]
    ·simp [iU,h3,h5]
   ·refine .inr ⟨h3,by simp [iU,show ¬ 3 <= b'.st by omega],by rw [hfg,Lv,if_neg (by omega)]⟩
 ·have h1:=(Ur (N:=Bj mem) (ρ:=Fa M mem rt) hm hr (D6 (D6 (Bd M) (Ik M fz)) (drops M τ)) t).2 hs
  have e:D6 (Bd M) (PZ M fz τ mem rt) t=D6 (D6 (Bd M) (Ik M fz)) (drops M τ) t:=by rw [PZ,JB,JB];exact h1
  by_cases h2:∃ p ∈ drops M τ,p.1=t
  ·refine .inr ?_
   rw [e,O4 (f:=fun t=>((M t).1,none)) _ _ t (fun p hp=>?_) h2,hfg]
   simp only [drops,List.mem_map] at hp
   obtain ⟨q,_,rfl⟩:=hp
   rfl
  ·refine .inl ⟨?_,fun t' ht'=>h2 ⟨_,List.mem_map.2 ⟨_,K6 ht',rfl⟩,rfl⟩⟩
   rw [e,Kg _ _ t fun p hp hpt=>h2 ⟨p,hp,hpt⟩]
   by_cases h3:t ∈ fz
   ·have hin:∃ p ∈ Ik M fz,p.1=t:=⟨_,by unfold Ik;exact List.mem_map.2 ⟨t,h3,rfl⟩,rfl⟩
    rw [O4 (f:=fun t=>((M t).1,(M t).2.map fun b=>{ b with st:=1 })) _ _ t (fun p hp=>?_) hin]
    ·simp only [Bd,DZ,h3,if_true]
     cases (M t).2<;>simp
    ·simp only [Ik,List.mem_map] at hp
     obtain ⟨q,_,rfl⟩:=hp
     rfl
   ·rw [Kg _ _ t fun p hp hpt=>?_]
    ·exact Ol (by simp [DZ,h3])
    ·simp only [Ik,List.mem_map] at hp
     obtain ⟨q,hq,rfl⟩:=hp
     exact h3 (hpt ▸ hq)
 ·obtain ⟨b,b1,b2,_⟩:=Ul hn hr he
  refine (Uf hm hn hr).2 ⟨b,b1,?_⟩
  rw [he,b2]
theorem Ou {m0:List (Nat × Au)} {M1:Nat -> Nat × Option Au} (h:Ju τ M1 (Bj m0) m0) (SX:(τ.map (·.2)).Nodup) (hk:∀ p ∈ τ,p.1 ∈ m0.map (·.1)) (hn:(m0.map (·.1)).Nodup):Vi (AZ τ) M1 (Bj m0):=by
 refine ⟨fun t' g' b' e=>?_,QL SX,fun t' t ht=>?_⟩
 ·have hm:=(aK e).2
  have:∀ l:List (Nat × Au),Ju τ M1 (Bj m0) l -> (t',b') ∈ l -> b'.st=3+t' /\ ∃ t b,AZ τ t'=some t /\ (M1 t).2=some b /\ ED b.st /\ b'.C8=b.C8 /\ b'.elem=b.elem /\ b'.row=b.row /\ Aa (AZ τ) M1 (Bj m0) b'.cells b.cells:=by
   intro l
   induction l with
   | nil=>intro _ h;cases h
   | cons p l ih =>
    obtain ⟨k,v⟩:=p
    intro h hm
    rcases List.mem_cons.1 hm with h1 | h1
    ·simp only [Prod.mk.injEq] at h1
     obtain ⟨rfl,rfl⟩:=h1
     exact h.1
    ·exact ih h.2 h1
  exact this m0 h hm
 ·obtain ⟨p,hp,hpt⟩:=List.mem_map.1 (hk _ (K6 ht))
  obtain ⟨k,b⟩:=p
  simp only at hpt
  subst hpt
  exact ⟨0,b,Qo hn hp⟩
end
theorem LW {w:World} {M:Nat -> Nat × Option Au} {μ:Nat -> Option (Nat × Nat)} {X:Nat -> Prop}:∀ {cs ds:List SV} {us vs:List Value},Ac w M μ X cs us -> Ac w M μ X ds vs -> Ac w M μ X (cs ++ ds) (us ++ vs)
 | [],_,[],_,_,h=>h
 | c :: cs,_,u :: us,_,h,k=>by
  simp only [Ac] at h
  simp only [List.cons_append,Ac]
  exact ⟨h.1,LW h.2 k⟩
 | [],_,_ :: _,_,h,_=>by simp only [Ac] at h
 | _ :: _,_,[],_,h,_=>by simp only [Ac] at h
section
variable {cx:Cx} {S:St} {a:Act} {w:World} {o:Oper} {fz:List Nat} {τ:List (Nat × Nat)} {m0 mem:List (Nat × Au)} {rt:List Nat} {args:List SV} {res:List SV}
structure dH (S:St) (fz:List Nat) (τ:List (Nat × Nat)) (m0 mem:List (Nat × Au)) (rt:List Nat) (args ss:List SV):Prop where
 hfz:Jv S.M fz
 zU:Ju τ (DZ S.M fz) (Bj m0) m0
 inj:(τ.map (·.2)).Nodup
 keys:∀ p ∈ τ,p.1 ∈ m0.map (·.1)
 nd0:(m0.map (·.1)).Nodup
 hargs:Aa (AZ τ) (DZ S.M fz) (Bj m0) args ss
 hmem:Ez S.M τ mem rt
 nd1:(mem.map (·.1)).Nodup
 nd2:rt.Nodup
 off:∀ t ∈ rt,t ∉ fz
theorem Rb (hg:cx.Good) (h0:JQ cx S a w) {f':Operand} {ops:Array Operand} {ts:Array TypeId} (ho:o.op=.call { callee:=.value f',args:=ops,argTypes:=ts }) {f:FuncId} {pre caps:List DV} (hf:S.ev f'=.dv (.fn f pre caps))
  (hk:dH S fz τ m0 mem rt args (ops.toList.map S.ev)) (hcall:BA cx.P f (pre.map .dv ++ args ++ caps.map .dv) (Bj m0) ⟨res,Bj mem⟩) {d:Nat} (hd:o.dst=some d) (hdn:d < cx.n) :
  Does cx ((PK d S fz τ res mem rt).app S) o a w:=by
 obtain ⟨μ,h0⟩:=h0
 obtain ⟨M1,hz1,hz2⟩:=Xf fz S.M hk.hfz
 have h:BJ cx ⟨S.F,DZ S.M fz⟩ a w μ:=by rw [<- hz2];exact Pk h0 fz S.M M1 h0 hz1
 have hL:=Ou hk.zU hk.inj hk.keys hk.nd0
 have hB:=P5 (M:=S.M) hk.hmem hk.nd1 hk.nd2 hk.off
 obtain ⟨hM0,hW,hrep⟩:=Qx hg h hL
 have kF:=h.ev f'
 have hf1:St.ev ⟨S.F,DZ S.M fz⟩ f'=.dv (.fn f pre caps):=by rw [<- hf];cases f'<;>rfl
 rw [hf1] at kF
 simp only [AJ] at kF
 generalize hv:a.eval f'=vf at *
 cases kF with
 | fn _ _ _ vp vc p1 p2 p3 p4 =>
  intro Q
  unfold Oper.wp
  rw [Kr ho hv hcall.1]
  have dvs:∀ (ds:List DV) (vs:Array Value),vs.size=ds.length -> (∀ (j:Nat) c,ds[j]?=some c -> Bn w (XX cx (DZ S.M fz) μ) c (vs.getD j undef)) →
    Ac w (Bj m0) (BU (AZ τ) μ) (fun b=>Own (Bj m0) (BU (AZ τ) μ) b \/ (XX cx (DZ S.M fz) μ b /\ ¬ Own (Bj m0) (BU (AZ τ) μ) b)) (ds.map .dv) vs.toList:=by
   intro ds vs hl hh
   refine Ac.mk (by simpa using hl) fun j c u hj hu=>?_
   simp only [List.getElem?_map,Option.map_eq_some_iff] at hj
   obtain ⟨x,hx,rfl⟩:=hj
   simp only [AJ]
   have h1:=hh j x hx
   have e:vs.getD j undef=u:=by
    simp only [Array.getElem?_toList] at hu
    simp [hu]
   rw [e] at h1
   exact h1.weaken fun b hb=>hb.elim (fun q=>(hW b q).1) (fun q=>q.1)
  have hargs:Ac w (Bj m0) (BU (AZ τ) μ) (fun b=>Own (Bj m0) (BU (AZ τ) μ) b \/ (XX cx (DZ S.M fz) μ b /\ ¬ Own (Bj m0) (BU (AZ τ) μ) b)) args (ops.toList.map a.eval):=by
   refine hrep _ _ _ hk.hargs (Ac.mk (by simp) fun j c u hj hu=>?_)
   simp only [List.getElem?_map,Option.map_eq_some_iff] at hj hu
   obtain ⟨x,hx,rfl⟩:=hj
   obtain ⟨y,hy,rfl⟩:=hu
   rw [hx] at hy
   obtain rfl:=Option.some.inj hy
   have:=h.ev x
   have e:St.ev ⟨S.F,DZ S.M fz⟩ x=S.ev x:=by cases x<;>rfl
   rw [e] at this
   exact this
  have hall:=LW (LW (dvs pre vp p1 p3) hargs) (dvs caps vc p2 p4)
  have harr:(vp ++ ops.map a.eval ++ vc)=(vp.toList ++ ops.toList.map a.eval ++ vc.toList).toArray:=by
   apply Array.toList_inj.1
   simp
  rw [harr]
  refine (hcall.2 w (fun b=>XX cx (DZ S.M fz) μ b /\ ¬ Own (Bj m0) (BU (AZ τ) μ) b) (Own (Bj m0) (BU (AZ τ) μ)) (BU (AZ τ) μ) (BU (AZ τ) μ) _ (fun b hb=>⟨?_,hb.2⟩) (h.laid hg).1 (fun g hk=>⟨fun hx=>(h.laid hg).2 g hk hx.1,fun hx=>(h.laid hg).2 g hk (hW g hx).1⟩) hM0 hall).mono fun e w' ⟨us,ν,he,hbel,hN,hR⟩=>?_
  ·rcases hb.1 with ⟨t,g,blk,cap,e1,_,e3⟩ | hx
   ·exact (h.place t g blk b cap e1 e3).2
   ·exact Nat.lt_of_lt_of_le (hg.1 b hx).1 h.below.size
  ·subst he
   show JQ cx _ (a.put o.dst (valOf us)) w'
   obtain ⟨KZ,i1,i2⟩:=Y7 hg h hL hB hbel hN
   rw [hd]
   refine ⟨KZ,?_⟩
   have hval:AJ w' (D6 (Bd S.M) (PZ S.M fz τ mem rt)) KZ (XX cx (D6 (Bd S.M) (PZ S.M fz τ mem rt)) KZ) (dX (Bj mem) (Fa S.M mem rt) res) (valOf us):=by
    have Em:us.length ≠ 1 -> AJ w' (D6 (Bd S.M) (PZ S.M fz τ mem rt)) KZ (XX cx (D6 (Bd S.M) (PZ S.M fz τ mem rt)) KZ) (.Em (Dq (Bj mem) (Fa S.M mem rt) res)) (valOf us):=fun hne=>by
     have:valOf us=.tuple us.toArray:=by
      unfold valOf
      rw [dif_neg (by simpa using hne)]
     rw [this]
     simp only [AJ]
     refine ⟨us,rfl,?_⟩
     rw [Hr]
     refine Ac.mk (by simp [hR.length]) fun j c u hj hu=>?_
     simp only [List.getElem?_map,Option.map_eq_some_iff] at hj
     obtain ⟨c0,hc0,rfl⟩:=hj
     exact i2 c0 u (hR.get j c0 u hc0 hu)
    have hlen:=hR.length
    match res,us,hlen,hR,Em with
    | [r],[u],_,hR,_ =>
     simp only [Ac,and_true] at hR
     show AJ w' _ KZ _ (FQ (Bj mem) _ r) (valOf [u])
     have:valOf [u]=u:=by simp [valOf]
     rw [this]
     exact i2 r u hR
    | [],[],_,_,Em=>exact Em (by simp)
    | r :: r' :: rs,us,hlen,_,Em=>exact Em (by simp at hlen;omega)
   have:=i1.set hdn hval
   simpa [PK,Eff.app] using this
end
end Go.Ab
set_option linter.unusedVariables false
namespace Go.Ab
open Go.RowKit
def Ug (L:List (Nat × Nat × Option Au)):List (Nat × Nat × Option Au) -> List (Nat × Nat × Option Au)
 | []=>L
 | p :: r=>Ug (p :: L) r
theorem Mg:∀ (ms L:List (Nat × Nat × Option Au)),D6 (AA L) ms=AA (Ug L ms)
 | [],L=>rfl
 | (t,e) :: r,L=>by rw [D6,EM,Mg r,Ug]
section
variable {cx:Cx} {P:Program} {N:Nat} {ops:Array Oper} {rest:List Oper} {l:List (Nat × SV)} {m m':List (Nat × Nat × Option Au)} {K:St -> Prop} {KD:List It -> St -> Prop} {its:List It}
 {d f:Nat} {ty:TypeId} {p:String} {af:Array Edge} {gd:Option (Nat × Bool)} {oa:Array Operand} {ts:Array TypeId} {args res ss:List SV} {m0 mem:List (Nat × Au)}
theorem CY (hc:BA P f args (Bj m0) ⟨res,Bj mem⟩) (fz:List Nat) (τ:List (Nat × Nat)) (rt:List Nat) {v:SV} (kk:Chain cx ops rest ⟨lk ((d,v) :: l),AA m'⟩ K)
  (hs:oa.toList.map (St.ev ⟨lk l,AA m⟩)=ss:=by (simp only [List.map,St.look,St.ev,lk,AA,AO,Ah,Ag,reduceIte,Nat.reduceAdd,Nat.reduceEqDiff,Nat.reduceMul]<;>rfl)) (h1:Jv (AA m) fz:=by (simp [Jv,AA,ED])) (h2:Ju τ (DZ (AA m) fz) (Bj m0) m0:=by (simp [Ju,Aa,AX,isLive,AZ,Bj,AA,DZ,BO,BN,Al,BL,BP,BS,BQ,BR,ED])) (h3:(τ.map (·.2)).Nodup:=by decide) (h4:τ.all (fun p=>(m0.map (·.1)).contains p.1)=true:=by rfl) (h5:(m0.map (·.1)).Nodup:=by (simp))
  (h6:Aa (AZ τ) (DZ (AA m) fz) (Bj m0) args ss:=by (simp [Aa,AX,isLive,AZ,Bj,AA,DZ,BO,BN,Al,BL,BP,BS,BQ,BR,ED])) (h7:Ez (AA m) τ mem rt:=by (simp [Ez,AA,AZ])) (h8:(mem.map (·.1)).Nodup:=by (simp)) (h9:rt.Nodup:=by decide) (h10:∀ t ∈ rt,t ∉ fz:=by decide)
  (hv:dX (Bj mem) (Fa (AA m) mem rt) res=v:=by (simp only [dX,FQ,Dq,Ht BL,Fa,Lv,iU,Bj,AA,List.map,reduceIte,Nat.reduceEqDiff,Nat.reduceAdd,Nat.reduceLeDiff]<;>rfl)) (hm:Ug (OA m) (PZ (AA m) fz τ mem rt)=m':=by (simp only [Ug,PZ,Ik,drops,puts,FQ,Dq,Ht BL,Fa,Lv,iU,Bj,AA,OA,NH,List.map,List.nil_append,List.cons_append,List.append_nil,Option.map_some,Option.getD_some,reduceIte,Nat.reduceEqDiff,Nat.reduceAdd,Nat.reduceLeDiff]<;>rfl)) (hP:cx.P=P:=by assumption) (hn:cx.n=N:=by assumption) (hd:d < N:=by decide) (hgd:G8 ops ⟨lk l,AA m⟩ gd:=by (first | exact trivial | exact ⟨_,rfl,by (simp only [lk,reduceIte,Nat.reduceEqDiff])⟩)) :
  Chain cx ops (⟨some d,.call { callee:=.value (.func f),args:=oa,argTypes:=ts },ty,p,af,gd⟩ :: rest) ⟨lk l,AA m⟩ K:=by
 subst hP;subst hn;subst hs
 have hg':cx.Good -> True:=fun _=>trivial
 refine ⟨(PK d ⟨lk l,AA m⟩ fz τ res mem rt).app ⟨lk l,AA m⟩,Fe hgd (.sem fun hg a w h=>Rb hg h rfl (pre:=[]) (caps:=[]) (args:=args) rfl ⟨h1,h2,h3,fun p hp=>?_,h5,h6,h7,h8,h9,h10⟩ (by simpa using hc) rfl hd),?_⟩
 ·have:=List.all_eq_true.1 h4 p hp
  simpa using this
 ·have:(PK d ⟨lk l,AA m⟩ fz τ res mem rt).app ⟨lk l,AA m⟩=⟨lk ((d,v) :: l),AA m'⟩:=by
   simp only [PK,Eff.app,if_true,Er,Mg,EY,hv,hm]
  rw [this]
  exact kk
end
theorem CB {cx:Cx} {c:Code} {K:Exit -> St -> Prop} {args:List SV} {m0:List (Nat × Au)} {l:List (Nat × SV)} {m:List (Nat × Nat × Option Au)} (k:EF cx c K ⟨lk l,AA m⟩) (h1:Nt 0 args=l:=by (simp only [Nt,Nat.reduceAdd]<;>rfl)) (h2:(m0.map fun p=>(p.1,0,some p.2))=m:=by (simp only [List.map]<;>rfl)):EF cx c K ⟨lk (Nt 0 args),Bj m0⟩:=by
 subst h1;subst h2;exact k
theorem xg {P:Program} {rv:List ResultVar} {S:St} {x:Exit} {res ss:List SV} {mem:List (Nat × Au)} (τ:List (Nat × Nat)) (he:x=.normal \/ x=.ret:=by (first | exact .inr rfl | exact .inl rfl)) (hs:DX P S rv=some ss:=by (simp only [DX,lk,Option.map_some,reduceIte,Nat.reduceEqDiff]<;>rfl))
  (h1:Aa (AZ τ) S.M (Bj mem) res ss:=by (simp [Aa,AX,isLive,AZ,Bj,AA,DZ,BO,BN,Al,BL,BP,BS,BQ,BR,ED])) (h2:Cm (AZ τ) S (Bj mem) (mem.map fun p=>(p.1,0,some p.2)):=by (simp [Cm,Ar,Aa,AX,isLive,AZ,Bj,AA,DZ,BO,BN,Al,BL,BP,BS,BQ,BR,ED])) (h3:(τ.map (·.2)).Nodup:=by decide):YL P rv ⟨res,Bj mem⟩ x S:=fZ τ he hs h1 h2 h3
abbrev je (i:Nat) (L:List Int):Au:=⟨L.map fun q=>.dv (.int .i64 q),1,3,100003+i,true⟩
end Go.Ab
set_option linter.unusedVariables false
namespace Go.Ab
open Go.RowKit
section
variable {cx:Cx} {S:St} {a:Act} {w:World} {o:Oper}
end
section
variable {cx:Cx} {P:Program} {N:Nat} {ops:Array Oper} {rest:List Oper} {l:List (Nat × SV)} {m m':List (Nat × Nat × Option Au)} {K:St -> Prop}
 {ty:TypeId} {p:String} {af:Array Edge} {gd:Option (Nat × Bool)} {x:Operand} {t e:TypeId} {tg g off n st:Nat} {k:IntKind} {L:List Int}
end
end Go.Ab
set_option linter.unusedVariables false
namespace Go.Ab
open Go.RowKit
section
variable {cx:Cx} {S:St}
theorem RB {a:Act} {w:World} {μ:Nat -> Option (Nat × Nat)} (hg:cx.Good) (h:BJ cx S a w μ) {s:SV} {d:DV} (hD:Data (fun st=>st=1) (fun _=>True) S.M s d) (v:Value) (hv:AJ w S.M μ (XX cx S.M μ) s v):Bn w (XX cx S.M μ) d v :=
 Data.rep h (Y:=XX cx S.M μ) (fun t g blk b cap e hst hm hx=>by
  rcases hx with ⟨t',g',Aj,cap',e',ho,hm'⟩ | hx
  ·by_cases ht:t'=t
   ·subst ht
    rw [e] at e'
    cases e'
    simp [ED,hst] at ho
   ·have:=h.uniq t' g' Aj t g blk b cap' cap ht e' e ho hm' hm
    omega
  ·rcases (h.place t g blk b cap e hm).1 with h1 | h1
   ·have:=(hg.1 b hx).1;omega
   ·exact (hg.1 b hx).2 h1) (fun _ _ _ hr=>hr) hD v hv
theorem Le.sink (hg:cx.Good) {i:Nat} {d:DV} (hD:Data (fun st=>st=1) (fun _=>True) S.M (S.F i) d):Le cx S ⟨upd S.F i (.dv d),S.M⟩:=by
 rintro a w ⟨μ,h⟩
 refine ⟨μ,⟨h.blk,fun j=>?_,h.place,h.uniq,h.Ei,h.below,h.size,h.defers⟩⟩
 show AJ w S.M μ _ (upd S.F i (.dv d) j) _
 by_cases hj:j=i
 ·subst hj
  rw [upd_same]
  exact RB hg h hD _ (h.slot j)
 ·rw [upd_ne _ _ _ _ hj]
  exact h.slot j
def Md (M:Nat -> Nat × Option Au):List SV -> List SV -> Prop
 | [],[]=>True
 | c :: cs,c' :: cs'=>(c'=c \/ ∃ d,c'=.dv d /\ Data (fun st=>st=1) (fun _=>True) M c d) /\ Md M cs cs'
 | _,_=>False
theorem Ke {M:Nat -> Nat × Option Au}:∀ {cs cs':List SV},Md M cs cs' -> cs'.length=cs.length
 | [],[],_=>rfl
 | c :: cs,c' :: cs',h=>by simp [Ke h.2]
 | [],_ :: _,h=>h.elim
 | _ :: _,[],h=>h.elim
theorem TD {M:Nat -> Nat × Option Au}:∀ {cs cs':List SV} (h:Md M cs cs') (j:Nat) (c':SV),cs'[j]?=some c' -> ∃ c,cs[j]?=some c /\ (c'=c \/ ∃ d,c'=.dv d /\ Data (fun st=>st=1) (fun _=>True) M c d)
 | [],[],_,j,c',hj=>by simp at hj
 | c :: cs,e :: cs',h,0,c',hj=>by
  simp only [List.getElem?_cons_zero,Option.some.injEq] at hj
  subst hj
  exact ⟨c,rfl,h.1⟩
 | c :: cs,e :: cs',h,j+1,c',hj=>by
  simp only [List.getElem?_cons_succ] at hj ⊢
  exact TD h.2 j c' hj
 | [],_ :: _,h,_,_,_=>h.elim
 | _ :: _,[],h,_,_,_=>h.elim
theorem QT {M:Nat -> Nat × Option Au}:∀ cs:List SV,Md M cs cs
 | []=>trivial
 | c :: cs=>⟨.inl rfl,QT cs⟩
theorem TF {M:Nat -> Nat × Option Au}:∀ {a a' b b':List SV},Md M a a' -> Md M b b' -> Md M (a ++ b) (a' ++ b')
 | [],[],b,b',_,h=>h
 | c :: a,c' :: a',b,b',h,k=>⟨h.1,TF h.2 k⟩
 | [],_ :: _,_,_,h,_=>h.elim
 | _ :: _,[],_,_,h,_=>h.elim
theorem Le.sinkB (hg:cx.Good) {t g:Nat} {b:Au} {cs:List SV} (h0:S.M t=(g,some b)) (hc:Md S.M b.cells cs):Le cx S ⟨S.F,upd S.M t (g,some { b with cells:=cs })⟩:=by
 rintro a w ⟨μ,h⟩
 have hM:∀ t' g' Aj,upd S.M t (g,some { b with cells:=cs }) t'=(g',some Aj) -> ∃ blk,S.M t'=(g',some blk) /\ Aj.st=blk.st /\ Aj.C8=blk.C8 /\ Aj.cells.length=blk.cells.length:=fun t' g' Aj e=>by
  by_cases ht:t'=t
  ·subst ht
   rw [upd_same] at e
   cases e
   exact ⟨b,h0,rfl,rfl,Ke hc⟩
  ·rw [upd_ne _ _ _ _ ht] at e
   exact ⟨Aj,e,rfl,rfl,rfl⟩
 have hgen:∀ t',(S.M t').1 <= (upd S.M t (g,some { b with cells:=cs }) t').1:=fun t'=>by
  by_cases ht:t'=t
  ·subst ht;rw [upd_same,h0];exact Nat.le_refl _
  ·rw [upd_ne _ _ _ _ ht];exact Nat.le_refl _
 have hk:∀ x,x < w.heap.size -> ¬ XX cx S.M μ x -> w.heap[x]?=w.heap[x]? /\ ¬ XX cx (upd S.M t (g,some { b with cells:=cs })) μ x:=fun x _ hx=>⟨rfl,fun ho=>hx (by
  rcases ho with ⟨t',g',Aj,cap,e,e2,e3⟩ | ho
  ·obtain ⟨blk,e4,e5,_⟩:=hM t' g' Aj e
   exact .inl ⟨t',g',blk,cap,e4,by rw [<- e5];exact e2,e3⟩
  ·exact .inr ho)⟩
 have hB:∀ t' g' Aj,upd S.M t (g,some { b with cells:=cs }) t'=(g',some Aj) -> g' <= (S.M t').1 -> ∃ blk,S.M t'=(g',some blk) /\ μ t'=μ t' /\ Aj.C8=blk.C8:=fun t' g' Aj e _=>by
  obtain ⟨blk,e1,_,e2,_⟩:=hM t' g' Aj e
  exact ⟨blk,e1,rfl,e2⟩
 refine ⟨μ,⟨fun t' g' Aj e=>?_,fun i=>AJ.mono (Nat.le_refl _) hk hgen hB _ _ (h.slot i),fun t' g' Aj x cap e hm=>?_,fun t1 g1 b1 t2 g2 b2 x cap cap' hne e1 e2 ho m1 m2=>?_,fun t' g' Aj e h3=>?_,h.below,h.size,h.defers⟩⟩
 ·by_cases ht:t'=t
  ·subst ht
   have e':upd S.M t' (g,some { b with cells:=cs }) t'=(g',some Aj):=e
   rw [upd_same] at e'
   cases e'
   have hb:=h.blk t' g b h0
   unfold Bt at hb ⊢
   cases hm:μ t' with
   | none =>
    rw [hm] at hb
    obtain ⟨q1,q2⟩:=hb
    refine ⟨?_,q2⟩
    have:=Ke hc
    rw [q1] at this
    exact List.eq_nil_of_length_eq_zero this
   | some p =>
    rw [hm] at hb
    obtain ⟨cur,q1,q2,q3,q4,q5⟩:=hb
    have hl:=Ke hc
    refine ⟨cur,q1,by show cs.length <= _;omega,fun j c u hj hu=>?_,q4,fun hr=>by show cs.length=_;rw [hl];exact q5 hr⟩
    obtain ⟨c0,hc0,h1⟩:=TD hc j c hj
    have q:=q3 j c0 u hc0 hu
    rcases h1 with rfl | ⟨d,rfl,hD⟩
    ·exact AJ.mono (Nat.le_refl _) hk hgen hB _ _ q
    ·exact (RB hg h hD u q).mono (Nat.le_refl _) hk
  ·have e':upd S.M t (g,some { b with cells:=cs }) t'=(g',some Aj):=e
   rw [upd_ne _ _ _ _ ht] at e'
   exact Bt.mono (st:=Aj.st) (Nat.le_refl _) hk hgen hB rfl (fun _ _ _=>rfl) (h.blk t' g' Aj e')
 ·obtain ⟨blk,e1,_⟩:=hM t' g' Aj e
  exact h.place t' g' blk x cap e1 hm
 ·obtain ⟨c1,e3,e4,_,e5⟩:=hM t1 g1 b1 e1
  obtain ⟨c2,e6,e7,_,e8⟩:=hM t2 g2 b2 e2
  rw [e7,e5,e8]
  exact h.uniq t1 g1 c1 t2 g2 c2 x cap cap' hne e3 e6 (by rw [<- e4];exact ho) m1 m2
 ·obtain ⟨blk,e1,e2,_⟩:=hM t' g' Aj e
  rw [e2] at h3 ⊢
  exact h.Ei t' g' blk e1 h3
end
section
variable {cx:Cx} {c:Code} {K:Exit -> St -> Prop} {l:List (Nat × SV)} {m:List (Nat × Nat × Option Au)}
theorem Dz (t:Nat) {g:Nat} {b:Au} (k:EF cx c K ⟨lk l,AA ((t,g,some { b with st:=1 }) :: m)⟩) (h0:AA m t=(g,some b):=by (simp only [AA,reduceIte,Nat.reduceEqDiff]<;>rfl)) (h1:ED b.st \/ b.st=1:=by (first | exact .inl (.inl rfl) | exact .inr rfl)):EF cx c K ⟨lk l,AA m⟩:=by
 refine EF.le (Le.freeze (S:=⟨lk l,AA m⟩) h0 h1) ?_
 rw [EM];exact k
theorem KW (i:Nat) {d:DV} (hD:Data (fun st=>st=1) (fun _=>True) (AA m) (lk l i) d) (hg:cx.Good) (k:EF cx c K ⟨lk ((i,.dv d) :: l),AA m⟩):EF cx c K ⟨lk l,AA m⟩:=by
 refine EF.le (Le.sink (S:=⟨lk l,AA m⟩) hg hD) ?_
 show EF cx c K ⟨upd (lk l) i (.dv d),AA m⟩
 rw [EY];exact k
theorem gP (t:Nat) {g:Nat} {b:Au} {cs:List SV} (h0:AA m t=(g,some b)) (hc:Md (AA m) b.cells cs) (hg:cx.Good) (k:EF cx c K ⟨lk l,AA ((t,g,some { b with cells:=cs }) :: m)⟩):EF cx c K ⟨lk l,AA m⟩:=by
 refine EF.le (Le.sinkB (S:=⟨lk l,AA m⟩) hg h0 hc) ?_
 show EF cx c K ⟨lk l,upd (AA m) t _⟩
 rw [EM];exact k
end
end Go.Ab
