/- Ab27, Ab28, Ab29, Ab30, Ab31, Ab32. -/
import Derived.Test.YtjcecljhjailiaaGreatDoorBogG09
set_option linter.unusedVariables false
namespace Go.Ab
open Go.RowKit
def valOf (us:List Value):Value:=if h:us.toArray.size=1 then us.toArray[0] else .tuple us.toArray
structure aG (w:World) (X:Nat -> Prop) (Pl:Nat -> Prop) (loc:Nat -> Option (Nat × Nat)) (M:Nat -> Nat × Option BG) (μ:Nat -> Option (Nat × Nat)):Prop where
 blk:∀ t g blk,M t=(g,some blk) -> CP w M μ X t blk
 place:∀ t g blk b cap,M t=(g,some blk) -> μ t=some (b,cap) -> Pl b /\ b < w.heap.size
 uniq:∀ t g blk t' g' Ay b cap cap',t ≠ t' -> M t=(g,some blk) -> M t'=(g',some Ay) -> Dv blk.st -> μ t=some (b,cap) -> μ t'=some (b,cap') -> Ay.st=2 /\ Ay.cells.length <= blk.cells.length
 FQ:∀ t g blk,M t=(g,some blk) -> 3 <= blk.st -> μ t=loc (blk.st - 3)
structure qz where
 res:List SV
 mem:Nat -> Nat × Option BG
def Aw (P:Program) (f:FuncId) (args:List SV) (M0:Nat -> Nat × Option BG) (Y:qz):Prop :=
 F8 P f /\ ∀ (w:World) (X0 Wr:Nat -> Prop) (loc μ:Nat -> Option (Nat × Nat)) (vs:List Value),
  (∀ b,X0 b -> b < w.heap.size /\ ¬ Wr b) -> Laid w -> (∀ g,Vz g -> ¬ X0 g /\ ¬ Wr g) -> aG w (fun b=>Own (M0) μ b \/ X0 b) Wr loc (M0) μ -> Ao w (M0) μ (fun b=>Own (M0) μ b \/ X0 b) args vs →
  Calls P f vs.toArray w fun e w'=>∃ (us:List Value) (μ':Nat -> Option (Nat × Nat)),e=.returned (valOf us) /\ ED Wr w w' ∧
   aG w' (fun b=>Own Y.mem μ' b \/ X0 b) (fun b=>w.heap.size <= b \/ Wr b) loc Y.mem μ' /\ Ao w' Y.mem μ' (fun b=>Own Y.mem μ' b \/ X0 b) Y.res us
def PY:Nat -> List SV -> List (Nat × SV)
 | _,[]=>[]
 | n,s :: ss=>(n,s) :: PY (n+1) ss
theorem Rx:∀ (ss:List SV) (n i:Nat),lk (PY n ss) i=if n <= i then (ss[i - n]?).getD .dead else .dead
 | [],n,i=>by simp [PY,lk]
 | s :: ss,n,i=>by
  simp only [PY,lk,Rx ss (n+1) i]
  by_cases h:i=n
  ·subst h;simp
  ·by_cases h2:n <= i
   ·have:n+1 <= i:=by omega
    have e:i - n=(i - (n+1))+1:=by omega
    simp only [h,if_false,this,if_true,h2,e,List.getElem?_cons_succ]
   ·have:¬ n+1 <= i:=by omega
    simp [h,this,h2]
def aH (P:Program) (rv:List ResultVar) (Y:qz):Exit -> St -> Prop:=fun e S =>
 (e=.normal \/ e=.ret) /\ ∃ ss,Dh P S rv=some ss /\ ∃ τ:Nat -> Option Nat,Ae τ S.M Y.mem Y.res ss /\ (∀ t' g' b',Y.mem t'=(g',some b') -> Al τ S.M Y.mem t' b') /\ (∀ t1 t2 t,τ t1=some t -> τ t2=some t -> t1=t2)
theorem Lf {cx:Cx} {S:St} {a:Act} {w:World} {μ:Nat -> Option (Nat × Nat)} (h:Bc cx S a w μ) {fn:Func} {ss:List SV} (hr:Dh cx.P S fn.results.toList=some ss) :
  ∃ us,(results fn a.tmps).run cx.P w=.ok (valOf us) w /\ Ao w S.M μ (XX cx S.M μ) ss us:=by
 obtain ⟨us,h1,h2⟩:=JO h _ ss hr
 refine ⟨us,?_,h2⟩
 show (do let vs <- fn.results.mapM (Sd a.tmps);pure (if hh:vs.size=1 then vs[0] else .tuple vs):Sem Value).run cx.P w=_
 rw [Array.mapM_eq_mapM_toList]
 simp [h1,valOf]
theorem DC {P:Program} {f:FuncId} {fn:Func} {c:Code} {args:List SV} {M0:Nat -> Nat × Option BG} {Y:qz} (hf:P.funcs[f]?=some fn) (hb:fn.body=some c) (hname:(fn.name == "runtime.NumGoroutine")=false) (hn:args.length <= fn.ntmps)
  (h:∀ cx:Cx,cx.P=P -> cx.n=fn.ntmps -> cx.Good -> Eu cx c (aH P fn.results.toList Y) ⟨lk (PY 0 args),M0⟩):Aw P f args M0 Y:=by
 refine ⟨Im hf hb hname,fun w X0 Wr loc μ vs hX hLd hLk hM hV=>callsIn_wide.1 (callsIn_of_wp (F:=Fence.wide) (n:=0) hf hb trivial ?_)⟩
 have hl:=hV.length
 have hs:Bc { P:=P,w0:=w,n:=fn.ntmps,Wr:=Wr,X0:=X0,loc:=loc } ⟨lk (PY 0 args),M0⟩ { tmps:=vs.toArray ++ Array.replicate (fn.ntmps - vs.toArray.size) undef,defers:=[] } w μ:=by
  refine ⟨hM.blk,fun i=>?_,fun t g blk b cap e hm=>⟨.inr (hM.place t g blk b cap e hm).1,(hM.place t g blk b cap e hm).2⟩,hM.uniq,hM.FQ,ED.refl _ _,?_,rfl⟩
  ·show AO w (M0) μ _ (lk (PY 0 args) i) _
   rw [Rx]
   simp only [Nat.zero_le,if_true,Nat.sub_zero]
   rcases Nat.lt_or_ge i args.length with hi | hi
   ·have hi':i < vs.length:=by omega
    rw [List.getElem?_eq_getElem hi]
    have e:(vs.toArray ++ Array.replicate (fn.ntmps - vs.toArray.size) undef).getD i undef=vs[i]:=by simp [Array.getElem?_append_left,hi']
    rw [e]
    exact hV.get i args[i] vs[i] (by simp [hi]) (by simp [hi'])
   ·rw [List.getElem?_eq_none hi]
    trivial
  ·show (vs.toArray ++ Array.replicate (fn.ntmps - vs.toArray.size) undef).size=fn.ntmps
   rw [Array.size_append,Array.size_replicate,List.size_toArray]
   omega
 have hgood:({ P:=P,w0:=w,n:=fn.ntmps,Wr:=Wr,X0:=X0,loc:=loc }:Cx).Good:=⟨hX,hLd,hLk⟩
 refine wpIn_mono (h _ rfl rfl hgood _ w ⟨_,hs⟩) ?_
 rintro e a' w' (⟨S',⟨Wd,h1⟩,he,ss,e1,τ,e2,e3,e4⟩ | ⟨_,hf⟩)
 rotate_left
 ·exact (show False from hf).elim
 obtain ⟨us,r1,r2⟩:=Lf (fn:=fn) h1 e1
 have h2:=Pp (S':=⟨fun _=>.dead,Y.mem⟩) hgood h1 (τ:=τ) (fun i=>by simp only [Aa]) e3 e4
 have hX2:∀ b,XX { P:=P,w0:=w,n:=fn.ntmps,Wr:=Wr,X0:=X0,loc:=loc } Y.mem (Bt τ Wd) b -> XX { P:=P,w0:=w,n:=fn.ntmps,Wr:=Wr,X0:=X0,loc:=loc } S'.M Wd b:=by
  rintro b (⟨t',g',b',cap,f1,f2,f3⟩ | hx)
  ·have hb:=e3 t' g' b' f1
   unfold Al at hb
   unfold Bt at f3
   cases Uy:τ t' with
   | none=>rw [Uy] at f3;cases f3
   | some t =>
    rw [Uy] at hb f3
    obtain ⟨blk,q1,q2,q3,q4,q5⟩:=hb
    exact .inl ⟨t,(S'.M t).1,blk,cap,by rw [<- q1],by rw [<- q4];exact f2,f3⟩
  ·exact .inr hx
 have r3:=H9 hgood h1 (M':=Y.mem) (Me e3) (X':=XX { P:=P,w0:=w,n:=fn.ntmps,Wr:=Wr,X0:=X0,loc:=loc } Y.mem (Bt τ Wd)) hX2 _ _ _ e2 r2
 have fin:(results fn a'.tmps).run P w'=.ok (valOf us) w' /\ ∃ (us':List Value) (μ':Nat -> Option (Nat × Nat)),Ending.returned (valOf us)=.returned (valOf us') /\ ED Wr w w' ∧
   aG w' (fun b=>Own Y.mem μ' b \/ X0 b) (fun b=>w.heap.size <= b \/ Wr b) loc Y.mem μ' /\ Ao w' Y.mem μ' (fun b=>Own Y.mem μ' b \/ X0 b) Y.res us' :=
  ⟨r1,us,Bt τ Wd,rfl,h1.below,⟨h2.blk,h2.place,h2.uniq,h2.FQ⟩,r3⟩
 rcases he with rfl | rfl<;>exact ⟨h1.defers,valOf us,fin.1,fin.2⟩
theorem jq {P:Program} {rv:List ResultVar} {res:List SV} {mem:List (Nat × Nat × Option BG)} {e:Exit} {S:St} {ss:List SV} (τ:List (Nat × Nat)) (he:e=.normal \/ e=.ret) (hs:Dh P S rv=some ss) (h1:Ae (Ac τ) S.M (AA mem) res ss) (h2:CV (Ac τ) S (AA mem) mem)
  (h3:(τ.map (·.2)).Nodup):aH P rv ⟨res,AA mem⟩ e S:=⟨he,ss,hs,Ac τ,h1,Rw h2,SG h3⟩
end Go.Ab
set_option linter.unusedVariables false
namespace Go.Ab
open Go.RowKit
mutual
def GV (N:Nat -> Nat × Option BG) (ρ:Nat -> Option (Nat × Nat)):SV -> SV
 | .sl e g off n=>match ρ e with | some (t,gen)=>if (N e).1=g then .sl t gen off n else .dead | none=>.dead
 | .pt e g off=>match ρ e with | some (t,gen)=>if (N e).1=g then .pt t gen off else .dead | none=>.dead
 | .agg cs=>.agg (EO N ρ cs)
 | .FR cs=>.FR (EO N ρ cs)
 | .dead=>.dead
 | .dv d=>.dv d
 | .Bw=>.Bw
 | .emp b=>.emp b
def EO (N:Nat -> Nat × Option BG) (ρ:Nat -> Option (Nat × Nat)):List SV -> List SV
 | []=>[]
 | c :: cs=>GV N ρ c :: EO N ρ cs
end
theorem J3 (N:Nat -> Nat × Option BG) (ρ:Nat -> Option (Nat × Nat)):∀ cs:List SV,EO N ρ cs=cs.map (GV N ρ)
 | []=>by simp [EO]
 | c :: cs=>by simp [EO,J3 N ρ cs]
theorem J4 {N:Nat -> Nat × Option BG} {ρ:Nat -> Option (Nat × Nat)} {cs:List SV} (h:Af cs=true):EO N ρ cs=cs:=by
 rw [J3]
 have h2:=ES.1 h
 induction cs with
 | nil=>rfl
 | cons c cs ih =>
  obtain ⟨d,rfl⟩:=h2 c (by simp)
  rw [List.map_cons,ih (ES.2 fun c hc=>h2 c (by simp [hc])) (fun c hc=>h2 c (by simp [hc]))]
  simp [GV]
section
variable {w:World} {N M:Nat -> Nat × Option BG} {ν μ:Nat -> Option (Nat × Nat)} {X X':Nat -> Prop} {ρ:Nat -> Option (Nat × Nat)}
mutual
theorem eZ (hρ:∀ e t gen,ρ e=some (t,gen) -> (M t).1=gen /\ ∀ b',M t=(gen,some b') -> ∃ b,N e=((N e).1,some b) /\ b'.CS=b.CS /\ μ t=ν e) (hX:∀ b,X' b -> X b) :
  ∀ (c:SV) (v:Value),AO w N ν X c v -> AO w M μ X' (GV N ρ c) v
 | .dead,_,_=>by simp only [GV,AO]
 | .dv d,v,h=>by simp only [GV,AO] at h ⊢;exact h.weaken hX
 | .Bw,v,h=>by simpa only [GV,AO] using h
 | .emp b,v,h=>by simpa only [GV,AO] using h
 | .sl e g off n,v,h=>by
  simp only [GV]
  split
  ·rename_i t gen he
   split
   ·rename_i hg
    simp only [AO] at h ⊢
    obtain ⟨h1,h2⟩:=hρ e t gen he
    refine ⟨⟨h.1.1,by omega⟩,fun b' hb'=>?_⟩
    obtain ⟨b,q1,q2,q3⟩:=h2 b' hb'
    rw [hg] at q1
    have:=h.2 b q1
    rw [q3,q2]
    exact this
   ·simp only [AO]
  ·simp only [AO]
 | .pt e g off,v,h=>by
  simp only [GV]
  split
  ·rename_i t gen he
   split
   ·rename_i hg
    simp only [AO] at h ⊢
    obtain ⟨h1,h2⟩:=hρ e t gen he
    refine ⟨⟨h.1.1,by omega⟩,fun b' hb'=>?_⟩
    obtain ⟨b,q1,q2,q3⟩:=h2 b' hb'
    rw [hg] at q1
    rw [q3]
    exact h.2 b q1
   ·simp only [AO]
  ·simp only [AO]
 | .agg cs,v,h=>by
  simp only [GV,AO] at h ⊢
  obtain ⟨vs,rfl,hv⟩:=h
  exact ⟨vs,rfl,Si hρ hX cs vs hv⟩
 | .FR cs,v,h=>by
  simp only [GV,AO] at h ⊢
  obtain ⟨vs,rfl,hv⟩:=h
  exact ⟨vs,rfl,Si hρ hX cs vs hv⟩
theorem Si (hρ:∀ e t gen,ρ e=some (t,gen) -> (M t).1=gen /\ ∀ b',M t=(gen,some b') -> ∃ b,N e=((N e).1,some b) /\ b'.CS=b.CS /\ μ t=ν e) (hX:∀ b,X' b -> X b) :
  ∀ (cs:List SV) (vs:List Value),Ao w N ν X cs vs -> Ao w M μ X' (EO N ρ cs) vs
 | [],[],_=>by simp only [EO,Ao]
 | c :: cs,v :: vs,h=>by
  simp only [EO,Ao] at h ⊢
  exact ⟨eZ hρ hX c v h.1,Si hρ hX cs vs h.2⟩
 | [],_ :: _,h=>by simp only [Ao] at h
 | _ :: _,[],h=>by simp only [Ao] at h
end
end
def YD (τ:Nat -> Option Nat) (M1 M0:Nat -> Nat × Option BG):Prop :=
 (∀ t' g' b',M0 t'=(g',some b') -> b'.st=3+t' /\ ∃ t b,τ t'=some t /\ (M1 t).2=some b /\ Dv b.st /\ b'.CS=b.CS /\ b'.elem=b.elem /\ b'.row=b.row /\ Ae τ M1 M0 b'.cells b.cells) ∧
 (∀ t1 t2 t,τ t1=some t -> τ t2=some t -> t1=t2) /\ (∀ t' t,τ t'=some t -> ∃ g' b',M0 t'=(g',some b'))
structure dZ (τ:Nat -> Option Nat) (M1 N M2:Nat -> Nat × Option BG) (σ:Nat -> Option Nat) (ρ:Nat -> Option (Nat × Nat)):Prop where
 at_:∀ t e,σ t=some e -> ∃ b st gen,(N e).2=some b /\ M2 t=(gen,some { b with cells:=EO N ρ b.cells,st:=st }) /\ ρ e=some (t,gen) ∧
  ((3 <= b.st /\ τ (b.st - 3)=some t /\ ∃ b0,M1 t=(gen,some b0) /\ b0.st=st /\ b0.CS=b.CS) \/ (b.st < 2 /\ st=b.st /\ gen=(M1 t).1+1))
 off:∀ t,σ t=none -> (M2 t=C9 M1 t /\ ∀ t',τ t' ≠ some t) \/ M2 t=((M1 t).1,none)
 ren:∀ e t gen,ρ e=some (t,gen) -> σ t=some e
section
variable {cx:Cx} {S:St} {a:Act} {w w':World} {μ ν:Nat -> Option (Nat × Nat)} {M1 M0 N M2:Nat -> Nat × Option BG} {τ σ:Nat -> Option Nat} {ρ:Nat -> Option (Nat × Nat)}
theorem TL (hg:cx.Good) (h:Bc cx ⟨S.F,M1⟩ a w μ) (hL:YD τ M1 M0) :
  aG w (fun b=>Own M0 (Bt τ μ) b \/ (XX cx M1 μ b /\ ¬ Own M0 (Bt τ μ) b)) (Own M0 (Bt τ μ)) (Bt τ μ) M0 (Bt τ μ) ∧
  (∀ b,Own M0 (Bt τ μ) b -> XX cx M1 μ b /\ ∃ t g blk cap,M1 t=(g,some blk) /\ Dv blk.st /\ μ t=some (b,cap) /\ ∃ t',τ t'=some t) ∧
  (∀ (args ss:List SV) (vs:List Value),Ae τ M1 M0 args ss -> Ao w M1 μ (XX cx M1 μ) ss vs -> Ao w M0 (Bt τ μ) (fun b=>Own M0 (Bt τ μ) b \/ (XX cx M1 μ b /\ ¬ Own M0 (Bt τ μ) b)) args vs):=by
 obtain ⟨hL1,hL2,hL3⟩:=hL
 have hW:∀ b,Own M0 (Bt τ μ) b -> XX cx M1 μ b /\ ∃ t g blk cap,M1 t=(g,some blk) /\ Dv blk.st /\ μ t=some (b,cap) /\ ∃ t',τ t'=some t:=by
  rintro b ⟨t',g',b',cap,e1,e2,e3⟩
  obtain ⟨q0,t,b0,q1,q2,q3,_⟩:=hL1 t' g' b' e1
  have hm:μ t=some (b,cap):=by simpa [Bt,q1] using e3
  have hM:M1 t=((M1 t).1,some b0):=by rw [<- q2]
  exact ⟨.inl ⟨t,_,b0,cap,hM,q3,hm⟩,t,_,b0,cap,hM,q3,hm,t',q1⟩
 have hX:∀ b,(Own M0 (Bt τ μ) b \/ (XX cx M1 μ b /\ ¬ Own M0 (Bt τ μ) b)) -> XX cx M1 μ b:=fun b hb=>hb.elim (fun h1=>(hW b h1).1) (fun h1=>h1.1)
 have hrep:∀ (args ss:List SV) (vs:List Value),Ae τ M1 M0 args ss -> Ao w M1 μ (XX cx M1 μ) ss vs -> Ao w M0 (Bt τ μ) (fun b=>Own M0 (Bt τ μ) b \/ (XX cx M1 μ b /\ ¬ Own M0 (Bt τ μ) b)) args vs :=
  fun args ss vs h1 h2=>H9 hg h (M':=M0) (fun t' g' b' t e ht=>by
   obtain ⟨_,t2,b0,q1,q2,_,q3,_⟩:=hL1 t' g' b' e
   rw [ht] at q1
   obtain rfl:t=t2:=Option.some.inj q1
   exact ⟨b0,q2,q3⟩) hX _ _ _ h1 h2
 refine ⟨⟨fun t' g' b' e=>?_,fun t' g' b' b cap e hm=>?_,fun t1 g1 b1 t2 g2 b2 b c1 c2 hne e1 e2 hst m1 m2=>?_,fun t' g' b' e h3=>?_⟩,hW,hrep⟩
 ·obtain ⟨q0,t,b0,q1,q2,q3,q4,q5,q6,q7⟩:=hL1 t' g' b' e
  have hm:Bt τ μ t'=μ t:=by simp [Bt,q1]
  have hb:=h.blk t (M1 t).1 b0 (by show M1 t=_;rw [<- q2])
  unfold CP at hb ⊢
  rw [hm]
  cases hmt:μ t with
  | none =>
   rw [hmt] at hb
   have hl:=HV q7
   rw [hb.1] at hl
   exact ⟨List.eq_nil_of_length_eq_zero hl,by rw [q6];exact hb.2⟩
  | some p =>
   obtain ⟨b,cap⟩:=p
   rw [hmt] at hb
   obtain ⟨cur,r1,r2,r3,r4,r5⟩:=hb
   have hl:=HV q7
   refine ⟨cur,by rw [q5];exact r1,by omega,?_,fun hr=>by rw [q4];exact r4 (by rw [<- q6];exact hr),fun hr=>by rw [hl];exact r5 (by rw [<- q6];exact hr)⟩
   have hall:Ao w M1 μ (XX cx M1 μ) b0.cells (cur.toList.take b0.cells.length):=Ao.mk (by simp;omega) fun j c u hj hu=>by
    rw [List.getElem?_take] at hu
    split at hu
    ·exact r3 j c u hj (by simpa using hu)
    ·cases hu
   have h2:=hrep _ _ _ q7 hall
   intro j c u hj hu
   refine h2.get j c u hj ?_
   rw [List.getElem?_take]
   have:=(List.getElem?_eq_some_iff.1 hj).1
   rw [if_pos (by omega)]
   simpa using hu
 ·obtain ⟨q0,t,b0,q1,q2,q3,_⟩:=hL1 t' g' b' e
  refine ⟨⟨t',g',b',cap,e,by unfold Dv;omega,hm⟩,?_⟩
  have hmt:μ t=some (b,cap):=by simpa [Bt,q1] using hm
  exact (h.place t (M1 t).1 b0 b cap (by show M1 t=_;rw [<- q2]) hmt).2
 ·obtain ⟨_,t,b0,q1,q2,q3,_⟩:=hL1 t1 g1 b1 e1
  obtain ⟨_,t',b0',q1',q2',q3',_⟩:=hL1 t2 g2 b2 e2
  have n1:μ t=some (b,c1):=by simpa [Bt,q1] using m1
  have n2:μ t'=some (b,c2):=by simpa [Bt,q1'] using m2
  have hne':t ≠ t':=fun hh=>hne (hL2 t1 t2 t q1 (hh ▸ q1'))
  have:=(h.uniq t (M1 t).1 b0 t' (M1 t').1 b0' b c1 c2 hne' (by show M1 t=_;rw [<- q2]) (by show M1 t'=_;rw [<- q2']) q3 n1 n2).1
  unfold Dv at q3'
  omega
 ·obtain ⟨q0,_⟩:=hL1 t' g' b' e
  rw [q0]
  congr 1
  omega
theorem Zp (hg:cx.Good) (h:Bc cx ⟨S.F,M1⟩ a w μ) (hL:YD τ M1 M0) (hB:dZ τ M1 N M2 σ ρ) (hbel:ED (Own M0 (Bt τ μ)) w w')
  (hN:aG w' (fun b=>Own N ν b \/ (XX cx M1 μ b /\ ¬ Own M0 (Bt τ μ) b)) (fun b=>w.heap.size <= b \/ Own M0 (Bt τ μ) b) (Bt τ μ) N ν) :
  ∃ MF,Bc cx ⟨S.F,M2⟩ a w' MF /\ ∀ c v,AO w' N ν (fun b=>Own N ν b \/ (XX cx M1 μ b /\ ¬ Own M0 (Bt τ μ) b)) c v -> AO w' M2 MF (XX cx M2 MF) (GV N ρ c) v:=by
 obtain ⟨_,hW,_⟩:=TL hg h hL
 obtain ⟨hL1,hL2,hL3⟩:=hL
 let MF:Nat -> Option (Nat × Nat):=fun t=>match σ t with | some e=>ν e | none=>μ t
 have Oa:∀ {t e},σ t=some e -> MF t=ν e:=fun {t e} hs=>by simp only [MF,hs]
 have KW:∀ {t},σ t=none -> MF t=μ t:=fun {t} hs=>by simp only [MF,hs]
 have YB:∀ {e b},(N e).2=some b -> N e=((N e).1,some b):=fun {e b} hh=>by rw [<- hh]
 -- what is left of the caller's own tags
 have rest:∀ t g blk,σ t=none -> M2 t=(g,some blk) -> M1 t=(g,some blk) /\ blk.st ≠ 2 /\ (∀ t',τ t' ≠ some t):=by
  intro t g blk hs e
  rcases hB.off t hs with ⟨h1,h2⟩ | h1
  ·rw [h1] at e
   unfold C9 at e
   split at e
   ·rename_i b'' cK
    split at e
    ·cases e
    ·rename_i hne
     refine ⟨e,?_,h2⟩
     rw [e] at cK
     simp only [Option.some.injEq] at cK
     rw [cK];exact hne
   ·rename_i hn
    rw [e] at hn;cases hn
  ·rw [h1] at e;simp at e
 have lX:∀ t g blk b cap,σ t=none -> M2 t=(g,some blk) -> μ t=some (b,cap) -> ¬ Own M0 (Bt τ μ) b:=by
  intro t g blk b cap hs e hm hw
  obtain ⟨h1,h2,h3⟩:=rest t g blk hs e
  obtain ⟨_,t0,g0,b0,c0,f1,f2,f3,t',f4⟩:=hW b hw
  have hne:t0 ≠ t:=fun hh=>h3 t' (hh ▸ f4)
  exact h2 (h.uniq t0 g0 b0 t g blk b c0 cap hne f1 h1 f2 f3 hm).1
 have hX0:∀ b,cx.X0 b -> ¬ Own M0 (Bt τ μ) b:=by
  intro b hx hw
  obtain ⟨_,t0,g0,b0,c0,f1,f2,f3,_⟩:=hW b hw
  have:=(h.place t0 g0 b0 b c0 f1 f3).1
  have h0:=hg.1 b hx
  rcases this with h1 | h1
  ·omega
  ·exact h0.2 h1
 -- what is owned behind the call
 have own:∀ b,Own M2 MF b -> Own N ν b \/ (Own M1 μ b /\ ¬ Own M0 (Bt τ μ) b):=by
  rintro b ⟨t,g,blk,cap,e1,e2,e3⟩
  cases hs:σ t with
  | some e =>
   obtain ⟨be,st,gen,q1,q2,q3,q4⟩:=hB.at_ t e hs
   rw [Oa hs] at e3
   rw [q2] at e1
   simp only [Prod.mk.injEq,Option.some.injEq] at e1
   obtain ⟨_,rfl⟩:=e1
   refine .inl ⟨e,(N e).1,be,cap,YB q1,?_,e3⟩
   rcases q4 with ⟨h3,_⟩ | ⟨h3,h4,_⟩
   ·exact .inr h3
   ·simp only at e2;rw [h4] at e2;exact e2
  | none =>
   obtain ⟨h1,_⟩:=rest t g blk hs e1
   rw [KW hs] at e3
   exact .inr ⟨⟨t,g,blk,cap,h1,e2,e3⟩,lX t g blk b cap hs e1 e3⟩
 have hXX:∀ b,XX cx M2 MF b -> Own N ν b \/ (XX cx M1 μ b /\ ¬ Own M0 (Bt τ μ) b):=by
  rintro b (h1 | h1)
  ·rcases own b h1 with h2 | ⟨h2,h3⟩
   ·exact .inl h2
   ·exact .inr ⟨.inl h2,h3⟩
  ·exact .inr ⟨.inr h1,hX0 b h1⟩
 have hs:w.heap.size <= w'.heap.size:=hbel.size
 have hk:∀ b,b < w.heap.size -> ¬ XX cx M1 μ b -> w'.heap[b]?=w.heap[b]? /\ ¬ XX cx M2 MF b:=by
  intro b hb hx
  have hnw:¬ Own M0 (Bt τ μ) b:=fun hw=>hx (hW b hw).1
  refine ⟨hbel.block b hb hnw,fun hx2=>?_⟩
  rcases hXX b hx2 with ⟨e,g,blk,cap,f1,f2,f3⟩ | ⟨h2,_⟩
  ·rcases (hN.place e g blk b cap f1 f3).1 with h3 | h3
   ·omega
   ·exact hnw h3
  ·exact hx h2
 have oV:∀ t,(M1 t).1 <= (M2 t).1:=by
  intro t
  cases hs:σ t with
  | some e =>
   obtain ⟨be,st,gen,q1,q2,q3,q4⟩:=hB.at_ t e hs
   rw [q2]
   rcases q4 with ⟨_,_,b0,h4,_⟩ | ⟨_,_,h4⟩
   ·rw [h4];exact Nat.le_refl _
   ·rw [h4];exact Nat.le_succ _
  | none =>
   rcases hB.off t hs with ⟨h1,_⟩ | h1
   ·rw [h1]
    unfold C9
    split
    ·split<;>exact Nat.le_refl _
    ·exact Nat.le_refl _
   ·rw [h1];exact Nat.le_refl _
 have hBm:∀ t g Ay,M2 t=(g,some Ay) -> g <= (M1 t).1 -> ∃ blk,M1 t=(g,some blk) /\ MF t=μ t /\ Ay.CS=blk.CS:=by
  intro t g Ay e hle
  cases hs:σ t with
  | some e' =>
   obtain ⟨be,st,gen,q1,q2,q3,q4⟩:=hB.at_ t e' hs
   rw [q2] at e
   simp only [Prod.mk.injEq,Option.some.injEq] at e
   obtain ⟨rfl,rfl⟩:=e
   rcases q4 with ⟨h3,h5,b0,h4,h6,h7⟩ | ⟨_,_,h4⟩
   ·refine ⟨b0,h4,?_,h7.symm⟩
    rw [Oa hs,hN.FQ e' _ be (YB q1) h3]
    simp [Bt,h5]
   ·omega
  | none =>
   obtain ⟨h1,_⟩:=rest t g Ay hs e
   exact ⟨Ay,h1,KW hs,rfl⟩
 have hρ:∀ e t gen,ρ e=some (t,gen) -> (M2 t).1=gen /\ ∀ b',M2 t=(gen,some b') -> ∃ b,N e=((N e).1,some b) /\ b'.CS=b.CS /\ MF t=ν e:=by
  intro e t gen he
  have hs:=hB.ren e t gen he
  obtain ⟨be,st,gen',q1,q2,q3,q4⟩:=hB.at_ t e hs
  rw [he] at q3
  simp only [Option.some.injEq,Prod.mk.injEq,true_and] at q3
  subst q3
  refine ⟨by rw [q2],fun b' hb'=>⟨be,YB q1,?_,Oa hs⟩⟩
  rw [q2] at hb'
  simp only [Prod.mk.injEq,Option.some.injEq,true_and] at hb'
  rw [<- hb']
 have A2O:=eZ (w:=w') (N:=N) (M:=M2) (ν:=ν) (μ:=MF) (X:=fun b=>Own N ν b \/ (XX cx M1 μ b /\ ¬ Own M0 (Bt τ μ) b)) (X':=XX cx M2 MF) hρ hXX
 refine ⟨MF,⟨fun t g blk e=>?_,fun i=>AO.mono hs hk oV hBm _ _ (h.slot i),fun t g blk b cap e hm=>?_,fun t1 g1 b1 t2 g2 b2 b c1 c2 hne e1 e2 s1 m1 m2=>?_,fun t g blk e h3=>?_,?_,h.size,h.defers⟩,A2O⟩
 ·change M2 t=_ at e
  show CP w' M2 MF (XX cx M2 MF) t blk
  cases hσ:σ t with
  | some e' =>
   obtain ⟨be,st,gen,q1,q2,q3,q4⟩:=hB.at_ t e' hσ
   rw [q2] at e
   simp only [Prod.mk.injEq,Option.some.injEq] at e
   obtain ⟨_,rfl⟩:=e
   have hb:=hN.blk e' _ be (YB q1)
   unfold CP at hb ⊢
   rw [Oa hσ]
   cases hm:ν e' with
   | none =>
    rw [hm] at hb
    exact ⟨by rw [hb.1];simp [EO],hb.2⟩
   | some p =>
    obtain ⟨b,cap⟩:=p
    rw [hm] at hb
    obtain ⟨cur,r1,r2,r3,r4,r5⟩:=hb
    have hlen:(EO N ρ be.cells).length=be.cells.length:=by rw [J3];simp
    refine ⟨cur,r1,by simp only [hlen];exact r2,fun j c u hc hu=>?_,r4,fun hr=>by simp only [hlen];exact r5 hr⟩
    simp only [J3,List.getElem?_map,Option.map_eq_some_iff] at hc
    obtain ⟨c0,hc0,rfl⟩:=hc
    exact A2O c0 u (r3 j c0 u hc0 hu)
  | none =>
   obtain ⟨h1,h2,h3⟩:=rest t g blk hσ e
   have hb:=h.blk t g blk h1
   refine CP.mono (st:=blk.st) hs hk oV hBm (KW hσ) (fun b cap hm=>hbel.block b ?_ (lX t g blk b cap hσ e hm)) hb
   exact (h.place t g blk b cap h1 hm).2
 ·change M2 t=_ at e
  cases hσ:σ t with
  | some e' =>
   obtain ⟨be,st,gen,q1,q2,q3,q4⟩:=hB.at_ t e' hσ
   have hm':ν e'=some (b,cap):=(Oa hσ).symm.trans hm
   obtain ⟨p1,p2⟩:=hN.place e' _ be b cap (YB q1) hm'
   refine ⟨?_,p2⟩
   rcases p1 with p1 | p1
   ·exact .inl (Nat.le_trans h.below.size p1)
   ·obtain ⟨_,t0,g0,b0,c0,f1,f2,f3,_⟩:=hW b p1
    exact (h.place t0 g0 b0 b c0 f1 f3).1
  | none =>
   obtain ⟨h1,_⟩:=rest t g blk hσ e
   have:=h.place t g blk b cap h1 ((KW hσ).symm.trans hm)
   exact ⟨this.1,Nat.lt_of_lt_of_le this.2 hs⟩
 ·change M2 t1=_ at e1
  change M2 t2=_ at e2
  exfalso
  have bad:∀ t g blk e' c c',σ t=none -> M2 t=(g,some blk) -> MF t=some (b,c) -> ∀ be,(N e').2=some be -> ν e'=some (b,c') -> False:=by
   intro t g blk e' c c' hσ e hm be q1 hm'
   rcases (hN.place e' _ be b c' (YB q1) hm').1 with h3 | h3
   ·have:=(h.place t g blk b c (rest t g blk hσ e).1 ((KW hσ).symm.trans hm)).2
    omega
   ·exact lX t g blk b c hσ e ((KW hσ).symm.trans hm) h3
  cases h1:σ t1 with
  | some x1 =>
   obtain ⟨be1,st1,gen1,q1,q2,q3,q4⟩:=hB.at_ t1 x1 h1
   have n1:ν x1=some (b,c1):=(Oa h1).symm.trans m1
   have o1:Dv be1.st:=by
    rw [q2] at e1
    simp only [Prod.mk.injEq,Option.some.injEq] at e1
    obtain ⟨_,rfl⟩:=e1
    rcases q4 with ⟨h3,_⟩ | ⟨h3,h4,_⟩
    ·exact .inr h3
    ·simp only at s1;rw [h4] at s1;exact s1
   cases h2:σ t2 with
   | some x2 =>
    obtain ⟨be2,st2,gen2,p1,p2,p3,p4⟩:=hB.at_ t2 x2 h2
    have n2:ν x2=some (b,c2):=(Oa h2).symm.trans m2
    have hx:x1 ≠ x2:=fun hh=>by
     subst hh
     rw [q3] at p3
     simp only [Option.some.injEq,Prod.mk.injEq] at p3
     exact hne p3.1
    have:=(hN.uniq x1 _ be1 x2 _ be2 b c1 c2 hx (YB q1) (YB p1) o1 n1 n2).1
    rcases p4 with ⟨h3,_⟩ | ⟨h3,_⟩<;>omega
   | none=>exact bad t2 g2 b2 x1 c2 c1 h2 e2 m2 be1 q1 n1
  | none =>
   cases h2:σ t2 with
   | some x2 =>
    obtain ⟨be2,st2,gen2,p1,p2,p3,p4⟩:=hB.at_ t2 x2 h2
    exact bad t1 g1 b1 x2 c1 c2 h1 e1 m1 be2 p1 ((Oa h2).symm.trans m2)
   | none =>
    have:=(h.uniq t1 g1 b1 t2 g2 b2 b c1 c2 hne (rest t1 g1 b1 h1 e1).1 (rest t2 g2 b2 h2 e2).1 s1 ((KW h1).symm.trans m1) ((KW h2).symm.trans m2)).1
    exact (rest t2 g2 b2 h2 e2).2.1 this
 ·change M2 t=_ at e
  cases hσ:σ t with
  | some e' =>
   obtain ⟨be,st,gen,q1,q2,q3,q4⟩:=hB.at_ t e' hσ
   rw [q2] at e
   simp only [Prod.mk.injEq,Option.some.injEq] at e
   obtain ⟨rfl,rfl⟩:=e
   simp only at h3 ⊢
   rcases q4 with ⟨p3,p5,b0,p4,p6,p7⟩ | ⟨p3,p4,_⟩
   ·rw [Oa hσ,hN.FQ e' _ be (YB q1) p3]
    have:=h.FQ t gen b0 p4 (by omega)
    simp only [Bt,p5]
    rw [this,p6]
   ·omega
  | none =>
   obtain ⟨h1,_⟩:=rest t g blk hσ e
   rw [KW hσ]
   exact h.FQ t g blk h1 h3
 ·refine h.below.then hbel fun i hi hw hib=>?_
  obtain ⟨_,t0,g0,b0,c0,f1,f2,f3,_⟩:=hW i hib
  rcases (h.place t0 g0 b0 i c0 f1 f3).1 with h1 | h1
  ·omega
  ·exact hw h1
end
end Go.Ab
set_option linter.unusedVariables false
namespace Go.Ab
open Go.RowKit
def Ba (l:List (Nat × BG)):Nat -> Nat × Option BG:=AA (l.map fun p=>(p.1,0,some p.2))
def jA (N:Nat -> Nat × Option BG) (ρ:Nat -> Option (Nat × Nat)) (res:List SV):SV :=
 match res with
 | [r]=>GV N ρ r
 | rs=>.FR (EO N ρ rs)
def Ch (M:Nat -> Nat × Option BG) (ts:List Nat):Nat -> Nat × Option BG:=fun t=>if t ∈ ts then ((M t).1,(M t).2.map fun b=>{ b with st:=1 }) else M t
def Je (M:Nat -> Nat × Option BG) (ts:List Nat):List (Nat × Nat × Option BG):=ts.map fun t=>(t,(M t).1,(M t).2.map fun b=>{ b with st:=1 })
def drops (M:Nat -> Nat × Option BG) (τ:List (Nat × Nat)):List (Nat × Nat × Option BG):=τ.map fun p=>(p.2,(M p.2).1,none)
def NZ (M:Nat -> Nat × Option BG) (b:BG) (t:Nat):Nat:=if 3 <= b.st then (M t).1 else (M t).1+1
def lK (M:Nat -> Nat × Option BG) (b:BG) (t:Nat):Nat:=if 3 <= b.st then ((M t).2.map (·.st)).getD 0 else b.st
def Gg (M:Nat -> Nat × Option BG):List (Nat × BG) -> List Nat -> Nat -> Option (Nat × Nat)
 | (e,b) :: mem,t :: ts,i=>if i=e then some (t,NZ M b t) else Gg M mem ts i
 | _,_,_=>none
def OC:List (Nat × BG) -> List Nat -> Nat -> Option Nat
 | (e,_) :: mem,t :: ts,i=>if i=t then some e else OC mem ts i
 | _,_,_=>none
def puts (M N:Nat -> Nat × Option BG) (ρ:Nat -> Option (Nat × Nat)):List (Nat × BG) -> List Nat -> List (Nat × Nat × Option BG)
 | (_,b) :: mem,t :: ts=>puts M N ρ mem ts ++ [(t,NZ M b t,some { b with cells:=EO N ρ b.cells,st:=lK M b t })]
 | _,_=>[]
def Ra (M:Nat -> Nat × Option BG) (fz:List Nat) (τ:List (Nat × Nat)) (mem:List (Nat × BG)) (rt:List Nat):List (Nat × Nat × Option BG) :=
 Je M fz ++ drops M τ ++ puts M (Ba mem) (Gg M mem rt) mem rt
def R5 (d:Nat) (S:St) (fz:List Nat) (τ:List (Nat × Nat)) (res:List SV) (mem:List (Nat × BG)) (rt:List Nat):Eff :=
 ⟨some d,jA (Ba mem) (Gg S.M mem rt) res,true,Ra S.M fz τ mem rt⟩
def Fu (M:Nat -> Nat × Option BG) (τ:List (Nat × Nat)):List (Nat × BG) -> List Nat -> Prop
 | (_,b) :: mem,t :: ts=>((3 <= b.st /\ Ac τ (b.st - 3)=some t /\ ∃ b0,(M t).2=some b0 /\ b0.CS=b.CS) \/ b.st < 2) /\ Fu M τ mem ts
 | [],[]=>True
 | _,_=>False
def LB (τ:List (Nat × Nat)) (M1 M0:Nat -> Nat × Option BG):List (Nat × BG) -> Prop
 | []=>True
 | (t',b') :: m0=>(b'.st=3+t' /\ ∃ t b,Ac τ t'=some t /\ (M1 t).2=some b /\ Dv b.st /\ b'.CS=b.CS /\ b'.elem=b.elem /\ b'.row=b.row /\ Ae (Ac τ) M1 M0 b'.cells b.cells) /\ LB τ M1 M0 m0
def LC (M:Nat -> Nat × Option BG):List Nat -> Prop
 | []=>True
 | t :: ts=>(∃ b,(M t).2=some b /\ (Dv b.st \/ b.st=1)) /\ LC M ts
theorem fJ:∀ {l:List (Nat × BG)} {t g:Nat} {b:BG},Ba l t=(g,some b) -> g=0 /\ (t,b) ∈ l
 | [],t,g,b,h=>by simp [Ba,AA] at h
 | (k,v) :: l,t,g,b,h=>by
  simp only [Ba,List.map_cons,AA] at h
  split at h
  ·rename_i e
   subst e
   simp only [Prod.mk.injEq,Option.some.injEq] at h
   obtain ⟨rfl,rfl⟩:=h
   exact ⟨rfl,by simp⟩
  ·obtain ⟨h1,h2⟩:=fJ (l:=l) h
   exact ⟨h1,List.mem_cons_of_mem _ h2⟩
theorem Sy:∀ {l:List (Nat × BG)},(l.map (·.1)).Nodup -> ∀ {t:Nat} {b:BG},(t,b) ∈ l -> Ba l t=(0,some b)
 | [],_,t,b,h=>by cases h
 | (k,v) :: l,hn,t,b,h=>by
  simp only [List.map_cons,List.nodup_cons] at hn
  simp only [Ba,List.map_cons,AA]
  rcases List.mem_cons.1 h with h1 | h1
  ·simp only [Prod.mk.injEq] at h1
   obtain ⟨rfl,rfl⟩:=h1
   simp
  ·have:t ≠ k:=fun e=>hn.1 (e ▸ List.mem_map.2 ⟨_,h1,rfl⟩)
   rw [if_neg this]
   exact Sy hn.2 h1
theorem ZO:∀ (ts:List Nat) (M:Nat -> Nat × Option BG),LC M ts -> ∃ M',WE M ts=some M' /\ M'=Ch M ts
 | [],M,_=>⟨M,rfl,by funext t;simp [Ch]⟩
 | t :: ts,M,h=>by
  obtain ⟨⟨b,h1,h2⟩,h3⟩:=h
  have hM:M t=((M t).1,some b):=by rw [<- h1]
  have h3':LC (upd M t ((M t).1,some { b with st:=1 })) ts:=by
   have:∀ ts:List Nat,LC M ts -> LC (upd M t ((M t).1,some { b with st:=1 })) ts:=by
    intro ts
    induction ts with
    | nil=>exact fun _=>trivial
    | cons s ts ih =>
     rintro ⟨⟨c,c1,c2⟩,c3⟩
     refine ⟨?_,ih c3⟩
     by_cases hs:s=t
     ·subst hs;exact ⟨_,by rw [upd_same],.inr rfl⟩
     ·exact ⟨c,by rw [upd_ne _ _ _ _ hs];exact c1,c2⟩
   exact this ts h3
  obtain ⟨M',e1,e2⟩:=ZO ts _ h3'
  refine ⟨M',?_,?_⟩
  ·rw [WE,hM]
   simp only [h2,if_true]
   exact e1
  ·rw [e2]
   funext s
   simp only [Ch,List.mem_cons]
   by_cases hs:s=t
   ·subst hs
    rw [upd_same,hM]
    simp
   ·rw [upd_ne _ _ _ _ hs]
    simp [hs]
theorem Ju:∀ (l l':List (Nat × Nat × Option BG)) (M:Nat -> Nat × Option BG),Dl M (l ++ l')=Dl (Dl M l) l'
 | [],_,_=>rfl
 | (t,e) :: l,l',M=>Ju l l' _
theorem ML:∀ (l:List (Nat × Nat × Option BG)) (M:Nat -> Nat × Option BG) (t:Nat),(∀ p ∈ l,p.1 ≠ t) -> Dl M l t=M t
 | [],_,_,_=>rfl
 | (k,e) :: l,M,t,h=>by
  rw [Dl,ML l _ t fun p hp=>h p (List.mem_cons_of_mem _ hp),upd_ne _ _ _ _ (Ne.symm (h (k,e) (by simp)))]
theorem Pm {f:Nat -> Nat × Option BG}:∀ (l:List (Nat × Nat × Option BG)) (M:Nat -> Nat × Option BG) (t:Nat),(∀ p ∈ l,p.2=f p.1) -> (∃ p ∈ l,p.1=t) -> Dl M l t=f t
 | [],_,_,_,h=>by obtain ⟨p,hp,_⟩:=h;cases hp
 | (k,e) :: l,M,t,hf,h=>by
  by_cases h2:∃ p ∈ l,p.1=t
  ·exact Pm l _ t (fun p hp=>hf p (List.mem_cons_of_mem _ hp)) h2
  ·rw [Dl,ML l _ t fun p hp e=>h2 ⟨p,hp,e⟩]
   obtain ⟨p,hp,hpt⟩:=h
   rcases List.mem_cons.1 hp with rfl | hp
   ·simp only at hpt
    subst hpt
    rw [upd_same]
    exact hf (_,e) (by simp)
   ·exact absurd ⟨p,hp,hpt⟩ h2
section
variable {M:Nat -> Nat × Option BG} {fz:List Nat} {τ:List (Nat × Nat)}
theorem Wv:∀ {mem:List (Nat × BG)} {rt:List Nat},Fu M τ mem rt -> (mem.map (·.1)).Nodup -> rt.Nodup -> ∀ {t e:Nat},OC mem rt t=some e ↔ ∃ b,(e,b) ∈ mem /\ Gg M mem rt e=some (t,NZ M b t)
 | [],[],_,_,_,t,e=>by simp [OC,Gg]
 | [],_ :: _,h,_,_,_,_=>by simp only [Fu] at h
 | _ :: _,[],h,_,_,_,_=>by simp only [Fu] at h
 | (k,v) :: mem,s :: rt,h,hn,hr,t,e=>by
  simp only [Fu] at h
  simp only [List.map_cons,List.nodup_cons] at hn hr
  have ih:=Wv h.2 hn.2 hr.2 (t:=t) (e:=e)
  have isrt:∀ {mem:List (Nat × BG)} {rt:List Nat} {i t g:Nat},Gg M mem rt i=some (t,g) -> t ∈ rt:=by
   intro mem
   induction mem with
   | nil=>intro rt i t g h;simp [Gg] at h
   | cons p mem ih =>
    obtain ⟨k,v⟩:=p
    intro rt i t g h
    cases rt with
    | nil=>simp [Gg] at h
    | cons s rt =>
     simp only [Gg] at h
     split at h
     ·simp only [Option.some.injEq,Prod.mk.injEq] at h;rw [<- h.1];simp
     ·exact List.mem_cons_of_mem _ (ih h)
  have ismem:∀ {mem:List (Nat × BG)} {rt:List Nat} {t e:Nat},OC mem rt t=some e -> e ∈ mem.map (·.1) /\ t ∈ rt:=by
   intro mem
   induction mem with
   | nil=>intro rt t e h;simp [OC] at h
   | cons p mem ih =>
    obtain ⟨k,v⟩:=p
    intro rt t e h
    cases rt with
    | nil=>simp [OC] at h
    | cons s rt =>
     simp only [OC] at h
     split at h
     ·rename_i h1;simp only [Option.some.injEq] at h;subst h;subst h1;simp
     ·obtain ⟨a,b⟩:=ih h;exact ⟨List.mem_cons_of_mem _ a,List.mem_cons_of_mem _ b⟩
  simp only [OC,Gg]
  by_cases h1:t=s
  ·subst h1
   rw [if_pos rfl]
   constructor
   ·intro h2
    simp only [Option.some.injEq] at h2
    subst h2
    exact ⟨v,by simp,by rw [if_pos rfl]⟩
   ·rintro ⟨b,hb,hb2⟩
    split at hb2
    ·rename_i h3;rw [h3]
    ·exact absurd (isrt hb2) hr.1
  ·rw [if_neg h1,ih]
   constructor
   ·rintro ⟨b,hb,hb2⟩
    have:e ≠ k:=fun hh=>hn.1 (hh ▸ List.mem_map.2 ⟨_,hb,rfl⟩)
    exact ⟨b,List.mem_cons_of_mem _ hb,by rw [if_neg this];exact hb2⟩
   ·rintro ⟨b,hb,hb2⟩
    split at hb2
    ·simp only [Option.some.injEq,Prod.mk.injEq] at hb2;exact absurd hb2.1.symm h1
    ·rename_i h3
     refine ⟨b,?_,hb2⟩
     rcases List.mem_cons.1 hb with h4 | h4
     ·simp only [Prod.mk.injEq] at h4;exact absurd h4.1 h3
     ·exact h4
theorem X3:∀ {mem:List (Nat × BG)} {rt:List Nat},(mem.map (·.1)).Nodup -> rt.Nodup -> ∀ {t e g:Nat},Gg M mem rt e=some (t,g) -> ∃ b,(e,b) ∈ mem /\ g=NZ M b t /\ t ∈ rt
 | [],_,_,_,t,e,g,h=>by simp [Gg] at h
 | _ :: _,[],_,_,t,e,g,h=>by simp [Gg] at h
 | (k,v) :: mem,s :: rt,hn,hr,t,e,g,h=>by
  simp only [List.map_cons,List.nodup_cons] at hn hr
  simp only [Gg] at h
  split at h
  ·rename_i h1
   subst h1
   simp only [Option.some.injEq,Prod.mk.injEq] at h
   exact ⟨v,by simp,by rw [<- h.2,h.1],by rw [<- h.1];simp⟩
  ·obtain ⟨b,h1,h2,h3⟩:=X3 hn.2 hr.2 h
   exact ⟨b,List.mem_cons_of_mem _ h1,h2,List.mem_cons_of_mem _ h3⟩
theorem X7 {N:Nat -> Nat × Option BG} {ρ:Nat -> Option (Nat × Nat)}:∀ {mem:List (Nat × BG)} {rt:List Nat},Fu M τ mem rt -> rt.Nodup -> ∀ (M0:Nat -> Nat × Option BG) (t:Nat),
  (∀ e,OC mem rt t=some e -> ∃ b,(e,b) ∈ mem /\ Dl M0 (puts M N ρ mem rt) t=(NZ M b t,some { b with cells:=EO N ρ b.cells,st:=lK M b t }) /\ ((3 <= b.st /\ Ac τ (b.st - 3)=some t /\ ∃ b0,(M t).2=some b0 /\ b0.CS=b.CS) \/ b.st < 2)) ∧
  (OC mem rt t=none -> Dl M0 (puts M N ρ mem rt) t=M0 t)
 | [],[],_,_,M0,t=>by simp [OC,puts,Dl]
 | [],_ :: _,h,_,_,_=>by simp only [Fu] at h
 | _ :: _,[],h,_,_,_=>by simp only [Fu] at h
 | (k,v) :: mem,s :: rt,h,hr,M0,t=>by
  simp only [Fu] at h
  simp only [List.nodup_cons] at hr
  obtain ⟨i1,i2⟩:=X7 (N:=N) (ρ:=ρ) h.2 hr.2 M0 t
  simp only [puts,Ju,Dl,OC]
  by_cases h1:t=s
  ·subst h1
   rw [upd_same,if_pos rfl]
   refine ⟨fun e he=>?_,fun he=>by cases he⟩
   simp only [Option.some.injEq] at he
   subst he
   exact ⟨v,by simp,rfl,h.1⟩
  ·rw [upd_ne _ _ _ _ h1,if_neg h1]
   refine ⟨fun e he=>?_,i2⟩
   obtain ⟨b,b1,b2,b3⟩:=i1 e he
   exact ⟨b,List.mem_cons_of_mem _ b1,b2,b3⟩
theorem Qx {mem:List (Nat × BG)} {rt:List Nat} (hm:Fu M τ mem rt) (hn:(mem.map (·.1)).Nodup) (hr:rt.Nodup) (hfz:∀ t ∈ rt,t ∉ fz) :
  dZ (Ac τ) (Ch M fz) (Ba mem) (Dl (C9 M) (Ra M fz τ mem rt)) (OC mem rt) (Gg M mem rt):=by
 have hf:∀ t ∈ rt,Ch M fz t=M t:=fun t ht=>by simp [Ch,hfz t ht]
 have hfg:∀ t,(Ch M fz t).1=(M t).1:=fun t=>by unfold Ch;split<;>rfl
 refine ⟨fun t e hs=>?_,fun t hs=>?_,fun e t gen he=>?_⟩
 ·obtain ⟨b,b1,b2,b3⟩:=(X7 (N:=Ba mem) (ρ:=Gg M mem rt) hm hr (Dl (Dl (C9 M) (Je M fz)) (drops M τ)) t).1 e hs
  obtain ⟨b',c1,c2⟩:=(Wv hm hn hr).1 hs
  have hbb:b'=b:=by
   have q1:=Sy hn b1
   have q2:=Sy hn c1
   rw [q1] at q2
   simp only [Prod.mk.injEq,Option.some.injEq,true_and] at q2
   exact q2.symm
  subst hbb
  obtain ⟨_,_,_,htr⟩:=X3 hn hr c2
  refine ⟨b',lK M b' t,NZ M b' t,by rw [Sy hn b1],?_,c2,?_⟩
  ·rw [Ra,Ju,Ju];exact b2
  ·rcases b3 with ⟨h3,h4,b0,h5,h6⟩ | h3
   ·refine .inl ⟨h3,h4,b0,?_,?_,h6⟩
    ·rw [hf t htr,NZ,if_pos h3,<- h5]
    ·simp [lK,h3,h5]
   ·refine .inr ⟨h3,by simp [lK,show ¬ 3 <= b'.st by omega],by rw [hfg,NZ,if_neg (by omega)]⟩
 ·have h1:=(X7 (N:=Ba mem) (ρ:=Gg M mem rt) hm hr (Dl (Dl (C9 M) (Je M fz)) (drops M τ)) t).2 hs
  have e:Dl (C9 M) (Ra M fz τ mem rt) t=Dl (Dl (C9 M) (Je M fz)) (drops M τ) t:=by rw [Ra,Ju,Ju];exact h1
  by_cases h2:∃ p ∈ drops M τ,p.1=t
  ·refine .inr ?_
   rw [e,Pm (f:=fun t=>((M t).1,none)) _ _ t (fun p hp=>?_) h2,hfg]
   simp only [drops,List.mem_map] at hp
   obtain ⟨q,_,rfl⟩:=hp
   rfl
  ·refine .inl ⟨?_,fun t' ht'=>h2 ⟨_,List.mem_map.2 ⟨_,LQ ht',rfl⟩,rfl⟩⟩
   rw [e,ML _ _ t fun p hp hpt=>h2 ⟨p,hp,hpt⟩]
   by_cases h3:t ∈ fz
   ·have hin:∃ p ∈ Je M fz,p.1=t:=⟨_,by unfold Je;exact List.mem_map.2 ⟨t,h3,rfl⟩,rfl⟩
    rw [Pm (f:=fun t=>((M t).1,(M t).2.map fun b=>{ b with st:=1 })) _ _ t (fun p hp=>?_) hin]
    ·simp only [C9,Ch,h3,if_true]
     cases (M t).2<;>simp
    ·simp only [Je,List.mem_map] at hp
     obtain ⟨q,_,rfl⟩:=hp
     rfl
   ·rw [ML _ _ t fun p hp hpt=>?_]
    ·exact Qj (by simp [Ch,h3])
    ·simp only [Je,List.mem_map] at hp
     obtain ⟨q,hq,rfl⟩:=hp
     exact h3 (hpt ▸ hq)
 ·obtain ⟨b,b1,b2,_⟩:=X3 hn hr he
  refine (Wv hm hn hr).2 ⟨b,b1,?_⟩
  rw [he,b2]
theorem Qr {m0:List (Nat × BG)} {M1:Nat -> Nat × Option BG} (h:LB τ M1 (Ba m0) m0) (Uy:(τ.map (·.2)).Nodup) (hk:∀ p ∈ τ,p.1 ∈ m0.map (·.1)) (hn:(m0.map (·.1)).Nodup):YD (Ac τ) M1 (Ba m0):=by
 refine ⟨fun t' g' b' e=>?_,SG Uy,fun t' t ht=>?_⟩
 ·have hm:=(fJ e).2
  have:∀ l:List (Nat × BG),LB τ M1 (Ba m0) l -> (t',b') ∈ l -> b'.st=3+t' /\ ∃ t b,Ac τ t'=some t /\ (M1 t).2=some b /\ Dv b.st /\ b'.CS=b.CS /\ b'.elem=b.elem /\ b'.row=b.row /\ Ae (Ac τ) M1 (Ba m0) b'.cells b.cells:=by
   intro l
   induction l with
   | nil=>intro _ h;cases h
   | cons p l ih =>
    obtain ⟨k,v⟩:=p
    intro h hm
    rcases List.mem_cons.1 hm with h1 | h1
    ·simp only [Prod.mk.injEq] at h1
     obtain ⟨rfl,rfl⟩:=h1
     exact h.1
    ·exact ih h.2 h1
  exact this m0 h hm
 ·obtain ⟨p,hp,hpt⟩:=List.mem_map.1 (hk _ (LQ ht))
  obtain ⟨k,b⟩:=p
  simp only at hpt
  subst hpt
  exact ⟨0,b,Sy hn hp⟩
end
theorem ND {w:World} {M:Nat -> Nat × Option BG} {μ:Nat -> Option (Nat × Nat)} {X:Nat -> Prop}:∀ {cs ds:List SV} {us vs:List Value},Ao w M μ X cs us -> Ao w M μ X ds vs -> Ao w M μ X (cs ++ ds) (us ++ vs)
 | [],_,[],_,_,h=>h
 | c :: cs,_,u :: us,_,h,k=>by
  simp only [Ao] at h
  simp only [List.cons_append,Ao]
  exact ⟨h.1,ND h.2 k⟩
 | [],_,_ :: _,_,h,_=>by simp only [Ao] at h
 | _ :: _,_,[],_,h,_=>by simp only [Ao] at h
section
variable {cx:Cx} {S:St} {a:Act} {w:World} {o:Oper} {fz:List Nat} {τ:List (Nat × Nat)} {m0 mem:List (Nat × BG)} {rt:List Nat} {args:List SV} {res:List SV}
structure iP (S:St) (fz:List Nat) (τ:List (Nat × Nat)) (m0 mem:List (Nat × BG)) (rt:List Nat) (args ss:List SV):Prop where
 hfz:LC S.M fz
 A2H:LB τ (Ch S.M fz) (Ba m0) m0
 inj:(τ.map (·.2)).Nodup
 keys:∀ p ∈ τ,p.1 ∈ m0.map (·.1)
 nd0:(m0.map (·.1)).Nodup
 hargs:Ae (Ac τ) (Ch S.M fz) (Ba m0) args ss
 hmem:Fu S.M τ mem rt
 nd1:(mem.map (·.1)).Nodup
 nd2:rt.Nodup
 off:∀ t ∈ rt,t ∉ fz
theorem U4 (hg:cx.Good) (h0:KH cx S a w) {f':Operand} {ops:Array Operand} {ts:Array TypeId} (ho:o.op=.call { callee:=.value f',args:=ops,argTypes:=ts }) {f:FuncId} {pre caps:List DV} (hf:S.ev f'=.dv (.fn f pre caps))
  (hk:iP S fz τ m0 mem rt args (ops.toList.map S.ev)) (hcall:Aw cx.P f (pre.map .dv ++ args ++ caps.map .dv) (Ba m0) ⟨res,Ba mem⟩) {d:Nat} (hd:o.dst=some d) (hdn:d < cx.n) :
  Does cx ((R5 d S fz τ res mem rt).app S) o a w:=by
 obtain ⟨μ,h0⟩:=h0
 obtain ⟨M1,hz1,hz2⟩:=ZO fz S.M hk.hfz
 have h:Bc cx ⟨S.F,Ch S.M fz⟩ a w μ:=by rw [<- hz2];exact Ri h0 fz S.M M1 h0 hz1
 have hL:=Qr hk.A2H hk.inj hk.keys hk.nd0
 have hB:=Qx (M:=S.M) hk.hmem hk.nd1 hk.nd2 hk.off
 obtain ⟨hM0,hW,hrep⟩:=TL hg h hL
 have oO:=h.ev f'
 have hf1:St.ev ⟨S.F,Ch S.M fz⟩ f'=.dv (.fn f pre caps):=by rw [<- hf];cases f'<;>rfl
 rw [hf1] at oO
 simp only [AO] at oO
 generalize hv:a.eval f'=vf at *
 cases oO with
 | fn _ _ _ vp vc p1 p2 p3 p4 =>
  intro Q
  unfold Oper.wp
  rw [Ma ho hv hcall.1]
  have dvs:∀ (ds:List DV) (vs:Array Value),vs.size=ds.length -> (∀ (j:Nat) c,ds[j]?=some c -> CQ w (XX cx (Ch S.M fz) μ) c (vs.getD j undef)) →
    Ao w (Ba m0) (Bt (Ac τ) μ) (fun b=>Own (Ba m0) (Bt (Ac τ) μ) b \/ (XX cx (Ch S.M fz) μ b /\ ¬ Own (Ba m0) (Bt (Ac τ) μ) b)) (ds.map .dv) vs.toList:=by
   intro ds vs hl hh
   refine Ao.mk (by simpa using hl) fun j c u hj hu=>?_
   simp only [List.getElem?_map,Option.map_eq_some_iff] at hj
   obtain ⟨x,hx,rfl⟩:=hj
   simp only [AO]
   have h1:=hh j x hx
   have e:vs.getD j undef=u:=by
    simp only [Array.getElem?_toList] at hu
    simp [hu]
   rw [e] at h1
   exact h1.weaken fun b hb=>hb.elim (fun q=>(hW b q).1) (fun q=>q.1)
  have hargs:Ao w (Ba m0) (Bt (Ac τ) μ) (fun b=>Own (Ba m0) (Bt (Ac τ) μ) b \/ (XX cx (Ch S.M fz) μ b /\ ¬ Own (Ba m0) (Bt (Ac τ) μ) b)) args (ops.toList.map a.eval):=by
   refine hrep _ _ _ hk.hargs (Ao.mk (by simp) fun j c u hj hu=>?_)
   simp only [List.getElem?_map,Option.map_eq_some_iff] at hj hu
   obtain ⟨x,hx,rfl⟩:=hj
   obtain ⟨y,hy,rfl⟩:=hu
   rw [hx] at hy
   obtain rfl:=Option.some.inj hy
   have:=h.ev x
   have e:St.ev ⟨S.F,Ch S.M fz⟩ x=S.ev x:=by cases x<;>rfl
   rw [e] at this
   exact this
  have hall:=ND (ND (dvs pre vp p1 p3) hargs) (dvs caps vc p2 p4)
  have harr:(vp ++ ops.map a.eval ++ vc)=(vp.toList ++ ops.toList.map a.eval ++ vc.toList).toArray:=by
   apply Array.toList_inj.1
   simp
  rw [harr]
  refine (hcall.2 w (fun b=>XX cx (Ch S.M fz) μ b /\ ¬ Own (Ba m0) (Bt (Ac τ) μ) b) (Own (Ba m0) (Bt (Ac τ) μ)) (Bt (Ac τ) μ) (Bt (Ac τ) μ) _ (fun b hb=>⟨?_,hb.2⟩) (h.laid hg).1 (fun g hk=>⟨fun hx=>(h.laid hg).2 g hk hx.1,fun hx=>(h.laid hg).2 g hk (hW g hx).1⟩) hM0 hall).mono fun e w' ⟨us,ν,he,hbel,hN,hR⟩=>?_
  ·rcases hb.1 with ⟨t,g,blk,cap,e1,_,e3⟩ | hx
   ·exact (h.place t g blk b cap e1 e3).2
   ·exact Nat.lt_of_lt_of_le (hg.1 b hx).1 h.below.size
  ·subst he
   show KH cx _ (a.put o.dst (valOf us)) w'
   obtain ⟨MF,i1,i2⟩:=Zp hg h hL hB hbel hN
   rw [hd]
   refine ⟨MF,?_⟩
   have hval:AO w' (Dl (C9 S.M) (Ra S.M fz τ mem rt)) MF (XX cx (Dl (C9 S.M) (Ra S.M fz τ mem rt)) MF) (jA (Ba mem) (Gg S.M mem rt) res) (valOf us):=by
    have FR:us.length ≠ 1 -> AO w' (Dl (C9 S.M) (Ra S.M fz τ mem rt)) MF (XX cx (Dl (C9 S.M) (Ra S.M fz τ mem rt)) MF) (.FR (EO (Ba mem) (Gg S.M mem rt) res)) (valOf us):=fun hne=>by
     have:valOf us=.tuple us.toArray:=by
      unfold valOf
      rw [dif_neg (by simpa using hne)]
     rw [this]
     simp only [AO]
     refine ⟨us,rfl,?_⟩
     rw [J3]
     refine Ao.mk (by simp [hR.length]) fun j c u hj hu=>?_
     simp only [List.getElem?_map,Option.map_eq_some_iff] at hj
     obtain ⟨c0,hc0,rfl⟩:=hj
     exact i2 c0 u (hR.get j c0 u hc0 hu)
    have hlen:=hR.length
    match res,us,hlen,hR,FR with
    | [r],[u],_,hR,_ =>
     simp only [Ao,and_true] at hR
     show AO w' _ MF _ (GV (Ba mem) _ r) (valOf [u])
     have:valOf [u]=u:=by simp [valOf]
     rw [this]
     exact i2 r u hR
    | [],[],_,_,FR=>exact FR (by simp)
    | r :: r' :: rs,us,hlen,_,FR=>exact FR (by simp at hlen;omega)
   have:=i1.set hdn hval
   simpa [R5,Eff.app] using this
end
end Go.Ab
set_option linter.unusedVariables false
namespace Go.Ab
open Go.RowKit
def Ww (L:List (Nat × Nat × Option BG)):List (Nat × Nat × Option BG) -> List (Nat × Nat × Option BG)
 | []=>L
 | p :: r=>Ww (p :: L) r
theorem OE:∀ (ms L:List (Nat × Nat × Option BG)),Dl (AA L) ms=AA (Ww L ms)
 | [],L=>rfl
 | (t,e) :: r,L=>by rw [Dl,Ej,OE r,Ww]
section
variable {cx:Cx} {P:Program} {N:Nat} {ops:Array Oper} {rest:List Oper} {l:List (Nat × SV)} {m m':List (Nat × Nat × Option BG)} {K:St -> Prop} {KD:List It -> St -> Prop} {its:List It}
 {d f:Nat} {ty:TypeId} {p:String} {af:Array Edge} {gd:Option (Nat × Bool)} {oa:Array Operand} {ts:Array TypeId} {args res ss:List SV} {m0 mem:List (Nat × BG)}
theorem Dx (hc:Aw P f args (Ba m0) ⟨res,Ba mem⟩) (fz:List Nat) (τ:List (Nat × Nat)) (rt:List Nat) {v:SV} (kk:Chain cx ops rest ⟨lk ((d,v) :: l),AA m'⟩ K)
  (hs:oa.toList.map (St.ev ⟨lk l,AA m⟩)=ss:=by (simp only [List.map,St.look,St.ev,lk,AA,AV,Au,Ar,reduceIte,Nat.reduceAdd,Nat.reduceEqDiff,Nat.reduceMul]<;>rfl)) (h1:LC (AA m) fz:=by (simp [LC,AA,Dv])) (h2:LB τ (Ch (AA m) fz) (Ba m0) m0:=by (simp [LB,Ae,Aa,isLive,Ac,Ba,AA,Ch,BK,BJ,Af,BI,BL,BO,BM,BN,Dv])) (h3:(τ.map (·.2)).Nodup:=by decide) (h4:τ.all (fun p=>(m0.map (·.1)).contains p.1)=true:=by rfl) (h5:(m0.map (·.1)).Nodup:=by (simp))
  (h6:Ae (Ac τ) (Ch (AA m) fz) (Ba m0) args ss:=by (simp [Ae,Aa,isLive,Ac,Ba,AA,Ch,BK,BJ,Af,BI,BL,BO,BM,BN,Dv])) (h7:Fu (AA m) τ mem rt:=by (simp [Fu,AA,Ac])) (h8:(mem.map (·.1)).Nodup:=by (simp)) (h9:rt.Nodup:=by decide) (h10:∀ t ∈ rt,t ∉ fz:=by decide)
  (hv:jA (Ba mem) (Gg (AA m) mem rt) res=v:=by (simp only [jA,GV,EO,J4 BI,Gg,NZ,lK,Ba,AA,List.map,reduceIte,Nat.reduceEqDiff,Nat.reduceAdd,Nat.reduceLeDiff]<;>rfl)) (hm:Ww (Px m) (Ra (AA m) fz τ mem rt)=m':=by (simp only [Ww,Ra,Je,drops,puts,GV,EO,J4 BI,Gg,NZ,lK,Ba,AA,Px,Od,List.map,List.nil_append,List.cons_append,List.append_nil,Option.map_some,Option.getD_some,reduceIte,Nat.reduceEqDiff,Nat.reduceAdd,Nat.reduceLeDiff]<;>rfl)) (hP:cx.P=P:=by assumption) (hn:cx.n=N:=by assumption) (hd:d < N:=by decide) (hgd:Ho ops ⟨lk l,AA m⟩ gd:=by (first | exact trivial | exact ⟨_,rfl,by (simp only [lk,reduceIte,Nat.reduceEqDiff])⟩)) :
  Chain cx ops (⟨some d,.call { callee:=.value (.func f),args:=oa,argTypes:=ts },ty,p,af,gd⟩ :: rest) ⟨lk l,AA m⟩ K:=by
 subst hP;subst hn;subst hs
 have hg':cx.Good -> True:=fun _=>trivial
 refine ⟨(R5 d ⟨lk l,AA m⟩ fz τ res mem rt).app ⟨lk l,AA m⟩,Gq hgd (.sem fun hg a w h=>U4 hg h rfl (pre:=[]) (caps:=[]) (args:=args) rfl ⟨h1,h2,h3,fun p hp=>?_,h5,h6,h7,h8,h9,h10⟩ (by simpa using hc) rfl hd),?_⟩
 ·have:=List.all_eq_true.1 h4 p hp
  simpa using this
 ·have:(R5 d ⟨lk l,AA m⟩ fz τ res mem rt).app ⟨lk l,AA m⟩=⟨lk ((d,v) :: l),AA m'⟩:=by
   simp only [R5,Eff.app,if_true,FV,OE,FB,hv,hm]
  rw [this]
  exact kk
end
theorem Bj {cx:Cx} {c:Code} {K:Exit -> St -> Prop} {args:List SV} {m0:List (Nat × BG)} {l:List (Nat × SV)} {m:List (Nat × Nat × Option BG)} (k:Eu cx c K ⟨lk l,AA m⟩) (h1:PY 0 args=l:=by (simp only [PY,Nat.reduceAdd]<;>rfl)) (h2:(m0.map fun p=>(p.1,0,some p.2))=m:=by (simp only [List.map]<;>rfl)):Eu cx c K ⟨lk (PY 0 args),Ba m0⟩:=by
 subst h1;subst h2;exact k
theorem xg {P:Program} {rv:List ResultVar} {S:St} {x:Exit} {res ss:List SV} {mem:List (Nat × BG)} (τ:List (Nat × Nat)) (he:x=.normal \/ x=.ret:=by (first | exact .inr rfl | exact .inl rfl)) (hs:Dh P S rv=some ss:=by (simp only [Dh,lk,Option.map_some,reduceIte,Nat.reduceEqDiff]<;>rfl))
  (h1:Ae (Ac τ) S.M (Ba mem) res ss:=by (simp [Ae,Aa,isLive,Ac,Ba,AA,Ch,BK,BJ,Af,BI,BL,BO,BM,BN,Dv])) (h2:CV (Ac τ) S (Ba mem) (mem.map fun p=>(p.1,0,some p.2)):=by (simp [CV,Al,Ae,Aa,isLive,Ac,Ba,AA,Ch,BK,BJ,Af,BI,BL,BO,BM,BN,Dv])) (h3:(τ.map (·.2)).Nodup:=by decide):aH P rv ⟨res,Ba mem⟩ x S:=jq τ he hs h1 h2 h3
abbrev nT (i:Nat) (L:List Int):BG:=⟨L.map fun q=>.dv (.int .i64 q),1,3,100003+i,true⟩
end Go.Ab
set_option linter.unusedVariables false
namespace Go.Ab
open Go.RowKit
section
variable {cx:Cx} {S:St} {a:Act} {w:World} {o:Oper}
end
section
variable {cx:Cx} {P:Program} {N:Nat} {ops:Array Oper} {rest:List Oper} {l:List (Nat × SV)} {m m':List (Nat × Nat × Option BG)} {K:St -> Prop}
 {ty:TypeId} {p:String} {af:Array Edge} {gd:Option (Nat × Bool)} {x:Operand} {t e:TypeId} {tg g off n st:Nat} {k:IntKind} {L:List Int}
end
end Go.Ab
set_option linter.unusedVariables false
namespace Go.Ab
open Go.RowKit
section
variable {cx:Cx} {S:St}
theorem ZN {a:Act} {w:World} {μ:Nat -> Option (Nat × Nat)} (hg:cx.Good) (h:Bc cx S a w μ) {s:SV} {d:DV} (hD:Data (fun st=>st=1) (fun _=>True) S.M s d) (v:Value) (hv:AO w S.M μ (XX cx S.M μ) s v):CQ w (XX cx S.M μ) d v :=
 Data.rep h (Y:=XX cx S.M μ) (fun t g blk b cap e hst hm hx=>by
  rcases hx with ⟨t',g',Ay,cap',e',ho,hm'⟩ | hx
  ·by_cases ht:t'=t
   ·subst ht
    rw [e] at e'
    cases e'
    simp [Dv,hst] at ho
   ·have:=h.uniq t' g' Ay t g blk b cap' cap ht e' e ho hm' hm
    omega
  ·rcases (h.place t g blk b cap e hm).1 with h1 | h1
   ·have:=(hg.1 b hx).1;omega
   ·exact (hg.1 b hx).2 h1) (fun _ _ _ hr=>hr) hD v hv
def OB (M:Nat -> Nat × Option BG):List SV -> List SV -> Prop
 | [],[]=>True
 | c :: cs,c' :: cs'=>(c'=c \/ ∃ d,c'=.dv d /\ Data (fun st=>st=1) (fun _=>True) M c d) /\ OB M cs cs'
 | _,_=>False
theorem MK {M:Nat -> Nat × Option BG}:∀ {cs cs':List SV},OB M cs cs' -> cs'.length=cs.length
 | [],[],_=>rfl
 | c :: cs,c' :: cs',h=>by simp [MK h.2]
 | [],_ :: _,h=>h.elim
 | _ :: _,[],h=>h.elim
theorem Vh {M:Nat -> Nat × Option BG}:∀ {cs cs':List SV} (h:OB M cs cs') (j:Nat) (c':SV),cs'[j]?=some c' -> ∃ c,cs[j]?=some c /\ (c'=c \/ ∃ d,c'=.dv d /\ Data (fun st=>st=1) (fun _=>True) M c d)
 | [],[],_,j,c',hj=>by simp at hj
 | c :: cs,e :: cs',h,0,c',hj=>by
  simp only [List.getElem?_cons_zero,Option.some.injEq] at hj
  subst hj
  exact ⟨c,rfl,h.1⟩
 | c :: cs,e :: cs',h,j+1,c',hj=>by
  simp only [List.getElem?_cons_succ] at hj ⊢
  exact Vh h.2 j c' hj
 | [],_ :: _,h,_,_,_=>h.elim
 | _ :: _,[],h,_,_,_=>h.elim
theorem SL {M:Nat -> Nat × Option BG}:∀ cs:List SV,OB M cs cs
 | []=>trivial
 | c :: cs=>⟨.inl rfl,SL cs⟩
theorem Vi {M:Nat -> Nat × Option BG}:∀ {a a' b b':List SV},OB M a a' -> OB M b b' -> OB M (a ++ b) (a' ++ b')
 | [],[],b,b',_,h=>h
 | c :: a,c' :: a',b,b',h,k=>⟨h.1,Vi h.2 k⟩
 | [],_ :: _,_,_,h,_=>h.elim
 | _ :: _,[],_,_,h,_=>h.elim
theorem Le.sinkB (hg:cx.Good) {t g:Nat} {b:BG} {cs:List SV} (h0:S.M t=(g,some b)) (hc:OB S.M b.cells cs):Le cx S ⟨S.F,upd S.M t (g,some { b with cells:=cs })⟩:=by
 rintro a w ⟨μ,h⟩
 have hM:∀ t' g' Ay,upd S.M t (g,some { b with cells:=cs }) t'=(g',some Ay) -> ∃ blk,S.M t'=(g',some blk) /\ Ay.st=blk.st /\ Ay.CS=blk.CS /\ Ay.cells.length=blk.cells.length:=fun t' g' Ay e=>by
  by_cases ht:t'=t
  ·subst ht
   rw [upd_same] at e
   cases e
   exact ⟨b,h0,rfl,rfl,MK hc⟩
  ·rw [upd_ne _ _ _ _ ht] at e
   exact ⟨Ay,e,rfl,rfl,rfl⟩
 have hgen:∀ t',(S.M t').1 <= (upd S.M t (g,some { b with cells:=cs }) t').1:=fun t'=>by
  by_cases ht:t'=t
  ·subst ht;rw [upd_same,h0];exact Nat.le_refl _
  ·rw [upd_ne _ _ _ _ ht];exact Nat.le_refl _
 have hk:∀ x,x < w.heap.size -> ¬ XX cx S.M μ x -> w.heap[x]?=w.heap[x]? /\ ¬ XX cx (upd S.M t (g,some { b with cells:=cs })) μ x:=fun x _ hx=>⟨rfl,fun ho=>hx (by
  rcases ho with ⟨t',g',Ay,cap,e,e2,e3⟩ | ho
  ·obtain ⟨blk,e4,e5,_⟩:=hM t' g' Ay e
   exact .inl ⟨t',g',blk,cap,e4,by rw [<- e5];exact e2,e3⟩
  ·exact .inr ho)⟩
 have hB:∀ t' g' Ay,upd S.M t (g,some { b with cells:=cs }) t'=(g',some Ay) -> g' <= (S.M t').1 -> ∃ blk,S.M t'=(g',some blk) /\ μ t'=μ t' /\ Ay.CS=blk.CS:=fun t' g' Ay e _=>by
  obtain ⟨blk,e1,_,e2,_⟩:=hM t' g' Ay e
  exact ⟨blk,e1,rfl,e2⟩
 refine ⟨μ,⟨fun t' g' Ay e=>?_,fun i=>AO.mono (Nat.le_refl _) hk hgen hB _ _ (h.slot i),fun t' g' Ay x cap e hm=>?_,fun t1 g1 b1 t2 g2 b2 x cap cap' hne e1 e2 ho m1 m2=>?_,fun t' g' Ay e h3=>?_,h.below,h.size,h.defers⟩⟩
 ·by_cases ht:t'=t
  ·subst ht
   have e':upd S.M t' (g,some { b with cells:=cs }) t'=(g',some Ay):=e
   rw [upd_same] at e'
   cases e'
   have hb:=h.blk t' g b h0
   unfold CP at hb ⊢
   cases hm:μ t' with
   | none =>
    rw [hm] at hb
    obtain ⟨q1,q2⟩:=hb
    refine ⟨?_,q2⟩
    have:=MK hc
    rw [q1] at this
    exact List.eq_nil_of_length_eq_zero this
   | some p =>
    rw [hm] at hb
    obtain ⟨cur,q1,q2,q3,q4,q5⟩:=hb
    have hl:=MK hc
    refine ⟨cur,q1,by show cs.length <= _;omega,fun j c u hj hu=>?_,q4,fun hr=>by show cs.length=_;rw [hl];exact q5 hr⟩
    obtain ⟨c0,hc0,h1⟩:=Vh hc j c hj
    have q:=q3 j c0 u hc0 hu
    rcases h1 with rfl | ⟨d,rfl,hD⟩
    ·exact AO.mono (Nat.le_refl _) hk hgen hB _ _ q
    ·exact (ZN hg h hD u q).mono (Nat.le_refl _) hk
  ·have e':upd S.M t (g,some { b with cells:=cs }) t'=(g',some Ay):=e
   rw [upd_ne _ _ _ _ ht] at e'
   exact CP.mono (st:=Ay.st) (Nat.le_refl _) hk hgen hB rfl (fun _ _ _=>rfl) (h.blk t' g' Ay e')
 ·obtain ⟨blk,e1,_⟩:=hM t' g' Ay e
  exact h.place t' g' blk x cap e1 hm
 ·obtain ⟨c1,e3,e4,_,e5⟩:=hM t1 g1 b1 e1
  obtain ⟨c2,e6,e7,_,e8⟩:=hM t2 g2 b2 e2
  rw [e7,e5,e8]
  exact h.uniq t1 g1 c1 t2 g2 c2 x cap cap' hne e3 e6 (by rw [<- e4];exact ho) m1 m2
 ·obtain ⟨blk,e1,e2,_⟩:=hM t' g' Ay e
  rw [e2] at h3 ⊢
  exact h.FQ t' g' blk e1 h3
end
section
variable {cx:Cx} {c:Code} {K:Exit -> St -> Prop} {l:List (Nat × SV)} {m:List (Nat × Nat × Option BG)}
theorem G9 (t:Nat) {g:Nat} {b:BG} (k:Eu cx c K ⟨lk l,AA ((t,g,some { b with st:=1 }) :: m)⟩) (h0:AA m t=(g,some b):=by (simp only [AA,reduceIte,Nat.reduceEqDiff]<;>rfl)) (h1:Dv b.st \/ b.st=1:=by (first | exact .inl (.inl rfl) | exact .inr rfl)):Eu cx c K ⟨lk l,AA m⟩:=by
 refine Eu.le (Le.freeze (S:=⟨lk l,AA m⟩) h0 h1) ?_
 rw [Ej];exact k
theorem kK (t:Nat) {g:Nat} {b:BG} {cs:List SV} (h0:AA m t=(g,some b)) (hc:OB (AA m) b.cells cs) (hg:cx.Good) (k:Eu cx c K ⟨lk l,AA ((t,g,some { b with cells:=cs }) :: m)⟩):Eu cx c K ⟨lk l,AA m⟩:=by
 refine Eu.le (Le.sinkB (S:=⟨lk l,AA m⟩) hg h0 hc) ?_
 show Eu cx c K ⟨lk l,upd (AA m) t _⟩
 rw [Ej];exact k
end
end Go.Ab
