/- Ab16, Ab17, Ab18. -/
import Derived.Test.YtjcecljhjailiaaGreatDoorBogG03
import Derived.OrdersIn
import Derived.TacticsIn
import Derived.Deep.LoopGhost
import Derived.StillTail
namespace Go.Ab
open Go.RowKit
def EB (P:Program) (S:St) (b:Builtin) (args:List Operand) (ts:List TypeId):Option Out :=
 match b,args,ts with
 | .append,[s,x],[t,tx]=>JO P t tx (S.look s) (S.look x)
 | .len,[x],[t]=>(Qy P t (S.look x)).map .val
 | .max,[x,y],_=>(KH true [S.ev x,S.ev y]).map .val
 | .min,[x,y],_=>(KH false [S.ev x,S.ev y]).map .val
 | _,_,_=>none
def GJ (P:Program) (S:St) (c:Call):Option Out :=
 match c.callee with
 | .builtin b=>EB P S b c.args.toList c.argTypes.toList
 | _=>none
def AP (P:Program) (S:St):Op -> Option Out
 | .move x=>some (.val (S.ev x))
 | .assign x=>some (.val (S.ev x))
 | .pick c x y=>match S.ev c with
  | .dv (.bool b)=>some (.val (O8 b (S.ev x) (S.ev y)))
  | _=>none
 | .binOp op t x y _=>(Dj P op t (S.ev x) (S.ev y)).map .val
 | .unOp op _ x=>(nY op (S.ev x)).map .val
 | .convert s d x=>((RY P s d (S.ev x)).or (mO P s d (S.look x))).map .val
 | .index t x y=>(PW P t (S.ev x) (S.ev y)).map .val
 | .extract x i=>(JL (S.ev x) i).map .val
 | .fieldAddr s x f=>(NR P s f (S.look x)).map .val
 | .indexAddr t x y=>(NK P t (S.look x) (S.ev y)).map .val
 | .load t x=>(Dr P t (S.look x)).map .val
 | .slice t x lo hi mx=>(Tw P t (S.look x) (lo.map S.ev) (hi.map S.ev) (mx.map S.ev)).map .val
 | .nilCheck x=>(Mv (S.look x)).map .val
 | .build t parts=>(Pq P t (parts.toList.map fun p=>(p.1,S.ev p.2))).map .val
 | .alloc t=>(Co P t).map fun cs=>.mk ⟨cs,0,t,0,false⟩ 0
 | .box t x=>(Cb (S.ev x)).map fun cs=>.mk ⟨cs,0,t,0,false⟩ 0
 | .makeSlice t l c=>Pf P t (S.ev l) (S.ev c)
 | .buildSlice t n parts=>GK P t n (parts.toList.map fun p=>(p.1,S.ev p.2))
 | .store t x v=>MX P t (S.look x) (S.ev v)
 | .call c=>GJ P S c
 | _=>none
section
variable {cx:Cx} {S S':St} {a:Act} {w:World} {μ:Nat -> Option (Nat × Nat)} {o:Oper}
theorem Yp (h:BJ cx S a w μ) {out:Out} (hr:AP cx.P S o.op=some out) (ha:S.apply cx.n o.dst out=some S'):Runs cx S' o a w:=by
 have val:∀ {x:Option SV},x.map Out.val=some out -> ∃ r,x=some r /\ out=.val r:=fun hx=>by
  obtain ⟨r,h1,h2⟩:=Option.map_eq_some_iff.1 hx
  exact ⟨r,h1,h2.symm⟩
 generalize hop:o.op=op at hr
 unfold AP at hr
 split at hr
 ·simp only [Option.some.injEq] at hr;subst hr;exact TV h (.inl hop) ha
 ·simp only [Option.some.injEq] at hr;subst hr;exact TV h (.inr hop) ha
 ·split at hr
  ·rename_i b hb
   simp only [Option.some.injEq] at hr;subst hr;exact dZ h hop hb ha
  ·cases hr
 ·obtain ⟨r,h1,rfl⟩:=val hr;exact mJ h hop h1 ha
 ·obtain ⟨r,h1,rfl⟩:=val hr;exact nX h hop h1 ha
 ·obtain ⟨r,h1,rfl⟩:=val hr
  rcases Option.or_eq_some_iff.1 h1 with h1 | ⟨_,h1⟩
  ·exact gH h hop h1 ha
  ·exact mM h hop h1 ha
 ·obtain ⟨r,h1,rfl⟩:=val hr;exact W9 h hop h1 ha
 ·obtain ⟨r,h1,rfl⟩:=val hr;exact VG h hop h1 ha
 ·obtain ⟨r,h1,rfl⟩:=val hr;exact ZI h hop h1 ha
 ·obtain ⟨r,h1,rfl⟩:=val hr;exact Z9 h hop h1 ha
 ·obtain ⟨r,h1,rfl⟩:=val hr;exact eU h hop h1 ha
 ·obtain ⟨r,h1,rfl⟩:=val hr;exact lW h hop h1 ha
 ·obtain ⟨r,h1,rfl⟩:=val hr;exact Yt h hop h1 ha
 ·obtain ⟨r,h1,rfl⟩:=val hr;exact Za h hop h1 ha
 ·obtain ⟨cs,h1,h2⟩:=Option.map_eq_some_iff.1 hr;subst h2;exact Zh h hop h1 ha
 ·obtain ⟨cs,h1,h2⟩:=Option.map_eq_some_iff.1 hr;subst h2;exact mG h hop h1 ha
 ·exact eO h hop hr ha
 ·exact PL h hop hr ha
 ·exact Yb h hop hr ha
 ·rename_i c
  obtain ⟨callee,args,ts⟩:=c
  unfold GJ at hr
  split at hr
  ·rename_i b hb
   simp only at hb
   subst hb
   obtain ⟨args⟩:=args
   obtain ⟨ts⟩:=ts
   unfold EB at hr
   simp only at hr
   split at hr
   ·exact YD h hop hr ha
   ·obtain ⟨r,h1,rfl⟩:=val hr;exact jf h hop h1 ha
   ·obtain ⟨r,h1,rfl⟩:=val hr;exact Oo (mx:=true) h hop h1 ha
   ·obtain ⟨r,h1,rfl⟩:=val hr;exact Oo (mx:=false) h hop h1 ha
   ·cases hr
  ·cases hr
 ·cases hr
def Does (cx:Cx) (S':St) (o:Oper) (a:Act) (w:World):Prop:=∀ Q,o.wp cx.P a w (fun a' w'=>JQ cx S' a' w') Q
theorem Runs.does (h:Runs cx S' o a w):Does cx S' o a w:=by
 intro Q
 obtain ⟨v,w',μ',hr,hs⟩:=h
 unfold Oper.wp
 rcases hr with hr | ⟨hr,rfl⟩<;>rw [hr]<;>exact ⟨μ',hs⟩
def Ca (R:SV -> DV -> Prop):List SV -> List DV -> Prop
 | [],[]=>True
 | s :: ss,d :: ds=>R s d /\ Ca R ss ds
 | _,_=>False
theorem FM {R:SV -> DV -> Prop}:∀ {ss:List SV} {ds:List DV},Ca R ss ds -> ss.length=ds.length
 | [],[],_=>rfl
 | _ :: ss,_ :: ds,h=>by simp [FM h.2]
 | [],_ :: _,h=>h.elim
 | _ :: _,[],h=>h.elim
theorem IG {R:SV -> DV -> Prop}:∀ {ss:List SV} {ds:List DV},Ca R ss ds -> ∀ (j:Nat) s d,ss[j]?=some s -> ds[j]?=some d -> R s d
 | [],[],_,j,s,d,hs,_=>by simp at hs
 | s0 :: ss,d0 :: ds,h,j,s,d,hs,hd=>by
  cases j with
  | zero=>simp only [List.getElem?_cons_zero,Option.some.injEq] at hs hd;subst hs;subst hd;exact h.1
  | succ j=>exact IG h.2 j s d (by simpa using hs) (by simpa using hd)
 | [],_ :: _,h,_,_,_,_,_=>h.elim
 | _ :: _,[],h,_,_,_,_,_=>h.elim
def St.EU (n:Nat) (S:St) (dst:Option Nat) (res:Px):Option St :=
 match dst with
 | some d=>if d < n then some ⟨upd S.F d (E9 d S.M res).1,(E9 d S.M res).2⟩ else none
 | none=>none
theorem Lb (h:BJ cx S a w μ) {w':World} (hb:Below w.heap.size w w') {Y:Nat -> Prop} (hY:∀ b,XX cx S.M μ b -> Y b) {res:Px} {v:Value} (hres:Jq w.heap.size w' Y res v) (d:Nat) :
  ∃ μ',BJ cx ⟨S.F,(E9 d S.M res).2⟩ a w' μ' /\ AJ w' (E9 d S.M res).2 μ' (XX cx (E9 d S.M res).2 μ') (E9 d S.M res).1 v:=by
 have h1:=h.reserve hb
 have hO:∀ b,Own S.M μ b -> Y b \/ w.heap.size <= b:=fun b hb=>.inl (hY b (.inl hb))
 have drop:∀ {M:Nat -> Nat × Option Au} {μ':Nat -> Option (Nat × Nat)} (c:SV) (v:Value),AJ w' M μ' (XX (cx.res fun b=>w.heap.size <= b) M μ') c v -> AJ w' M μ' (XX cx M μ') c v:=by
  intro M μ' c v hh
  exact AJ.mono (Nat.le_refl _) (fun b _ hx=>⟨rfl,fun ho=>hx (ho.imp id .inl)⟩) (fun _=>Nat.le_refl _) (fun t g Aj e _=>⟨Aj,e,rfl,rfl⟩) c v hh
 have data:∀ {obs:List (Option (Nat × Nat))} {M:Nat -> Nat × Option Au} {μ':Nat -> Option (Nat × Nat)} {x:DV} {v:Value},(∀ b,Own M μ' b -> Own S.M μ b \/ El obs b) -> Bn w' (fun b=>Y b \/ El obs b) x v -> Bn w' (XX cx M μ') x v:=by
  intro obs M μ' x v hO' hx
  refine hx.weaken fun b hb=>?_
  rcases hb with hb | hb
  ·exact (hO' b hb).imp (fun h=>hY b (.inl h)) id
  ·exact .inl (hY b (.inr hb))
 have place:∀ (obs:List (Option (Nat × Nat))) (rs:List R1) (vs:List Value),Dc w.heap.size w' (fun b=>Y b \/ El obs b) rs vs obs -> ∀ t g blk b cap,S.M t=(g,some blk) -> μ t=some (b,cap) -> ∀ c,some (b,c) ∉ obs:=by
  intro obs rs vs hR t g blk b cap e hm c hc
  have key:∀ (Y:Nat -> Prop) (rs:List R1) (vs:List Value) (obs:List (Option (Nat × Nat))),Dc w.heap.size w' Y rs vs obs -> some (b,c) ∈ obs -> w.heap.size <= b:=by
   intro Y rs
   induction rs with
   | nil=>intro vs obs hR hc;cases vs<;>cases obs<;>first | exact hR.elim | (simp at hc;done) | (cases hR;done)
   | cons r rs ih =>
    intro vs obs hR hc
    cases vs with
    | nil=>cases obs<;>cases hR
    | cons v vs =>
     cases obs with
     | nil=>cases hR
     | cons ob obs =>
      rcases List.mem_cons.1 hc with h1 | h1
      ·subst h1
       cases r with
       | dv x=>have:=hR.1.1;cases this
       | row C8 elem n cs=>exact hR.1.2.2.1
      ·exact ih vs obs hR.2 h1
  have h1:=key _ rs vs obs hR hc
  have h2:=(h.place t g blk b cap e hm).2
  omega
 have hB:(cx.res fun b=>w.heap.size <= b).w0.heap.size <= w.heap.size:=h.below.size
 cases res with
 | one r =>
  obtain ⟨ob,hr⟩:=hres
  have hR:Dc w.heap.size w' (fun b=>Y b \/ El [ob] b) [r] [v] [ob]:=⟨hr,trivial⟩
  obtain ⟨μ',i1,i2,i3,i4,i5⟩:=Pj (cx:=cx.res fun b=>w.heap.size <= b) hB (fun b hb=>.inr hb) d [r] [v] [ob] 0 S μ h1 hR (by simp) (fun b hb=>(hO b hb).imp .inl id) (place _ _ _ hR)
  refine ⟨μ',i1.release,?_⟩
  cases r with
  | dv x =>
   have e:=i5 0 x rfl
   have e':(E9 d S.M (.one (.dv x))).1=.dv x:=by
    show ((Cw d 0 [R1.dv x] S.M).1).getD 0 .dead=_
    rw [List.getD_eq_getElem?_getD,e]
    rfl
   rw [e']
   simp only [AJ]
   exact data i3 hr.2
  | row C8 elem n cs =>
   have:=i4 0 (.row C8 elem n cs) v (E9 d S.M (.one (.row C8 elem n cs))).1 rfl rfl (by simp [E9,Cw]) (by simp)
   exact drop _ _ this
 | many rs =>
  obtain ⟨vs,obs,rfl,hR,hP⟩:=hres
  obtain ⟨μ',i1,i2,i3,i4,i5⟩:=Pj (cx:=cx.res fun b=>w.heap.size <= b) hB (fun b hb=>.inr hb) d rs vs obs 0 S μ h1 hR hP (fun b hb=>(hO b hb).imp .inl id) (place _ _ _ hR)
  refine ⟨μ',i1.release,?_⟩
  show AJ w' _ μ' _ (.Em (Cw d 0 rs S.M).1) _
  simp only [AJ]
  have len:∀ (rs:List R1) (j:Nat) (M:Nat -> Nat × Option Au),(Cw d j rs M).1.length=rs.length:=by
   intro rs
   induction rs with
   | nil=>intro j M;rfl
   | cons r rs ih=>intro j M;cases r<;>simp [Cw,ih]
  have len2:∀ (Y:Nat -> Prop) (rs:List R1) (vs:List Value) (obs:List (Option (Nat × Nat))),Dc w.heap.size w' Y rs vs obs -> vs.length=rs.length:=by
   intro Y rs
   induction rs with
   | nil=>intro vs obs hR;cases vs<;>cases obs<;>first | rfl | cases hR
   | cons r rs ih =>
    intro vs obs hR
    cases vs with
    | nil=>cases obs<;>cases hR
    | cons v vs =>
     cases obs with
     | nil=>cases hR
     | cons ob obs=>simp [ih vs obs hR.2]
  have qJ:∀ (Y:Nat -> Prop) (rs:List R1) (vs:List Value) (obs:List (Option (Nat × Nat))),Dc w.heap.size w' Y rs vs obs -> ∀ (j:Nat) x v,rs[j]?=some (.dv x) -> vs[j]?=some v -> Bn w' Y x v:=by
   intro Y rs
   induction rs with
   | nil=>intro vs obs hR j x v h;simp at h
   | cons r rs ih =>
    intro vs obs hR j x v h1 h2
    cases vs with
    | nil=>simp at h2
    | cons v0 vs =>
     cases obs with
     | nil=>cases hR
     | cons ob obs =>
      cases j with
      | zero =>
       simp only [List.getElem?_cons_zero,Option.some.injEq] at h1 h2
       subst h1;subst h2
       exact hR.1.2
      | succ j=>exact ih vs obs hR.2 j x v (by simpa using h1) (by simpa using h2)
  refine ⟨vs,rfl,Ac.mk (by rw [len,len2 _ _ _ _ hR]) fun j c u hc hu=>?_⟩
  have hj:j < rs.length:=by rw [<- len rs 0 S.M];exact (List.getElem?_eq_some_iff.1 hc).1
  have hr:rs[j]?=some rs[j]:=by simp [hj]
  cases hq:rs[j] with
  | dv x =>
   rw [hq] at hr
   have:=i5 j x hr
   rw [this] at hc
   simp only [Option.some.injEq] at hc
   subst hc
   simp only [AJ]
   exact data i3 (qJ _ _ _ _ hR j x u hr hu)
  | row C8 elem n cs =>
   rw [hq] at hr
   exact drop _ _ (i4 j _ u c hr hu hc (by simp))
theorem OW {P:Program} {f:FuncId} (h:ES P f) (args:Array Value) (w:World):(callFunc f args).run P w=.ok (.enter f args) w:=by
 obtain ⟨fn,h1,h2,h3⟩:=h
 unfold callFunc
 simp only [Sem.run_bind,run_program,Result.andThen_ok,h1,h2,h3,Bool.false_eq_true,if_false,Sem.run_pure]
theorem Kr {f':Operand} {args:Array Operand} {ts:Array TypeId} (ho:o.op=.call { callee:=.value f',args:=args,argTypes:=ts }) {f:FuncId} {vp vc:Array Value} (hf:a.eval f'=.func (.func f) vp vc) (he:ES cx.P f) :
  (execOp a.eval o).run cx.P w=.ok (.enter f (vp ++ args.map a.eval ++ vc)) w:=by
 unfold execOp
 simp only [ho,resolve,hf,Deferred.ofValue,invoke,Sem.run_bind,Sem.run_pure,Result.andThen_ok,OW he]
theorem YC {w:World} {X:Nat -> Prop} {pre ds caps:List DV} {vp va vc:Array Value} (hp:Args w X pre vp) (ha:Args w X ds va) (hc:Args w X caps vc):Args w X (pre ++ ds ++ caps) (vp ++ va ++ vc):=by
 have two:∀ (l m:List DV) (vl vm:Array Value),Args w X l vl -> Args w X m vm -> Args w X (l ++ m) (vl ++ vm):=by
  intro l m vl vm h1 h2
  refine ⟨by simp [h1.1,h2.1],fun j d hj=>?_⟩
  by_cases hlt:j < l.length
  ·rw [List.getElem?_append_left hlt] at hj
   have:=h1.2 j d hj
   have hv:(vl ++ vm).getD j undef=vl.getD j undef:=by
    simp [Array.getElem?_append_left (show j < vl.size by rw [h1.1];exact hlt)]
   rw [hv];exact this
  ·rw [List.getElem?_append_right (by omega)] at hj
   have:=h2.2 _ d hj
   have hv:(vl ++ vm).getD j undef=vm.getD (j - l.length) undef:=by
    simp [Array.getElem?_append_right (show vl.size <= j by rw [h1.1];omega),h1.1]
   rw [hv];exact this
 exact two _ _ _ _ (two _ _ _ _ hp ha) hc
theorem ZV (hg:cx.Good) (h:BJ cx S a w μ) {f':Operand} {args:Array Operand} {ts:Array TypeId} (ho:o.op=.call { callee:=.value f',args:=args,argTypes:=ts }) {f:FuncId} {pre caps ds:List DV} (hf:S.ev f'=.dv (.fn f pre caps))
  (hargs:Ca (Fu S.M) (args.toList.map S.ev) ds) {res:Px} (hcall:AR cx.P f (pre ++ ds ++ caps) res) (ha:S.EU cx.n o.dst res=some S'):Does cx S' o a w:=by
 have kF:=h.ev f'
 rw [hf] at kF
 simp only [AJ] at kF
 generalize hv:a.eval f'=vf at *
 cases kF with
 | fn _ _ _ vp vc p1 p2 p3 p4 =>
  cases hd:o.dst with
  | none=>rw [hd] at ha;simp [St.EU] at ha
  | some d =>
   rw [hd] at ha
   simp only [St.EU] at ha
   split at ha
   ·rename_i hdn
    simp only [Option.some.injEq] at ha
    subst ha
    intro Q
    unfold Oper.wp
    rw [Kr ho hv hcall.1]
    have hA:Args w (fun _=>False) (pre ++ ds ++ caps) (vp ++ args.map a.eval ++ vc):=by
     refine YC ⟨p1,fun j c hj=>(p3 j c hj).weaken fun _ h=>h.elim⟩ ⟨?_,fun j c hj=>?_⟩ ⟨p2,fun j c hj=>(p4 j c hj).weaken fun _ h=>h.elim⟩
     ·have:=FM hargs;simpa using this
     ·have hl:=FM hargs
      have hjl:j < args.size:=by
       have:=(List.getElem?_eq_some_iff.1 hj).1
       simp only [List.length_map,Array.length_toList] at hl
       omega
      have hb:=IG hargs j (S.ev args[j]) c (by simp [hjl]) hj
      have hv':(args.map a.eval).getD j undef=a.eval args[j]:=by simp [hjl]
      rw [hv']
      exact hb.rep h (h.ev _)
    refine (hcall.2 w _ (h.laid hg).1 hA).mono fun e w' ⟨v,he,hb,hres⟩=>?_
    subst he
    show JQ cx _ (a.put o.dst v) w'
    obtain ⟨μ',i1,i2⟩:=Lb h hb (Y:=fun b=>b < w.heap.size) (fun b hx=>by
     rcases hx with ⟨t,g,blk,cap,e1,_,e3⟩ | hx
     ·exact (h.place t g blk b cap e1 e3).2
     ·exact Nat.lt_of_lt_of_le (hg.1 b hx).1 h.below.size) hres d
    rw [hd]
    exact ⟨μ',i1.set hdn i2⟩
   ·cases ha
theorem ZW (hg:cx.Good) (h:BJ cx S a w μ) {f':Operand} {args:Array Operand} {ts:Array TypeId} (ho:o.op=.call { callee:=.value f',args:=args,argTypes:=ts }) {f:FuncId} {pre caps ds:List DV} (hf:S.ev f'=.dv (.fn f pre caps))
  (hargs:Ca (Df S.M) (args.toList.map S.ev) ds) {res:Px} (hcall:FN cx.P f (pre ++ ds ++ caps) res) (ha:S.EU cx.n o.dst res=some S'):Does cx S' o a w:=by
 have kF:=h.ev f'
 rw [hf] at kF
 simp only [AJ] at kF
 generalize hv:a.eval f'=vf at *
 cases kF with
 | fn _ _ _ vp vc p1 p2 p3 p4 =>
  cases hd:o.dst with
  | none=>rw [hd] at ha;simp [St.EU] at ha
  | some d =>
   rw [hd] at ha
   simp only [St.EU] at ha
   split at ha
   ·rename_i hdn
    simp only [Option.some.injEq] at ha
    subst ha
    intro Q
    unfold Oper.wp
    rw [Kr ho hv hcall.1]
    have hA:Args w (XX cx S.M μ) (pre ++ ds ++ caps) (vp ++ args.map a.eval ++ vc):=by
     refine YC ⟨p1,p3⟩ ⟨?_,fun j c hj=>?_⟩ ⟨p2,p4⟩
     ·have:=FM hargs;simpa using this
     ·have hl:=FM hargs
      have hjl:j < args.size:=by
       have:=(List.getElem?_eq_some_iff.1 hj).1
       simp only [List.length_map,Array.length_toList] at hl
       omega
      have hb:=IG hargs j (S.ev args[j]) c (by simp [hjl]) hj
      have hv':(args.map a.eval).getD j undef=a.eval args[j]:=by simp [hjl]
      rw [hv']
      exact hb.rep hg h (h.ev _)
    have hX:∀ b,XX cx S.M μ b -> b < w.heap.size:=fun b hx=>by
     rcases hx with ⟨t,g,blk,cap,e1,_,e3⟩ | hx
     ·exact (h.place t g blk b cap e1 e3).2
     ·exact Nat.lt_of_lt_of_le (hg.1 b hx).1 h.below.size
    refine (hcall.2 w (XX cx S.M μ) _ hX (h.laid hg).1 (h.laid hg).2 hA).mono fun e w' ⟨v,he,hb,hres⟩=>?_
    subst he
    show JQ cx _ (a.put o.dst v) w'
    obtain ⟨μ',i1,i2⟩:=Lb h hb (Y:=XX cx S.M μ) (fun b hx=>hx) hres d
    rw [hd]
    exact ⟨μ',i1.set hdn i2⟩
   ·cases ha
inductive Step (cx:Cx) (S:St) (o:Oper) (S':St):Prop
 | out (out:Out):AP cx.P S o.op=some out -> S.apply cx.n o.dst out=some S' -> Step cx S o S'
 | fn (f:FuncId) (pre caps:Array Operand):o.op=.makeFunc (.func f) pre caps -> S.Pv cx.n o.dst f (pre.toList.map S.look) (caps.toList.map S.look)=some S' -> Step cx S o S'
 | lg (f':Operand) (args:Array Operand) (ts:Array TypeId) (f:FuncId) (pre caps ds:List DV) (res:Px):o.op=.call { callee:=.value f',args:=args,argTypes:=ts } -> S.ev f'=.dv (.fn f pre caps) →
   Ca (Fu S.M) (args.toList.map S.ev) ds -> AR cx.P f (pre ++ ds ++ caps) res -> S.EU cx.n o.dst res=some S' -> Step cx S o S'
 | lq (f':Operand) (args:Array Operand) (ts:Array TypeId) (f:FuncId) (pre caps ds:List DV) (res:Px):o.op=.call { callee:=.value f',args:=args,argTypes:=ts } -> S.ev f'=.dv (.fn f pre caps) →
   Ca (Df S.M) (args.toList.map S.ev) ds -> FN cx.P f (pre ++ ds ++ caps) res -> S.EU cx.n o.dst res=some S' -> Step cx S o S'
 | sem:(cx.Good -> ∀ a w,JQ cx S a w -> Does cx S' o a w) -> Step cx S o S'
theorem Step.does (hg:cx.Good) (h:JQ cx S a w) (hs:Step cx S o S'):Does cx S' o a w:=by
 have h0:=h
 obtain ⟨μ,h⟩:=h
 cases hs with
 | sem h1=>exact h1 hg a w h0
 | out out h1 h2=>exact (Yp h h1 h2).does
 | fn f pre caps h1 h2=>exact (SN hg h h1 h2).does
 | lg f' args ts f pre caps ds res h1 h2 h3 h4 h5=>exact ZV hg h h1 h2 h3 h4 h5
 | lq f' args ts f pre caps ds res h1 h2 h3 h4 h5=>exact ZW hg h h1 h2 h3 h4 h5
def FH (ops:Array Oper) (j:Nat):Option Nat:=(ops[j]?).bind (·.dst)
def St.skip (S:St) (dst:Option Nat):St:=match dst with | some d=>⟨upd S.F d (.Em []),S.M⟩ | none=>S
inductive Rw (want:Bool):SV -> Prop
 | off:Rw want (.dv (.bool (!want)))
 | undef:Rw want (.Em [])
theorem Rw.ne {want c:Bool} (h:c ≠ want):Rw want (.dv (.bool c)):=by
 have e:c=!want:=by cases c<;>cases want<;>simp_all
 subst e;exact .off
def GStep (cx:Cx) (ops:Array Oper) (S:St) (o:Oper) (S':St):Prop :=
 match o.guard with
 | none=>Step cx S o S'
 | some (j,want)=>∃ t,FH ops j=some t /\ ((S.F t=.dv (.bool want) /\ Step cx S o S') \/ (Rw want (S.F t) /\ S'=S.skip o.dst))
def Chain (cx:Cx) (ops:Array Oper):List Oper -> St -> (St -> Prop) -> Prop
 | [],S,K=>K S
 | o :: l,S,K=>∃ S',GStep cx ops S o S' /\ Chain cx ops l S' K
theorem Rv {w:World} {M:Nat -> Nat × Option Au} {μ:Nat -> Option (Nat × Nat)} {X:Nat -> Prop}:AJ w M μ X (.Em []) (.tuple #[]):=by
 exact ⟨[],rfl,trivial⟩
theorem Sl {w:World} {M:Nat -> Nat × Option Au} {μ:Nat -> Option (Nat × Nat)} {X:Nat -> Prop} {cs:List SV} {v:Value} (h:AJ w M μ X (.Em cs) v):∃ vs,v=.tuple vs:=by
 simp only [AJ] at h
 obtain ⟨vs,h1,_⟩:=h
 exact ⟨_,h1⟩
theorem JQ.skip (h:JQ cx S a w) (dst:Option Nat):JQ cx (S.skip dst) (a.put dst undef) w:=by
 obtain ⟨μ,h⟩:=h
 cases dst with
 | none=>exact ⟨μ,h⟩
 | some d =>
  refine ⟨μ,⟨h.blk,fun i=>?_,h.place,h.uniq,h.Ei,h.below,by simpa [Act.put] using h.size,h.defers⟩⟩
  show AJ w S.M μ _ (upd S.F d (.Em []) i) _
  by_cases hi:i=d
  ·subst hi;rw [upd_same]
   have e:(a.put (some i) undef).tmps.getD i undef=.tuple #[]:=by
    simp only [Act.put,Array.getD_eq_getD_getElem?,Array.getElem?_setIfInBounds]
    by_cases hq:i < a.tmps.size<;>simp [hq,undef]
   rw [e]
   exact Rv
  ·rw [upd_ne _ _ _ _ hi]
   have:=h.slot i
   have e:(a.put (some d) undef).tmps.getD i undef=a.tmps.getD i undef:=by simp [Act.put,Array.getElem?_setIfInBounds_ne (Ne.symm hi)]
   rw [e]
   exact this
theorem TG (h:JQ cx S a w) {ops:Array Oper} {j t:Nat} {b:Bool} (ht:FH ops j=some t) (hb:S.F t=.dv (.bool b)):yielded ops a.tmps j=some b:=by
 obtain ⟨μ,h⟩:=h
 have:=h.slot t
 rw [hb] at this
 simp only [AJ] at this
 generalize hv:a.tmps.getD t undef=v at this
 cases this
 unfold yielded
 unfold FH at ht
 rw [ht]
 have hv':a.tmps[t]?.getD undef=.bool b:=by simpa using hv
 cases hq:a.tmps[t]? with
 | none=>rw [hq] at hv';simp [undef] at hv'
 | some u =>
  rw [hq] at hv'
  simp only [Option.getD_some] at hv'
  subst hv'
  simp [hq]
theorem Yh (h:JQ cx S a w) {ops:Array Oper} {j t:Nat} (ht:FH ops j=some t) (hb:S.F t=.Em []):yielded ops a.tmps j=none:=by
 obtain ⟨μ,h⟩:=h
 have:=h.slot t
 rw [hb] at this
 generalize hv:a.tmps.getD t undef=v at this
 obtain ⟨vs,hvs⟩:=Sl this
 subst hvs
 unfold yielded
 unfold FH at ht
 rw [ht]
 have hv':a.tmps[t]?.getD undef=.tuple vs:=by simpa using hv
 cases hq:a.tmps[t]? with
 | none=>simp [hq]
 | some u =>
  rw [hq] at hv'
  simp only [Option.getD_some] at hv'
  subst hv'
  simp [hq]
theorem KP {ops:Array Oper} (hg:cx.Good) (h:JQ cx S a w) (hs:GStep cx ops S o S') :
  (Region.wanted o (yielded ops a.tmps)=true /\ Does cx S' o a w) \/ (Region.wanted o (yielded ops a.tmps)=false /\ JQ cx S' (a.put o.dst undef) w):=by
 unfold GStep at hs
 split at hs
 ·rename_i hgd
  exact .inl ⟨by simp [Region.wanted,hgd],hs.does hg h⟩
 ·rename_i j want hgd
  obtain ⟨t,h1,⟨h2,h3⟩ | ⟨h2,h3⟩⟩:=hs
  ·have hy:=TG h h1 h2
   exact .inl ⟨by simp [Region.wanted,hgd,hy],h3.does hg h⟩
  ·subst h3
   refine .inr ⟨?_,h.skip _⟩
   generalize hs:S.F t=sv at h2
   cases h2 with
   | off=>have hy:=TG h h1 hs;cases want<;>simp [Region.wanted,hgd,hy]
   | undef=>have hy:=Yh h h1 hs;simp [Region.wanted,hgd,hy]
def Cx.fence (cx:Cx):Fence:={ Fence.wide with round:=cx.KC }
theorem Sg {n:Nat} {P:Program} {f:FuncId} {args:Array Value} {R:Ending -> World -> Prop} (h:Calls P f args w R):CallsIn cx.fence n P f args w R:=(callsIn_wide (n:=n)).2 h
theorem o8 {P:Program} {row:String} {args:Array Value} {R:Value -> World -> Prop} {n:Nat} (h:Rows P row args w R):RowsIn Fence.wide n P row args w R :=
 fun c cs _=>let ⟨v,w',r,s⟩:=h c cs;⟨v,w',r,stepsIn_wide.2 s⟩
theorem Uj {n:Nat} {P:Program} {row:String} {args:Array Value} {R:Value -> World -> Prop} (h:Rows P row args w R):RowsIn cx.fence n P row args w R:=o8 (n:=n) h
theorem Q8 {n:Nat} {next:Act -> World -> Prop} {Q:Exit -> Act -> World -> Prop} {r:Result Next} (h:o.upon cx.P a next Q r):o.uponIn cx.fence n cx.P a next Q r:=by
 cases r with
 | ok x w' =>
  cases x<;>simp only [Oper.upon,Oper.uponIn] at h ⊢ <;>
   first
    | exact h
    | exact ⟨fun hd=>by simp [Cx.fence,Fence.wide] at hd,Sg h⟩
    | exact ⟨fun hd=>by simp [Cx.fence,Fence.wide] at hd,Uj h⟩
 | halt x w'=>cases x<;>simp only [Oper.upon,Oper.uponIn] at h ⊢<;>exact h
theorem Does.jU (h:JQ cx S a w) (hd:Does cx S' o a w):∀ c,o.op ≠ .defer c:=by
 intro c hc
 have h1:=hd (fun _ _ _=>False)
 unfold Oper.wp at h1
 have he:execOp a.eval o=(do pure (.defer (<- resolve a.eval c o.type)):Sem Next):=by unfold execOp;rw [hc]
 rw [he,Sem.run_bind] at h1
 cases hr:(resolve a.eval c o.type).run cx.P w with
 | ok d w' =>
  rw [hr] at h1
  simp only [Result.andThen,Sem.run_pure,Oper.upon] at h1
  obtain ⟨μ',h2⟩:=h1
  obtain ⟨μ,h⟩:=h
  have e1:=h2.defers
  have e2:=h.defers
  have e3:({ a with defers:=d :: a.defers }:Act).defers=cx.dq:=by rw [<- e1];cases o.dst<;>rfl
  rw [<- e2] at e3
  have:=congrArg List.length e3
  simp at this
 | halt x w' =>
  rw [hr] at h1
  cases x<;>simp [Result.andThen,Oper.upon] at h1
theorem Does.wpIn (h:JQ cx S a w) (hd:Does cx S' o a w) (n:Nat) (Q:Exit -> Act -> World -> Prop):o.wpIn cx.fence n cx.P a w (fun a' w'=>JQ cx S' a' w') Q:=by
 refine ⟨fun _ _=>trivial,?_⟩
 rw [Oper.semAt_eq _ _ _ (hd.jU h)]
 exact Q8 (hd Q)
theorem Nf (hg:cx.Good) {ops:Array Oper} {K:St -> Prop} {Q:Exit -> Act -> World -> Prop} {n:Nat} (hK:∀ S a w,JQ cx S a w -> K S -> Q .normal a w) :
  ∀ (l:List Oper) (S:St) (a:Act) (w:World),JQ cx S a w -> Chain cx ops l S K -> wpListIn cx.fence n cx.P ops Q l a w
 | [],S,a,w,h,hc=>hK S a w h hc
 | o :: l,S,a,w,h,hc=>by
  obtain ⟨S',hs,hc⟩:=hc
  unfold wpListIn
  rcases KP hg h hs with ⟨h1,h2⟩ | ⟨h1,h2⟩
  ·rw [if_pos h1]
   refine Oper.wpIn_mono (fun a' w' h'=>?_) (h2.wpIn h n Q)
   exact Nf hg hK l S' a' w' h' hc
  ·rw [if_neg (by simp [h1])]
   exact ⟨fun _ _=>trivial,Nf hg hK l S' _ w h2 hc⟩
end
end Go.Ab
set_option linter.unusedVariables false
namespace Go.Ab
open Go.RowKit
section
variable {cx:Cx} {S S':St} {a:Act} {w:World}
def Post (cx:Cx) (K:Exit -> St -> Prop) (e:Exit) (a':Act) (w':World):Prop:=(∃ S',JQ cx S' a' w' /\ K e S') \/ (e=.ret /\ cx.fin a' w')
def EF (cx:Cx) (c:Code) (K:Exit -> St -> Prop) (S:St):Prop :=
 ∀ a w,JQ cx S a w -> c.wpIn cx.fence 0 cx.P (Post cx K) a w
def Le (cx:Cx) (S S':St):Prop:=∀ a w,JQ cx S a w -> JQ cx S' a w
theorem EF.le {c:Code} {K:Exit -> St -> Prop} {S0:St} (hl:Le cx S S0) (h:EF cx c K S0):EF cx c K S:=fun a w hs=>h a w (hl a w hs)
theorem Ze (hg:cx.Good) {id:Nat} {ops:Array Oper} {K:Exit -> St -> Prop} (h:Chain cx ops ops.toList S fun S'=>K .normal S'):EF cx (.region id ops false) K S :=
 fun a w hs=>wpIn_region_list (Nf hg (fun S' a' w' h1 h2=>.inl ⟨S',h1,h2⟩) ops.toList S a w hs h)
def yw (cx:Cx) (y:Code) (K:Exit -> St -> Prop):Exit -> St -> Prop
 | .normal,S=>EF cx y K S
 | e,S=>K e S
theorem AL {x y:Code} {K:Exit -> St -> Prop} (h:EF cx x (yw cx y K) S):EF cx (.seq x y) K S:=by
 intro a w hs
 refine wpIn_seq (wpIn_mono (h a w hs) ?_)
 rintro e a' w' (⟨S',h1,h2⟩ | ⟨rfl,hf⟩)
 ·cases e with
  | normal=>exact h2 a' w' h1
  | _=>exact .inl ⟨S',h1,h2⟩
 ·exact .inr ⟨rfl,hf⟩
theorem Fq {c:Operand} {x y:Code} {b:Bool} {K:Exit -> St -> Prop} (hc:S.ev c=.dv (.bool b)) (ht:b=true -> EF cx x K S) (hf:b=false -> EF cx y K S):EF cx (.cond c x y) K S:=by
 intro a w hs
 obtain ⟨μ,h⟩:=hs
 have:=h.ev c
 rw [hc] at this
 simp only [AJ] at this
 generalize hv:a.eval c=v at this
 cases this
 exact wpIn_cond_split hv (fun hb=>ht hb a w ⟨μ,h⟩) (fun hb=>hf hb a w ⟨μ,h⟩)
def mH (id:Nat) (K:Exit -> St -> Prop):Exit -> St -> Prop
 | .exit id',S=>if id'=id then K .normal S else K (.exit id') S
 | e,S=>K e S
theorem BI {id:Nat} {c:Code} {K:Exit -> St -> Prop} (h:EF cx c (mH id K) S):EF cx (.block id c) K S:=by
 intro a w hs
 refine wpIn_block (wpIn_mono (h a w hs) ?_)
 rintro e a' w' (⟨S',h1,h2⟩ | ⟨rfl,hf⟩)
 ·cases e with
  | exit id' =>
   simp only [mH] at h2
   simp only [Exit.inBlock]
   split at h2
   ·rename_i e;rw [if_pos e];exact .inl ⟨S',h1,h2⟩
   ·rename_i e;rw [if_neg e];exact .inl ⟨S',h1,h2⟩
  | _=>exact .inl ⟨S',h1,h2⟩
 ·exact .inr ⟨rfl,hf⟩
theorem Ai {id:Nat} {K:Exit -> St -> Prop} (h:K (.exit id) S):EF cx (.exit id) K S:=fun _ _ hs=>wpIn_exit (.inl ⟨S,hs,h⟩)
theorem AV {K:Exit -> St -> Prop} (h:K .ret S):EF cx .ret K S:=fun _ _ hs=>wpIn_ret (.inl ⟨S,hs,h⟩)
theorem Af {K:Exit -> St -> Prop} (h:K .normal S):EF cx .skip K S:=fun _ _ hs=>wpIn_skip (.inl ⟨S,hs,h⟩)
theorem gT {l:Nat} {K:Exit -> St -> Prop} (h:K .normal S):EF cx (.label l) K S:=fun _ _ hs=>wpIn_label (.inl ⟨S,hs,h⟩)
def zT {ι:Type} (cx:Cx) (inv:ι -> St) (φ:ι -> Prop) (m:ι -> Nat) (i:ι) (K:Exit -> St -> Prop):Exit -> St -> Prop
 | .normal,S=>∃ j,φ j /\ m j < m i /\ Le cx S (inv j)
 | e,S=>K e S
theorem Z5 {F:Fence} {rm:Nat} {P:Program} {Q:Exit -> Act -> World -> Prop} {c:Code} (I:Nat -> Act -> World -> Prop) (n₀:Nat) (h₀:I n₀ a w)
  (round:∀ n a w,I n a w -> c.wpIn F rm P (Exit.then (fun a' w'=>∃ n',n' < n /\ I n' a' w') Q) a w):(Code.loop c).wpIn F rm P Q a w:=by
 refine wpIn_loop (fun a w=>∃ n,I n a w) (fun a w=>leastOf (fun n=>I n a w)) ⟨n₀,h₀⟩ ?_
 intro a w hI
 refine wpIn_mono (round _ a w (leastOf_spec hI).1) ?_
 intro e a' w' hq
 cases e with
 | normal =>
  obtain ⟨n',hlt,hI'⟩:=hq
  exact show (∃ n,I n a' w') /\ leastOf (fun n=>I n a' w') < leastOf (fun n=>I n a w) from ⟨⟨n',hI'⟩,Nat.lt_of_le_of_lt ((leastOf_spec ⟨n',hI'⟩).2 n' hI') hlt⟩
 | _=>exact hq
theorem Ao {ι:Type} {body:Code} {K:Exit -> St -> Prop} (inv:ι -> St) (φ:ι -> Prop) (m:ι -> Nat) (i:ι) (hi:φ i) (hs:Le cx S (inv i))
  (round:∀ i,φ i -> EF cx body (zT cx inv φ m i K) (inv i)):EF cx (.loop body) K S:=by
 intro a w h
 refine Z5 (fun n a w=>∃ i,φ i /\ m i=n /\ JQ cx (inv i) a w) (m i) ⟨i,hi,rfl,hs a w h⟩ ?_
 rintro n a w ⟨i,hi,rfl,h⟩
 refine wpIn_mono (round i hi a w h) ?_
 rintro e a' w' (⟨S',h1,h2⟩ | ⟨rfl,hf⟩)
 ·cases e with
  | normal =>
   obtain ⟨j,hj,hlt,hle⟩:=h2
   exact ⟨m j,hlt,j,hj,rfl,hle a' w' h1⟩
  | _=>exact .inl ⟨S',h1,h2⟩
 ·exact .inr ⟨rfl,hf⟩
def DX (P:Program) (S:St):List ResultVar -> Option (List SV)
 | []=>some []
 | .tmp t :: r=>(DX P S r).map (S.F t :: ·)
 | .cell t ty :: r=>match Dr P ty (S.look (.tmp t)),DX P S r with
  | some s,some l=>some (s :: l)
  | _,_=>none
def E5 (Cv:DV -> Prop) (M:Nat -> Nat × Option Au) (s:SV) (r:R1):Prop :=
 match r with
 | .dv d=>Data (fun _=>True) Cv M s d
 | .row C8 elem n cs=>(s=.Bh /\ n=0 /\ cs=[]) \/ ∃ t g,s=.sl t g 0 n /\ M t=(g,some ⟨cs.map .dv,C8,elem,0,true⟩) /\ cs.length=n * C8 /\ ∀ c ∈ cs,Scalar c
def sN (Cv:DV -> Prop) (M:Nat -> Nat × Option Au):List SV -> List R1 -> Prop
 | [],[]=>True
 | s :: ss,r :: rs=>E5 Cv M s r /\ sN Cv M ss rs
 | _,_=>False
def EG:List SV -> List R1 -> List Nat
 | .sl t _ _ _ :: ss,.row .. :: rs=>t :: EG ss rs
 | _ :: ss,_ :: rs=>EG ss rs
 | _,_=>[]
def FZ (ss:List SV) (rs:List R1):Prop:=(∀ r ∈ rs,∃ d,r=.dv d) \/ ((∀ r ∈ rs,∀ d,r=.dv d -> Scalar d) /\ (EG ss rs).Nodup)
theorem WL {μ:Nat -> Option (Nat × Nat)} (h:BJ cx S a w μ) (hW:∀ b,¬ cx.Wr b) {Cv:DV -> Prop} {Y:Nat -> Prop} (hYB:∀ b,Y b -> b < cx.w0.heap.size)
  (hd:∀ d v,Cv d -> Bn w (XX cx S.M μ) d v -> Bn w Y d v) :
  ∀ (ss:List SV) (rs:List R1) (vs:List Value),sN Cv S.M ss rs -> Ac w S.M μ (XX cx S.M μ) ss vs →
   ∃ obs,Dc cx.w0.heap.size w Y rs vs obs /\ ((EG ss rs).Nodup -> obs.Pairwise fun x y=>∀ b c c',x=some (b,c) -> y ≠ some (b,c')) ∧
    ((∀ r ∈ rs,∃ d,r=.dv d) -> ∀ ob ∈ obs,ob=none) /\ (∀ b c,some (b,c) ∈ obs -> ∃ t ∈ EG ss rs,μ t=some (b,c) /\ ∃ g blk,S.M t=(g,some blk) /\ ED blk.st)
 | [],[],[],_,_=>⟨[],trivial,fun _=>List.Pairwise.nil,fun _ ob h=>absurd h (by simp),fun b c h=>absurd h (by simp)⟩
 | s :: ss,r :: rs,v :: vs,hR,hV=>by
  simp only [Ac] at hV
  obtain ⟨obs,i1,i2,i3,i4⟩:=WL h hW hYB hd ss rs vs hR.2 hV.2
  cases r with
  | dv d =>
   have hD:=Data.rep h (Y:=Y) (fun t g blk b cap e _ hm hy=>by
    rcases (h.place t g blk b cap e hm).1 with h1 | h1
    ·have:=hYB b hy;omega
    ·exact hW b h1) hd hR.1 v hV.1
   have ht:EG (s :: ss) (.dv d :: rs)=EG ss rs:=by cases s<;>rfl
   refine ⟨none :: obs,⟨⟨rfl,hD⟩,i1⟩,fun hn=>List.Pairwise.cons (fun y _ b c c' hx=>by cases hx) (i2 (by rwa [ht] at hn)),fun hall ob yM=>?_,fun b c hbc=>?_⟩
   ·rcases List.mem_cons.1 yM with rfl | h1
    ·rfl
    ·exact i3 (fun r hr=>hall r (List.mem_cons_of_mem _ hr)) ob h1
   ·rcases List.mem_cons.1 hbc with h1 | h1
    ·cases h1
    ·rw [ht];exact i4 b c h1
  | row C8 elem n cs =>
   rcases hR.1 with ⟨rfl,rfl,rfl⟩ | ⟨t,g,rfl,e,hlen,hsc⟩
   ·have hv:=hV.1
    simp only [AJ] at hv
    refine ⟨none :: obs,⟨⟨fun c hc=>(List.not_mem_nil hc).elim,by simp,hv,rfl⟩,i1⟩,fun hn=>List.Pairwise.cons (fun y _ b c c' hx=>by cases hx) (i2 (by simpa only [EG] using hn)),fun hall=>?_,fun b c hbc=>?_⟩
    ·obtain ⟨d,hd'⟩:=hall (.row C8 elem 0 []) (by simp)
     cases hd'
    ·rcases List.mem_cons.1 hbc with h1 | h1
     ·cases h1
     ·simpa only [EG] using i4 b c h1
   have hv:=hV.1
   simp only [AJ] at hv
   have hv2:=hv.2 _ e
   have hb:=h.blk t g _ e
   unfold Bt at hb
   cases hm:μ t with
   | none =>
    rw [hm] at hv2 hb
    simp only at hv2 hb
    refine ⟨none :: obs,⟨⟨hsc,hlen,hv2.1,hv2.2.1⟩,i1⟩,fun hn=>List.Pairwise.cons (fun y _ b c c' hx=>by cases hx) (i2 (by simp only [EG] at hn;exact (List.nodup_cons.1 hn).2)),fun hall=>?_,fun b c hbc=>?_⟩
    ·obtain ⟨d,hd'⟩:=hall (.row C8 elem n cs) (by simp)
     cases hd'
    ·rcases List.mem_cons.1 hbc with h1 | h1
     ·cases h1
     ·obtain ⟨t',ht',q⟩:=i4 b c h1
      exact ⟨t',by simp only [EG];exact List.mem_cons_of_mem _ ht',q⟩
   | some p =>
    obtain ⟨b,cap⟩:=p
    rw [hm] at hv2 hb
    simp only at hv2 hb
    obtain ⟨hv3,hcap⟩:=hv2
    obtain ⟨cur,q1,q2,q3,q4,_⟩:=hb
    obtain ⟨q4,q5⟩:=q4 trivial
    simp only [Nat.zero_mul,Nat.sub_zero,Nat.zero_add] at hv3 hcap
    have hpl:=h.place t g _ b cap e hm
    have hB:cx.w0.heap.size <= b:=hpl.1.elim id (fun h1=>(hW b h1).elim)
    refine ⟨some (b,cap) :: obs,⟨⟨hsc,hlen,hB,hpl.2,hv3,hcap,cur,q1,q4,q5,by simpa using q2,fun j c u hc hu=>?_⟩,i1⟩,fun hn=>?_,fun hall=>?_,fun b' c hbc=>?_⟩
    ·have:=q3 j (.dv c) u (by simp [hc]) hu
     simp only [AJ] at this
     exact this.weaken fun _ h=>h.elim
    ·simp only [EG] at hn
     obtain ⟨hn1,hn2⟩:=List.nodup_cons.1 hn
     refine List.Pairwise.cons (fun y hy b' c c' hx hy'=>?_) (i2 hn2)
     simp only [Option.some.injEq,Prod.mk.injEq] at hx
     obtain ⟨rfl,rfl⟩:=hx
     subst hy'
     obtain ⟨t',ht',hm',g',Aj,e',hst'⟩:=i4 b c' hy
     have hne:t ≠ t':=fun h1=>hn1 (h1 ▸ ht')
     have:=(h.uniq t g _ t' g' Aj b cap c' hne e e' zL hm hm').1
     unfold ED at hst';omega
    ·obtain ⟨d,hd'⟩:=hall (.row C8 elem n cs) (by simp)
     cases hd'
    ·rcases List.mem_cons.1 hbc with h1 | h1
     ·simp only [Option.some.injEq,Prod.mk.injEq] at h1
      obtain ⟨rfl,rfl⟩:=h1
      exact ⟨t,by simp [EG],hm,g,_,e,zL⟩
     ·obtain ⟨t',ht',q⟩:=i4 b' c h1
      exact ⟨t',by simp only [EG];exact List.mem_cons_of_mem _ ht',q⟩
 | [],[],_ :: _,_,hV=>by simp only [Ac] at hV
 | [],_ :: _,_,hR,_=>hR.elim
 | _ :: _,[],_,hR,_=>hR.elim
 | _ :: _,_ :: _,[],_,hV=>by simp only [Ac] at hV
theorem QV {Y Y':Nat -> Prop} {B:Nat} {w:World}:∀ {rs:List R1} {vs:List Value} {obs:List (Option (Nat × Nat))},(∀ r ∈ rs,∀ d,r=.dv d -> Scalar d) -> Dc B w Y rs vs obs -> Dc B w Y' rs vs obs
 | [],[],[],_,_=>trivial
 | r :: rs,v :: vs,ob :: obs,hs,h=>by
  refine ⟨?_,QV (fun r hr=>hs r (List.mem_cons_of_mem _ hr)) h.2⟩
  have h1:=h.1
  cases r with
  | dv d=>exact ⟨h1.1,(hs _ (by simp) d rfl).rep h1.2⟩
  | row C8 elem n cs=>exact h1
 | [],[],_ :: _,_,h=>h.elim
 | [],_ :: _,_,_,h=>by cases h
 | _ :: _,[],_,_,h=>by cases h
 | _ :: _,_ :: _,[],_,h=>by cases h
def Qc (tmps:Array Value):ResultVar -> Sem Value
 | .tmp t=>pure (tmps.getD t undef)
 | .cell p t=>do loadVar t (<- asAddr (tmps.getD p undef))
theorem IY {μ:Nat -> Option (Nat × Nat)} (h:BJ cx S a w μ):∀ (rs:List ResultVar) (ss:List SV),DX cx.P S rs=some ss →
  ∃ vs,(rs.mapM (Qc a.tmps):Sem (List Value)).run cx.P w=.ok vs w /\ Ac w S.M μ (XX cx S.M μ) ss vs
 | [],ss,hr=>by
  simp only [DX,Option.some.injEq] at hr
  subst hr
  exact ⟨[],by simp,trivial⟩
 | .tmp t :: rs,ss,hr=>by
  simp only [DX] at hr
  obtain ⟨l,h1,rfl⟩:=Option.map_eq_some_iff.1 hr
  obtain ⟨vs,i1,i2⟩:=IY h rs l h1
  refine ⟨a.tmps.getD t undef :: vs,?_,?_⟩
  ·simp only [List.mapM_cons,Qc,Sem.run_bind,Sem.run_pure,Result.andThen_ok,i1]
  ·simp only [Ac];exact ⟨h.slot t,i2⟩
 | .cell p t :: rs,ss,hr=>by
  simp only [DX] at hr
  split at hr
  ·rename_i s l h0 h1
   simp only [Option.some.injEq] at hr
   subst hr
   obtain ⟨vs,i1,i2⟩:=IY h rs l h1
   have ld:∃ v,(Qc a.tmps (.cell p t)).run cx.P w=.ok v w /\ AJ w S.M μ (XX cx S.M μ) s v:=by
    obtain ⟨v,h1,h2⟩:=Wx (x:=.tmp p) h h0
    refine ⟨v,?_,h2⟩
    rw [<- h1]
    show (do loadVar t (<- asAddr (a.tmps.getD p undef)):Sem Value).run cx.P w=(do loadVar t (<- Instr.sureAddr (a.tmps.getD p undef)):Sem Value).run cx.P w
    have h1':(do loadVar t (<- Instr.sureAddr (a.tmps.getD p undef)):Sem Value).run cx.P w=.ok v w:=h1
    generalize a.tmps.getD p undef=x at h1' ⊢
    cases x with
    | pointer q =>
     cases q with
     | some q=>rfl
     | none=>simp [Instr.sureAddr] at h1'
    | _=>simp [Instr.sureAddr] at h1'
   obtain ⟨v,l1,l2⟩:=ld
   refine ⟨v :: vs,?_,?_⟩
   ·simp only [List.mapM_cons,Sem.run_bind,l1,Result.andThen_ok,i1,Sem.run_pure]
   ·simp only [Ac];exact ⟨l2,i2⟩
  ·cases hr
def WM:List R1 -> Px
 | [r]=>.one r
 | rs=>.many rs
def Gb (ds:List DV):Nat -> SV:=fun i=>match ds[i]? with | some d=>.dv d | none=>.dead
def PU (P:Program) (Cv:DV -> Prop) (rv:List ResultVar) (res:Px):Exit -> St -> Prop:=fun e S =>
 (e=.normal \/ e=.ret) /\ ∃ ss rs,DX P S rv=some ss /\ sN Cv S.M ss rs /\ FZ ss rs /\ res=WM rs
theorem O1 {P:Program} {n:Nat} {w:World} {X:Nat -> Prop} {ds:List DV} {vs:Array Value} (hA:Args w X ds vs) (hn:ds.length <= n) :
  BJ { P:=P,w0:=w,n:=n,Wr:=fun _=>False,X0:=X } ⟨Gb ds,fun _=>(0,none)⟩ { tmps:=vs ++ Array.replicate (n - vs.size) undef,defers:=[] } w (fun _=>none):=by
 refine ⟨fun t g blk e=>by simp at e,fun i=>?_,fun t g blk b cap e=>by simp at e,fun t g blk t' g' Aj b cap cap' _ e=>by simp at e,fun t g blk e=>by simp at e,Dg.refl _ _,?_,rfl⟩
 ·show AJ w _ _ _ (Gb ds i) _
  unfold Gb
  split
  ·rename_i d hd
   have hi:i < vs.size:=by rw [hA.1];exact (List.getElem?_eq_some_iff.1 hd).1
   have e:(vs ++ Array.replicate (n - vs.size) undef).getD i undef=vs.getD i undef:=by simp [Array.getElem?_append_left hi]
   simp only [AJ]
   rw [e]
   refine (hA.2 i d hd).weaken fun b hb=>?_
   rcases hb with ⟨t,g,blk,cap,e1,_,e3⟩ | hx
   ·cases e3
   ·exact hx
  ·trivial
 ·show (vs ++ Array.replicate (n - vs.size) undef).size=n
  rw [Array.size_append,Array.size_replicate,hA.1]
  omega
theorem VI {cx:Cx} {S:St} {a:Act} {w:World} {μ:Nat -> Option (Nat × Nat)} (h:BJ cx S a w μ) (hW:∀ b,¬ cx.Wr b) {Cv:DV -> Prop} {Y:Nat -> Prop} (hYB:∀ b,Y b -> b < cx.w0.heap.size)
  (hd:∀ d v,Cv d -> Bn w (XX cx S.M μ) d v -> Bn w Y d v) {fn:Func} {ss:List SV} {rs:List R1} (h1:DX cx.P S fn.results.toList=some ss) (h2:sN Cv S.M ss rs) (h3:FZ ss rs) :
  ∃ v,(results fn a.tmps).run cx.P w=.ok v w /\ Jq cx.w0.heap.size w Y (WM rs) v:=by
 obtain ⟨vs,r1,r2⟩:=IY h _ ss h1
 obtain ⟨obs,o1,o2,o3,_⟩:=WL h hW hYB hd ss rs vs h2 r2
 have len:∀ (rs:List R1) (vs:List Value) (obs:List (Option (Nat × Nat))),Dc cx.w0.heap.size w Y rs vs obs -> rs.length=vs.length:=by
  intro rs
  induction rs with
  | nil=>intro vs obs hR;cases vs<;>cases obs<;>first | rfl | cases hR
  | cons r rs ih =>
   intro vs obs hR
   cases vs with
   | nil=>cases obs<;>cases hR
   | cons v vs =>
    cases obs with
    | nil=>cases hR
    | cons ob obs=>simp [ih vs obs hR.2]
 have hlen:=len _ _ _ o1
 have vN:Dc cx.w0.heap.size w (fun b=>Y b \/ El obs b) rs vs obs:=by
  rcases h3 with h3 | h3
  ·refine o1.weaken fun b hb=>hb.elim id fun ⟨c,hc⟩=>?_
   have:=o3 h3 _ hc
   cases this
  ·exact QV h3.1 o1
 have pw:∀ obs:List (Option (Nat × Nat)),(∀ ob ∈ obs,ob=none) -> obs.Pairwise fun x y=>∀ b c c',x=some (b,c) -> y ≠ some (b,c'):=by
  intro obs
  induction obs with
  | nil=>intro _;exact .nil
  | cons x obs ih=>exact fun hall=>.cons (fun y _ b c c' hx=>by rw [hall x (by simp)] at hx;cases hx) (ih fun z hz=>hall z (List.mem_cons_of_mem _ hz))
 have yK:obs.Pairwise fun x y=>∀ b c c',x=some (b,c) -> y ≠ some (b,c'):=by
  rcases h3 with h3 | h3
  ·exact pw obs (o3 h3)
  ·exact o2 h3.2
 have hrun:(results fn a.tmps).run cx.P w=.ok (if hh:vs.toArray.size=1 then vs.toArray[0] else .tuple vs.toArray) w:=by
  show (do let vs <- fn.results.mapM (Qc a.tmps);pure (if hh:vs.size=1 then vs[0] else .tuple vs):Sem Value).run cx.P w=_
  rw [Array.mapM_eq_mapM_toList]
  simp [r1]
 refine ⟨_,hrun,?_⟩
 match rs,vs,obs,hlen,vN,yK with
 | [r],[v],[ob],_,vN,yK=>exact ⟨ob,vN.1⟩
 | [],[],obs,_,vN,yK=>exact ⟨[],obs,rfl,vN,yK⟩
 | r :: r' :: rs,v :: v' :: vs,obs,_,vN,yK=>exact ⟨v :: v' :: vs,obs,by simp,vN,yK⟩
theorem H9 {P:Program} {f:FuncId} {fn:Func} {c:Code} (hf:P.funcs[f]?=some fn) (hb:fn.body=some c) (hname:(fn.name == "runtime.NumGoroutine")=false):ES P f :=
 ⟨fn,hf,hname,by simp [hb]⟩
theorem Bv {P:Program} {f:FuncId} {fn:Func} {c:Code} {ds:List DV} {res:Px} (hf:P.funcs[f]?=some fn) (hb:fn.body=some c) (hname:(fn.name == "runtime.NumGoroutine")=false) (hn:ds.length <= fn.ntmps)
  (h:∀ cx:Cx,cx.P=P -> cx.n=fn.ntmps -> cx.Good -> EF cx c (PU P Scalar fn.results.toList res) ⟨Gb ds,fun _=>(0,none)⟩):AR P f ds res:=by
 refine ⟨H9 hf hb hname,fun w vs hL hA=>callsIn_wide.1 (callsIn_of_wp (F:=Fence.wide) (n:=0) hf hb trivial ?_)⟩
 have hs:=O1 (P:=P) hA hn
 refine wpIn_mono (h { P:=P,w0:=w,n:=fn.ntmps,Wr:=fun _=>False,X0:=fun _=>False } rfl rfl ⟨fun b hb=>hb.elim,hL,fun g _=>⟨fun h=>h,fun h=>h⟩⟩ _ w ⟨_,hs⟩) ?_
 rintro e a' w' (⟨S',⟨μ,h1⟩,he,ss,rs,e1,e2,e3,rfl⟩ | ⟨_,hf⟩)
 rotate_left
 ·exact (show False from hf).elim
 obtain ⟨v,v1,v2⟩:=VI (fn:=fn) (Y:=fun b=>b < w.heap.size) h1 (fun b hb=>hb) (fun b hb=>hb) (fun d v hd hr=>hd.rep hr) e1 e2 e3
 have hbl:Below w.heap.size w w':=⟨h1.below.os,h1.below.tape,h1.below.output,h1.below.size,fun k hk=>h1.below.block k hk (fun hf=>hf)⟩
 rcases he with rfl | rfl<;>exact ⟨h1.defers,v,v1,v,rfl,hbl,v2⟩
theorem JM {P:Program} {f:FuncId} {fn:Func} {c:Code} {ds:List DV} {res:Px} (hf:P.funcs[f]?=some fn) (hb:fn.body=some c) (hname:(fn.name == "runtime.NumGoroutine")=false) (hn:ds.length <= fn.ntmps)
  (h:∀ cx:Cx,cx.P=P -> cx.n=fn.ntmps -> cx.Good -> EF cx c (PU P (fun _=>True) fn.results.toList res) ⟨Gb ds,fun _=>(0,none)⟩):FN P f ds res:=by
 refine ⟨H9 hf hb hname,fun w X vs hX hL hL2 hA=>callsIn_wide.1 (callsIn_of_wp (F:=Fence.wide) (n:=0) hf hb trivial ?_)⟩
 have hs:=O1 (P:=P) hA hn
 refine wpIn_mono (h { P:=P,w0:=w,n:=fn.ntmps,Wr:=fun _=>False,X0:=X } rfl rfl ⟨fun b hb=>⟨hX b hb,fun hf=>hf⟩,hL,fun g hg=>⟨hL2 g hg,fun h=>h⟩⟩ _ w ⟨_,hs⟩) ?_
 rintro e a' w' (⟨S',⟨μ,h1⟩,he,ss,rs,e1,e2,e3,rfl⟩ | ⟨_,hf⟩)
 rotate_left
 ·exact (show False from hf).elim
 obtain ⟨v,v1,v2⟩:=VI (fn:=fn) (Y:=X) h1 (fun b hb=>hb) (fun b hb=>hX b hb) (fun d v hd hr=>hr.weaken fun b hb=>.inr hb) e1 e2 e3
 have hbl:Below w.heap.size w w':=⟨h1.below.os,h1.below.tape,h1.below.output,h1.below.size,fun k hk=>h1.below.block k hk (fun hf=>hf)⟩
 rcases he with rfl | rfl<;>exact ⟨h1.defers,v,v1,v,rfl,hbl,v2⟩
end
end Go.Ab
set_option linter.unusedVariables false
namespace Go.Ab
open Go.RowKit
structure Eff where
 dst:Option Nat
 val:SV
 kv:Bool
 ms:List (Nat × Nat × Option Au)
def D6 (M:Nat -> Nat × Option Au):List (Nat × Nat × Option Au) -> (Nat -> Nat × Option Au)
 | []=>M
 | (t,e) :: l=>D6 (upd M t e) l
def Eff.app (S:St) (e:Eff):St:=⟨match e.dst with | some d=>upd S.F d e.val | none=>S.F,D6 (if e.kv then Bd S.M else S.M) e.ms⟩
def Eff.hits (e:Eff) (t:Nat):Bool:=e.kv || e.ms.any fun p=>p.1 == t
theorem WH:∀ (l:List (Nat × Nat × Option Au)) (M M':Nat -> Nat × Option Au) (t:Nat),M t=M' t -> D6 M l t=D6 M' l t
 | [],_,_,_,h=>h
 | (k,e) :: l,M,M',t,h=>WH l _ _ t (by by_cases hk:t=k<;>simp [upd,hk,h])
theorem WG:∀ (l:List (Nat × Nat × Option Au)) (M:Nat -> Nat × Option Au) (t:Nat),(l.any fun p=>p.1 == t)=false -> D6 M l t=M t
 | [],_,_,_=>rfl
 | (k,e) :: l,M,t,h=>by
  simp only [List.any_cons,Bool.or_eq_false_iff,beq_eq_false_iff_ne,ne_eq] at h
  rw [D6,WG l _ t h.2,upd_ne _ _ _ _ (fun e=>h.1 e.symm)]
theorem Ol {M M':Nat -> Nat × Option Au} {t:Nat} (h:M t=M' t):Bd M t=Bd M' t:=by
 unfold Bd
 simp only [h]
def Fg (l:List Eff) (S:St):St:=l.foldl (fun S e=>e.app S) S
theorem A1G {e:Eff} {S S':St} {s:Nat} (h:S.F s=S'.F s):(e.app S).F s=(e.app S').F s:=by
 unfold Eff.app
 cases e.dst with
 | none=>exact h
 | some d=>by_cases hd:s=d<;>simp [upd,hd,h]
theorem UF {e:Eff} {S:St} {s:Nat} (h:(e.dst == some s)=false):(e.app S).F s=S.F s:=by
 unfold Eff.app
 cases hd:e.dst with
 | none=>rfl
 | some d =>
  have hne:s ≠ d:=fun he=>by rw [hd,he] at h;simp at h
  exact upd_ne _ _ _ _ hne
theorem YF {e:Eff} {S:St} {s:Nat} (h:(e.dst == some s)=true):(e.app S).F s=e.val:=by
 simp only [beq_iff_eq] at h
 unfold Eff.app
 rw [h]
 exact upd_same _ _ _
theorem uJ {e:Eff} {S S':St} {t:Nat} (h:S.M t=S'.M t):(e.app S).M t=(e.app S').M t:=by
 unfold Eff.app
 apply WH
 cases e.kv
 ·exact h
 ·exact Ol h
theorem UE {e:Eff} {S:St} {t:Nat} (h:e.hits t=false):(e.app S).M t=S.M t:=by
 simp only [Eff.hits,Bool.or_eq_false_iff] at h
 unfold Eff.app
 rw [h.1]
 exact WG _ _ _ h.2
theorem OT:∀ (l:List Eff) (S S':St) (s:Nat),S.F s=S'.F s -> (Fg l S).F s=(Fg (l.filter fun e=>e.dst == some s) S').F s
 | [],_,_,_,h=>h
 | e :: l,S,S',s,h=>by
  cases he:e.dst == some s with
  | false =>
   rw [List.filter_cons_of_neg (by simp [he])]
   exact OT l _ _ s ((UF he).trans h)
  | true =>
   rw [List.filter_cons_of_pos (by simp [he])]
   exact OT l _ _ s (A1G h)
theorem M5:∀ (l:List Eff) (S S':St) (t:Nat),S.M t=S'.M t -> (Fg l S).M t=(Fg (l.filter fun e=>e.hits t) S').M t
 | [],_,_,_,h=>h
 | e :: l,S,S',t,h=>by
  cases he:e.hits t with
  | false =>
   rw [List.filter_cons_of_neg (by simp [he])]
   exact M5 l _ _ t ((UE he).trans h)
  | true =>
   rw [List.filter_cons_of_pos (by simp [he])]
   exact M5 l _ _ t (uJ h)
def Rx (cx:Cx) (ops:Array Oper) (R:List Nat) (S:St) (o:Oper) (e:Eff):Prop :=
 ∀ T:St,(∀ s ∈ o.looksAt ops,T.F s=S.F s) -> (∀ t ∈ R,T.M t=S.M t) -> GStep cx ops T o (e.app T)
structure It where
 R:List Nat
 e:Eff
def It.Q9 (i:It):It:=⟨i.R,{ i.e with kv:=false }⟩
def tC (l:List (Nat × Nat × Option Au)):Bool:=l.all fun p=>match p.2.2 with | some b=>b.st != 2 | none=>true
def sw (its:List It):Bool:=its.all fun i=>tC i.e.ms
def YP (M:Nat -> Nat × Option Au):Prop:=∀ t g b,M t=(g,some b) -> b.st ≠ 2
theorem YP.views {M:Nat -> Nat × Option Au} (h:YP M):Bd M=M:=by
 funext t
 unfold Bd
 split
 ·rename_i b hb
  rw [if_neg (h t (M t).1 b (by rw [<- hb]))]
 ·rfl
theorem YP.D6:∀ {l:List (Nat × Nat × Option Au)} {M:Nat -> Nat × Option Au},YP M -> tC l=true -> YP (D6 M l)
 | [],_,h,_=>h
 | (k,g,ob) :: l,M,h,hl=>by
  simp only [tC,List.all_cons,Bool.and_eq_true] at hl
  refine YP.D6 (l:=l) (fun t g' b e=>?_) (by simpa [tC] using hl.2)
  by_cases ht:t=k
  ·subst ht
   rw [upd_same] at e
   simp only [Prod.mk.injEq] at e
   obtain ⟨_,rfl⟩:=e
   simpa using hl.1
  ·rw [upd_ne _ _ _ _ ht] at e
   exact h t g' b e
theorem Eff.YE {S:St} {i:It} (h:YP S.M):i.Q9.e.app S=i.e.app S:=by
 unfold It.Q9 Eff.app
 cases i.e.kv
 ·rfl
 ·simp only [if_true,Bool.false_eq_true,if_false,h.views]
theorem RD:∀ {l:List It} {S:St},YP S.M -> sw l=true -> Fg (l.map fun i=>i.Q9.e) S=Fg (l.map (·.e)) S /\ YP (Fg (l.map (·.e)) S).M
 | [],S,h,_=>⟨rfl,h⟩
 | i :: l,S,h,hl=>by
  simp only [sw,List.all_cons,Bool.and_eq_true] at hl
  have h2:YP (i.e.app S).M:=by
   show YP (Go.Ab.D6 (if i.e.kv then Bd S.M else S.M) i.e.ms)
   rw [h.views,ite_self]
   exact h.D6 hl.1
  have ih:=RD (l:=l) h2 (by simpa [sw] using hl.2)
  simp only [List.map_cons,Fg,List.foldl_cons] at ih ⊢
  rw [Eff.YE h]
  exact ih
theorem Vl (L:Nat -> Bool):∀ (l:List It) (n:Nat),((((l.map It.Q9).zipIdx n).filter fun p=>L p.2).map (·.1.e))=(((l.zipIdx n).filter fun p=>L p.2).map (·.1)).map fun i=>i.Q9.e
 | [],n=>by simp
 | i :: l,n=>by
  have ih:=Vl L l (n+1)
  rw [List.map_cons,List.zipIdx_cons,List.zipIdx_cons]
  cases h:L n with
  | true =>
   rw [List.filter_cons_of_pos (by simpa using h),List.filter_cons_of_pos (by simpa using h)]
   simp only [List.map_cons,ih]
  | false =>
   rw [List.filter_cons_of_neg (by simp [h]),List.filter_cons_of_neg (by simp [h])]
   exact ih
def yB (Φ:St -> Prop) (cx:Cx) (ops:Array Oper) (R:List Nat) (S:St) (o:Oper) (e:Eff):Prop :=
 ∀ T:St,Φ T -> (∀ s ∈ o.looksAt ops,T.F s=S.F s) -> (∀ t ∈ R,T.M t=S.M t) -> GStep cx ops T o (e.app T)
def indep (ops:Array Oper) (x y:Oper) (i j:It):Bool :=
 x.apart ops y && (i.e.ms.all fun p=>!j.R.contains p.1) && (j.e.ms.all fun p=>!i.R.contains p.1) && (!i.e.kv || j.R.isEmpty) && (!j.e.kv || i.R.isEmpty)
def Zg (md:Region.Mode):List Oper -> List Nat -> List Nat
 | [],acc=>acc
 | o :: l,acc=>Zg md l (acc ++ [o.after.toList.foldl (fun s e=>if Region.binds md e then s ||| 2 ^ e.on ||| acc.getD e.on 0 else s) 0])
def U8 (md:Region.Mode):List Oper -> Nat -> Bool
 | [],_=>true
 | o :: l,n=>(o.after.toList.all fun e=>!Region.binds md e || decide (e.on < n)) && U8 md l (n+1)
def kg (md:Region.Mode) (ops:Array Oper) (its:List It) (Ei:List Nat):Bool :=
 (List.range ops.size).all fun j=>(List.range j).all fun i =>
  (Ei.getD j 0).testBit i ||
  match ops[i]?,ops[j]?,its[i]?,its[j]? with
  | some x,some y,some a,some b=>indep ops x y a b
  | _,_,_,_=>false
section
variable {cx:Cx} {ops:Array Oper} {its:List It} {S0:St} {Φ:St -> Prop}
def Kc (its:List It) (S0:St) (L:Nat -> Bool):St:=Fg ((its.zipIdx.filter fun p=>L p.2).map (·.1.e)) S0
theorem qO (c:Eff -> Bool) (L:Nat -> Bool):(((its.zipIdx.filter fun p=>L p.2).map (·.1.e)).filter c)=(its.zipIdx.filter fun p=>L p.2 && c p.1.e).map (·.1.e):=by
 rw [List.filter_map,List.filter_filter]
 congr 1
 apply List.filter_congr
 intro p _
 simp [Bool.and_comm]
structure LU (Φ:St -> Prop) (cx:Cx) (ops:Array Oper) (its:List It) (S0:St):Prop where
 len:its.length=ops.size
 one:∀ (i:Nat) o it,ops[i]?=some o -> its[i]?=some it -> it.e.dst=o.dst /\ (∀ p ∈ it.e.ms,p.1 ∈ it.R) /\ (it.e.kv=true -> it.R ≠ []) /\ yB Φ cx ops it.R (Kc its S0 fun k=>decide (k < i)) o it.e
 phi:∀ L:Nat -> Bool,Φ (Kc its S0 L)
theorem Pb {p:It × Nat} (h:p ∈ its.zipIdx):its[p.2]?=some p.1:=by
 obtain ⟨it,i⟩:=p
 have:=List.mem_zipIdx_iff_getElem?.1 h
 exact this
theorem uN {i:Nat} {it:It} (h:its[i]?=some it):∃ A B,its.zipIdx=A ++ (it,i) :: B /\ (∀ p ∈ A,p.2 < i) /\ (∀ p ∈ B,i < p.2):=by
 have hi:=(List.getElem?_eq_some_iff.1 h).1
 refine ⟨(its.take i).zipIdx,(its.drop (i+1)).zipIdx (i+1),?_,fun p hp=>?_,fun p hp=>?_⟩
 ·have e:its=its.take i ++ it :: its.drop (i+1):=by
   have h1:=(List.getElem?_eq_some_iff.1 h).2
   rw [<- h1,List.getElem_cons_drop,List.take_append_drop]
  have e2:its.zipIdx=(its.take i ++ it :: its.drop (i+1)).zipIdx:=by rw [<- e]
  rw [e2,List.zipIdx_append,List.zipIdx_cons]
  have hl:(its.take i).length=i:=by rw [List.length_take];omega
  rw [hl,Nat.zero_add]
 ·have:=List.mem_zipIdx hp
  have hl:(its.take i).length=i:=by rw [List.length_take];omega
  omega
 ·have:=List.mem_zipIdx hp
  omega
structure Free (md:Region.Mode) (ops:Array Oper) (its:List It):Prop where
 back:∀ (i:Nat) o,ops[i]?=some o -> ∀ e ∈ o.after,Region.binds md e=true -> e.on < i
 Ei:∀ (i j:Nat) x y a b,i < j -> ops[i]?=some x -> ops[j]?=some y -> its[i]?=some a -> its[j]?=some b →
  indep ops x y a b=true \/ ∀ L:Nat -> Bool,(∀ k o,ops[k]?=some o -> L k=true -> ∀ e ∈ o.after,Region.binds md e=true -> L e.on=true) -> (∀ e ∈ y.after,Region.binds md e=true -> L e.on=true) -> L i=true
def yS (md:Region.Mode) (ops:Array Oper) (L:Nat -> Bool):Prop:=∀ k o,ops[k]?=some o -> L k=true -> ∀ e ∈ o.after,Region.binds md e=true -> L e.on=true
theorem Lp {x y:Oper} {a b:It} (h:indep ops x y a b=true):x.apart ops y=true:=by
 simp only [indep,Bool.and_eq_true] at h
 exact h.1.1.1.1
theorem OL {x y:Oper} {a b:It} (h:indep ops x y a b=true) (ha:∀ p ∈ a.e.ms,p.1 ∈ a.R) (hb:∀ p ∈ b.e.ms,p.1 ∈ b.R) (hka:a.e.kv=true -> a.R ≠ []) (hkb:b.e.kv=true -> b.R ≠ []) {t:Nat} :
  (a.e.hits t=true -> t ∉ b.R) /\ (b.e.hits t=true -> t ∉ a.R) /\ ¬ (a.e.hits t=true /\ b.e.hits t=true):=by
 simp only [indep,Bool.and_eq_true,List.all_eq_true,Bool.not_eq_true',Bool.or_eq_true,List.isEmpty_iff,List.contains_eq_mem,decide_eq_false_iff_not] at h
 obtain ⟨⟨⟨⟨_,h1⟩,h2⟩,h3⟩,h4⟩:=h
 have hit:∀ e:Eff,e.hits t=true -> e.kv=true \/ ∃ p ∈ e.ms,p.1=t:=fun e he=>by
  simp only [Eff.hits,Bool.or_eq_true,List.any_eq_true,beq_iff_eq] at he
  exact he
 have p1:a.e.hits t=true -> t ∉ b.R:=fun he ht=>by
  rcases hit _ he with hk | ⟨p,hp,rfl⟩
  ·rcases h3 with h3 | h3
   ·rw [h3] at hk;cases hk
   ·rw [h3] at ht;cases ht
  ·exact h1 p hp ht
 have p2:b.e.hits t=true -> t ∉ a.R:=fun he ht=>by
  rcases hit _ he with hk | ⟨p,hp,rfl⟩
  ·rcases h4 with h4 | h4
   ·rw [h4] at hk;cases hk
   ·rw [h4] at ht;cases ht
  ·exact h2 p hp ht
 refine ⟨p1,p2,fun ⟨e1,e2⟩=>?_⟩
 rcases hit _ e1 with hk | ⟨p,hp,rfl⟩
 ·rcases h3 with h3 | h3
  ·rw [h3] at hk;cases hk
  ·rcases hit _ e2 with hk2 | ⟨p,hp,_⟩
   ·exact hkb hk2 h3
   ·have:=hb p hp;rw [h3] at this;cases this
 ·exact p2 e2 (ha p hp)
variable {md:Region.Mode}
theorem YH (ok:LU Φ cx ops its S0) (fr:Free md ops its) {L:Nat -> Bool} (hc:yS md ops L) {i:Nat} {o:Oper} {it:It} (ho:ops[i]?=some o) (hit:its[i]?=some it) (fA:L i=false)
  (hpre:∀ e ∈ o.after,Region.binds md e=true -> L e.on=true) (c:Eff -> Bool)
  (hself:True) (kG:∀ (j:Nat) oj b,ops[j]?=some oj -> its[j]?=some b -> c b.e=true -> (indep ops o oj it b=true \/ indep ops oj o b it=true) -> False) :
  (((its.zipIdx.filter fun p=>L p.2).map (·.1.e)).filter c)=(((its.zipIdx.filter fun p=>decide (p.2 < i)).map (·.1.e)).filter c):=by
 rw [qO c L,qO c fun k=>decide (k < i)]
 congr 1
 apply List.filter_congr
 rintro ⟨b,j⟩ hp
 have hb:its[j]?=some b:=Pb hp
 have hj:j < ops.size:=by rw [<- ok.len];exact (List.getElem?_eq_some_iff.1 hb).1
 have hoj:ops[j]?=some ops[j]:=by simp [hj]
 cases hcb:c b.e with
 | false=>simp
 | true =>
  simp only [Bool.and_true]
  rcases Nat.lt_trichotomy j i with h | h | h
  ·have:L j=true:=by
    rcases fr.Ei j i _ _ _ _ h hoj ho hb hit with h1 | h1
    ·exact (kG j _ b hoj hb hcb (.inr h1)).elim
    ·exact h1 L hc hpre
   rw [this];simp [h]
  ·subst h;simp [fA]
  ·have:L j=false:=by
    cases hLj:L j with
    | false=>rfl
    | true =>
     rcases fr.Ei i j _ _ _ _ h ho hoj hit hb with h1 | h1
     ·exact (kG j _ b hoj hb hcb (.inl h1)).elim
     ·rw [h1 L hc (hc j _ hoj hLj)] at fA;cases fA
   rw [this]
   have:¬ j < i:=by omega
   simp [this]
theorem Ub (ok:LU Φ cx ops its S0) (fr:Free md ops its) {L:Nat -> Bool} (hc:yS md ops L) {i:Nat} {o:Oper} {it:It} (ho:ops[i]?=some o) (hit:its[i]?=some it) (fA:L i=false)
  (hpre:∀ e ∈ o.after,Region.binds md e=true -> L e.on=true):GStep cx ops (Kc its S0 L) o (it.e.app (Kc its S0 L)):=by
 obtain ⟨k1,k2,k3,k4⟩:=ok.one i o it ho hit
 refine k4 _ (ok.phi L) (fun s hs=>?_) (fun t ht=>?_)
 ·unfold Kc
  rw [OT _ S0 S0 s rfl,OT ((its.zipIdx.filter fun p=>decide (p.2 < i)).map (·.1.e)) S0 S0 s rfl]
  rw [YH ok fr hc ho hit fA hpre (fun e=>e.dst == some s) trivial]
  intro j oj b hoj hb hcb hin
  obtain ⟨q1,q2,q3,_⟩:=ok.one j oj b hoj hb
  simp only [beq_iff_eq] at hcb
  rw [q1] at hcb
  rcases hin with h | h
  ·exact (Oper.apart_spec (Lp h)).2.2 s hcb hs
  ·exact (Oper.apart_spec (Lp h)).1 s hcb hs
 ·unfold Kc
  rw [M5 _ S0 S0 t rfl,M5 ((its.zipIdx.filter fun p=>decide (p.2 < i)).map (·.1.e)) S0 S0 t rfl]
  rw [YH ok fr hc ho hit fA hpre (fun e=>e.hits t) trivial]
  intro j oj b hoj hb hcb hin
  obtain ⟨q1,q2,q3,_⟩:=ok.one j oj b hoj hb
  rcases hin with h | h
  ·exact (OL h k2 q2 k3 q3).2.1 hcb ht
  ·exact (OL h q2 k2 q3 k3).1 hcb ht
theorem Tg (ok:LU Φ cx ops its S0) (fr:Free md ops its) {L:Nat -> Bool} (hc:yS md ops L) {i:Nat} {o:Oper} {it:It} (ho:ops[i]?=some o) (hit:its[i]?=some it) (fA:L i=false) (c:Eff -> Bool)
  (kG:c it.e=true -> ∀ (j:Nat) oj b,ops[j]?=some oj -> its[j]?=some b -> c b.e=true -> indep ops o oj it b=true -> False) :
  (((its.zipIdx.filter fun p=>(L p.2 || p.2 == i)).map (·.1.e)).filter c)=(((its.zipIdx.filter fun p=>L p.2).map (·.1.e)).filter c) ++ (if c it.e then [it.e] else []):=by
 rw [qO c fun k=>(L k || k == i),qO c L]
 obtain ⟨A,B,e,hA,hB⟩:=uN hit
 have hmem:∀ p ∈ A ++ (it,i) :: B,its[p.2]?=some p.1:=fun p hp=>Pb (by rw [e];exact hp)
 rw [e]
 simp only [List.filter_append,List.map_append]
 have e1:(A.filter fun p=>(L p.2 || p.2 == i) && c p.1.e)=A.filter fun p=>L p.2 && c p.1.e:=by
  apply List.filter_congr
  intro p hp
  have:p.2 ≠ i:=by have:=hA p hp;omega
  rw [beq_false_of_ne this,Bool.or_false]
 have e2:(B.filter fun p=>(L p.2 || p.2 == i) && c p.1.e)=B.filter fun p=>L p.2 && c p.1.e:=by
  apply List.filter_congr
  intro p hp
  have:p.2 ≠ i:=by have:=hB p hp;omega
  rw [beq_false_of_ne this,Bool.or_false]
 rw [e1,List.append_assoc]
 congr 1
 cases hci:c it.e with
 | false=>simp [hci,e2]
 | true =>
  have e3:(B.filter fun p=>L p.2 && c p.1.e)=[]:=by
   rw [List.filter_eq_nil_iff]
   rintro ⟨b,j⟩ hp
   have hb:=hmem (b,j) (by simp [hp])
   simp only at hb
   have hj:j < ops.size:=by rw [<- ok.len];exact (List.getElem?_eq_some_iff.1 hb).1
   have hoj:ops[j]?=some ops[j]:=by simp [hj]
   intro hh
   simp only [Bool.and_eq_true] at hh
   rcases fr.Ei i j _ _ _ _ (hB _ hp) ho hoj hit hb with h1 | h1
   ·exact kG hci j _ b hoj hb hh.2 h1
   ·rw [h1 L hc (hc j _ hoj hh.1)] at fA;cases fA
  simp [hci,e2,e3,fA]
theorem RF (l:List Eff) (e:Eff) (S:St):Fg (l ++ [e]) S=e.app (Fg l S):=by simp [Fg]
theorem Ye (ok:LU Φ cx ops its S0) (fr:Free md ops its) {L:Nat -> Bool} (hc:yS md ops L) {i:Nat} {o:Oper} {it:It} (ho:ops[i]?=some o) (hit:its[i]?=some it) (fA:L i=false) :
  Kc its S0 (fun k=>(L k || k == i))=it.e.app (Kc its S0 L):=by
 obtain ⟨k1,k2,k3,_⟩:=ok.one i o it ho hit
 have hF:∀ s,(Kc its S0 (fun k=>(L k || k == i))).F s=(it.e.app (Kc its S0 L)).F s:=fun s=>by
  unfold Kc
  rw [OT _ S0 S0 s rfl,Tg ok fr hc ho hit fA (fun e=>e.dst == some s)]
  ·cases hd:it.e.dst == some s with
   | true =>
    simp only [if_true]
    rw [RF,YF hd,YF hd]
   | false =>
    simp only [Bool.false_eq_true,if_false,List.append_nil]
    rw [UF hd,<- OT _ S0 S0 s rfl]
  ·intro h1 j oj b hoj hb h2 hin
   obtain ⟨q1,_⟩:=ok.one j oj b hoj hb
   simp only [beq_iff_eq] at h1 h2
   rw [k1] at h1
   rw [q1] at h2
   exact (Oper.apart_spec (Lp hin)).2.1 s h1 h2
 have hM:∀ t,(Kc its S0 (fun k=>(L k || k == i))).M t=(it.e.app (Kc its S0 L)).M t:=fun t=>by
  unfold Kc
  rw [M5 _ S0 S0 t rfl,Tg ok fr hc ho hit fA (fun e=>e.hits t)]
  ·cases hd:it.e.hits t with
   | true =>
    simp only [if_true]
    rw [RF]
    exact uJ (M5 _ S0 S0 t rfl).symm
   | false =>
    simp only [Bool.false_eq_true,if_false,List.append_nil]
    rw [UE hd,<- M5 _ S0 S0 t rfl]
  ·intro h1 j oj b hoj hb h2 hin
   obtain ⟨q1,q2,q3,_⟩:=ok.one j oj b hoj hb
   exact (OL hin k2 q2 k3 q3).2.2 ⟨h1,h2⟩
 generalize Kc its S0 (fun k=>(L k || k == i))=A at *
 generalize it.e.app (Kc its S0 L)=B at *
 cases A;cases B
 simp only [St.mk.injEq]
 exact ⟨funext hF,funext hM⟩
theorem Ma (h0:YP S0.M) (hn:sw its=true) (L:Nat -> Bool):Kc (its.map It.Q9) S0 L=Kc its S0 L /\ YP (Kc its S0 L).M:=by
 unfold Kc
 rw [Vl]
 have h:sw (((its.zipIdx.filter fun p=>L p.2).map (·.1)))=true:=by
  simp only [sw,List.all_eq_true] at hn ⊢
  intro i hi
  obtain ⟨p,hp,rfl⟩:=List.mem_map.1 hi
  exact hn _ (List.mem_of_getElem? (Pb (List.mem_filter.1 hp).1))
 have:=RD h0 h
 have e:((its.zipIdx.filter fun p=>L p.2).map (·.1.e))=((its.zipIdx.filter fun p=>L p.2).map (·.1)).map (·.e):=by rw [List.map_map];rfl
 rw [e]
 exact this
theorem LU.Q9 (ok:LU Φ cx ops its S0) (h0:YP S0.M) (hn:sw its=true):LU (fun T=>Φ T /\ YP T.M) cx ops (its.map It.Q9) S0:=by
 refine ⟨by simp [ok.len],fun i o it ho hit=>?_,fun L=>?_⟩
 ·rw [List.getElem?_map,Option.map_eq_some_iff] at hit
  obtain ⟨it0,h1,rfl⟩:=hit
  obtain ⟨a,b,c,d⟩:=ok.one i o it0 ho h1
  refine ⟨a,b,fun hk=>by simp [It.Q9] at hk,fun T hT h1 h2=>?_⟩
  rw [(Ma h0 hn _).1] at h1 h2
  rw [Eff.YE hT.2]
  exact d T hT.1 h1 h2
 ·rw [(Ma h0 hn L).1]
  exact ⟨ok.phi L,(Ma h0 hn L).2⟩
end
end Go.Ab
