/- Ab6, Ab7, Ab8, Ab9, Ab10. -/
import Derived.Test.YtjcecljhjailiaaGreatDoorBogG01
import Derived.Deep.AppendSrc
namespace Go.Ab
open Go.RowKit
inductive Out where
 | val (r:SV)
 | mk (blk:BG) (n:Nat)
 | app (t:Option Nat) (blk:BG) (n:Nat)
 | put (t:Nat) (blk:BG)
def St.apply (n:Nat) (S:St) (dst:Option Nat):Out -> Option St
 | .val r=>match dst with
  | some d=>if d < n then some ⟨upd S.F d r,S.M⟩ else none
  | none=>some S
 | .mk blk k=>match dst with
  | some d=>if d < n then some ⟨upd S.F d (if blk.row then .sl d ((S.M d).1+1) 0 k else .pt d ((S.M d).1+1) 0),upd S.M d ((S.M d).1+1,some blk)⟩ else none
  | none=>none
 | .app t blk k=>match dst with
  | some d=>if d < n then
    match t with
    | none=>some ⟨upd S.F d (.sl d ((S.M d).1+1) 0 k),upd S.M d ((S.M d).1+1,some blk)⟩
    | some t=>match (S.M t).2 with
     | some b=>if Dv b.st then some ⟨upd S.F d (.sl d ((S.M d).1+1) 0 k),upd (upd S.M t ((S.M t).1,some { b with st:=2 })) d ((S.M d).1+1,some blk)⟩ else none
     | none=>none
   else none
  | none=>none
 | .put t blk=>match dst with
  | some _=>none
  | none=>match (S.M t).2 with
   | some b=>if Dv b.st then some ⟨S.F,upd (C9 S.M) t ((S.M t).1,some blk)⟩ else none
   | none=>none
def Runs (cx:Cx) (S':St) (o:Oper) (a:Act) (w:World):Prop :=
 ∃ v w' μ',((execOp a.eval o).run cx.P w=.ok (.value v) w' \/ ((execOp a.eval o).run cx.P w=.ok .skip w' /\ v=undef)) /\ Bc cx S' (a.put o.dst v) w' μ'
theorem sF {cx:Cx} {S S':St} {a:Act} {w:World} {μ:Nat -> Option (Nat × Nat)} (h:Bc cx S a w μ) {dst:Option Nat} {r:SV} {v:Value}
  (hr:AO w S.M μ (XX cx S.M μ) r v) (ha:S.apply cx.n dst (.val r)=some S'):Bc cx S' (a.put dst v) w μ:=by
 cases dst with
 | none=>simp only [St.apply,Option.some.injEq] at ha;subst ha;exact h
 | some d =>
  simp only [St.apply] at ha
  split at ha
  ·rename_i hd
   simp only [Option.some.injEq] at ha
   subst ha
   exact h.set hd hr
  ·cases ha
theorem Ca {cx:Cx} {S S':St} {a:Act} {w:World} {μ:Nat -> Option (Nat × Nat)} (h:Bc cx S a w μ) {o:Oper} {r:SV} {v:Value}
  (hrun:(execOp a.eval o).run cx.P w=.ok (.value v) w) (hr:AO w S.M μ (XX cx S.M μ) r v) (ha:S.apply cx.n o.dst (.val r)=some S'):Runs cx S' o a w :=
 ⟨v,w,μ,.inl hrun,sF h hr ha⟩
def Pq (c:Bool):SV -> SV -> SV
 | .dv (.bool x),.dv (.bool y)=>.dv (.bool (bif c then x else y))
 | a,b=>bif c then a else b
def EI (op:BinOp) (k:IntKind) (a b:Int):Option DV :=
 match op with
 | .add=>some (.int k (k.wrap (a+b)))
 | .sub=>some (.int k (k.wrap (a - b)))
 | .mul=>some (.int k (k.wrap (a * b)))
 | .quo=>if b=0 then none else some (.int k (k.wrap (a.tdiv b)))
 | .rem=>if b=0 then none else some (.int k (a.tmod b))
 | .and=>some (.int k (k.wrap (BitVec.ofInt k.bits a &&& BitVec.ofInt k.bits b).toNat))
 | .or=>some (.int k (k.wrap (BitVec.ofInt k.bits a ||| BitVec.ofInt k.bits b).toNat))
 | .xor=>some (.int k (k.wrap (BitVec.ofInt k.bits a ^^^ BitVec.ofInt k.bits b).toNat))
 | .andNot=>some (.int k (k.wrap (BitVec.ofInt k.bits a &&& ~~~BitVec.ofInt k.bits b).toNat))
 | .eql=>some (.bool (a == b))
 | .neq=>some (.bool (a != b))
 | .lss=>some (.bool (decide (a < b)))
 | .leq=>some (.bool (decide (a <= b)))
 | .gtr=>some (.bool (decide (b < a)))
 | .geq=>some (.bool (decide (b <= a)))
 | _=>none
def Gl (op:BinOp) (k:IntKind) (a b:Int):Option DV :=
 if b < 0 then none else
 match op with
 | .shl=>some (.int k (k.wrap (a * 2 ^ (min b.toNat k.bits))))
 | .shr=>some (.int k (a.fdiv (2 ^ (min b.toNat k.bits))))
 | _=>none
def LW (op:BinOp) (x y:ByteArray):Option DV :=
 match op with
 | .add=>if ((x.size+y.size:Nat):Int) > 9223372036854775807 then none else some (.str (x ++ y))
 | .eql=>some (.bool (x.toList == y.toList))
 | .neq=>some (.bool !(x.toList == y.toList))
 | _=>none
def MQ (P:Program) (t:TypeId):Bool:=match P.underlying t with | some .bool=>true | _=>false
def ZA (P:Program) (t:TypeId):Bool:=match P.underlying t with | some (.interface _)=>true | _=>false
def Lp (P:Program) (t:TypeId):Bool:=match P.underlying t with | some (.pointer _)=>true | _=>false
def DL (P:Program) (t:TypeId):Bool:=match P.underlying t with | some (.slice _)=>true | _=>false
def Qk:SV -> Option Bool
 | .Bw=>some true
 | .emp b=>some b
 | .dv (.list l)=>if l.isEmpty then none else some false
 | _=>none
def Yj:SV -> Option Bool
 | .dv .DI=>some true
 | .dv (.DU _)=>some false
 | _=>none
def Jj (op:BinOp) (b:Bool):Option SV :=
 match op with
 | .eql=>some (.dv (.bool b))
 | .neq=>some (.dv (.bool !b))
 | _=>none
def EM (P:Program) (op:BinOp) (t:TypeId):SV -> SV -> Option SV
 | .dv (.int k a),.dv (.int k' b) =>
  match op with
  | .shl | .shr=>(Gl op k a b).map .dv
  | _=>if k=k' then (EI op k a b).map .dv else none
 | .dv (.bool a),.dv (.bool b)=>if MQ P t then (match op with | .eql=>some (.dv (.bool (a == b))) | .neq=>some (.dv (.bool !(a == b))) | _=>none) else none
 | .dv (.str a),.dv (.str b)=>(LW op a b).map .dv
 | x,.Bw=>if DL P t then (match Qk x with | some b=>Jj op b | none=>none) else none
 | x,.dv .DI=>if Lp P t then (match Yj x with | some b=>Jj op b | none=>none) else none
 | _,_=>none
theorem ZB (P:Program) (op:BinOp) (t:TypeId) (x y:Operand) (k:IntKind) (a b:Int) (d:DV) (h:EI op k a b=some d) (w:World) :
  ∃ v,(do eqGuard op t x y (.int k a) (.int k b);binOp op t (.int k a) (.int k b):Sem Value).run P w=.ok v w /\ ∀ X,CQ w X d v:=by
 simp only [eqGuard_at_int,pure_bind]
 cases op<;>simp only [EI] at h
 case add=>cases h;exact ⟨_,by rw [binOp_add];rfl,fun X=>.int _ _⟩
 case sub=>cases h;exact ⟨_,by rw [binOp_sub];rfl,fun X=>.int _ _⟩
 case mul=>cases h;exact ⟨_,by rw [binOp_mul];rfl,fun X=>.int _ _⟩
 case quo =>
  split at h
  ·cases h
  ·rename_i hb;cases h;exact ⟨_,by rw [binOp_quo];simp only [Op.intDiv,hb,if_false];rfl,fun X=>.int _ _⟩
 case rem =>
  split at h
  ·cases h
  ·rename_i hb;cases h;exact ⟨_,by rw [binOp_rem];simp only [Op.intDiv,hb,if_false];rfl,fun X=>.int _ _⟩
 case and=>cases h;exact ⟨_,by rw [binOp_and];rfl,fun X=>.int _ _⟩
 case or=>cases h;exact ⟨_,by rw [binOp_or];rfl,fun X=>.int _ _⟩
 case xor=>cases h;exact ⟨_,by rw [binOp_xor];rfl,fun X=>.int _ _⟩
 case andNot=>cases h;exact ⟨_,by rw [binOp_andNot];rfl,fun X=>.int _ _⟩
 case eql=>cases h;exact ⟨_,by rw [binOp_eql];rfl,fun X=>.bool _⟩
 case neq=>cases h;exact ⟨_,by rw [binOp_neq];rfl,fun X=>.bool _⟩
 case lss=>cases h;exact ⟨_,by rw [binOp_lss];rfl,fun X=>.bool _⟩
 case leq=>cases h;exact ⟨_,by rw [binOp_leq];rfl,fun X=>.bool _⟩
 case gtr=>cases h;exact ⟨_,by rw [binOp_gtr];rfl,fun X=>.bool _⟩
 case geq=>cases h;exact ⟨_,by rw [binOp_geq];rfl,fun X=>.bool _⟩
 all_goals cases h
theorem Us (P:Program) (op:BinOp) (t:TypeId) (x y:Operand) (k k':IntKind) (a b:Int) (d:DV) (h:Gl op k a b=some d) (w:World) :
  ∃ v,(do eqGuard op t x y (.int k a) (.int k' b);binOp op t (.int k a) (.int k' b):Sem Value).run P w=.ok v w /\ ∀ X,CQ w X d v:=by
 simp only [eqGuard_at_int,pure_bind]
 unfold Gl at h
 split at h
 ·cases h
 ·rename_i hb
  cases op<;>simp only at h
  case shl=>cases h;exact ⟨_,by rw [binOp_shl];simp only [Op.shift,hb,if_false];rfl,fun X=>.int _ _⟩
  case shr=>cases h;exact ⟨_,by rw [binOp_shr];simp only [Op.shift,hb,if_false];rfl,fun X=>.int _ _⟩
  all_goals cases h
theorem YU (P:Program) (op:BinOp) (t:TypeId) (x y:Operand) (a b:ByteArray) (d:DV) (h:LW op a b=some d) (w:World) :
  ∃ v,(do eqGuard op t x y (.string a) (.string b);binOp op t (.string a) (.string b):Sem Value).run P w=.ok v w /\ ∀ X,CQ w X d v:=by
 simp only [eqGuard_at_string,pure_bind]
 have e:binOp op t (.string a) (.string b)=Op.stringOp op a b:=by cases op<;>rfl
 rw [e]
 cases op<;>simp only [LW] at h
 case add =>
  split at h
  ·cases h
  ·rename_i hb;cases h;exact ⟨_,by simp only [Op.stringOp,IntKind.max_i64,hb,if_false];rfl,fun X=>.str _⟩
 case eql=>cases h;exact ⟨_,rfl,fun X=>.bool _⟩
 case neq=>cases h;exact ⟨_,rfl,fun X=>.bool _⟩
 all_goals cases h
theorem Xr (P:Program) (t:TypeId) (x y:Operand) (a b:Bool) (hP:MQ P t=true) (w:World) :
  (do eqGuard .eql t x y (.bool a) (.bool b);binOp .eql t (.bool a) (.bool b):Sem Value).run P w=.ok (.bool (a == b)) w ∧
  (do eqGuard .neq t x y (.bool a) (.bool b);binOp .neq t (.bool a) (.bool b):Sem Value).run P w=.ok (.bool !(a == b)) w:=by
 have hu:P.underlying t=some .bool:=by
  unfold MQ at hP
  split at hP
  ·assumption
  ·cases hP
 have he:(Op.equal t (.bool a) (.bool b)).run P w=.ok (a == b) w:=by
  show (Op.equalIn (9999+1) t (.bool a) (.bool b)).run P w=_
  unfold Op.equalIn
  simp only [Sem.run_bind,run_underlying hu,Result.andThen_ok]
  rfl
 simp only [eqGuard_at_bool,pure_bind]
 constructor
 ·show (do pure (.bool (<- Op.equal t (.bool a) (.bool b))):Sem Value).run P w=_
  simp only [Sem.run_bind,he,Result.andThen_ok,Sem.run_pure]
 ·show (do pure (.bool (!(<- Op.equal t (.bool a) (.bool b)))):Sem Value).run P w=_
  simp only [Sem.run_bind,he,Result.andThen_ok,Sem.run_pure]
theorem Yx {P:Program} {t e:TypeId} (hu:P.underlying t=some (.slice e)) (x y:Operand) (a:Option Addr) (n cap:Nat) (w:World) :
  (do eqGuard .eql t x y (.slice a n cap) (.slice none 0 0);binOp .eql t (.slice a n cap) (.slice none 0 0):Sem Value).run P w=.ok (.bool a.isNone) w ∧
  (do eqGuard .neq t x y (.slice a n cap) (.slice none 0 0);binOp .neq t (.slice a n cap) (.slice none 0 0):Sem Value).run P w=.ok (.bool !a.isNone) w:=by
 have he:(Op.equal t (.slice a n cap) (.slice none 0 0)).run P w=.ok a.isNone w:=by
  show (Op.equalIn (9999+1) t (.slice a n cap) (.slice none 0 0)).run P w=_
  unfold Op.equalIn
  simp only [Sem.run_bind,run_underlying hu,Result.andThen_ok]
  cases a<;>rfl
 constructor
 ·show (do pure (.bool (<- Op.equal t (.slice a n cap) (.slice none 0 0))):Sem Value).run P w=_
  simp only [Sem.run_bind,he,Result.andThen_ok,Sem.run_pure]
 ·show (do pure (.bool (!(<- Op.equal t (.slice a n cap) (.slice none 0 0)))):Sem Value).run P w=_
  simp only [Sem.run_bind,he,Result.andThen_ok,Sem.run_pure]
theorem Qh {P:Program} {t e:TypeId} (hu:P.underlying t=some (.pointer e)) (x y:Operand) (a:Option Addr) (w:World) :
  (do eqGuard .eql t x y (.pointer a) (.pointer none);binOp .eql t (.pointer a) (.pointer none):Sem Value).run P w=.ok (.bool a.isNone) w ∧
  (do eqGuard .neq t x y (.pointer a) (.pointer none);binOp .neq t (.pointer a) (.pointer none):Sem Value).run P w=.ok (.bool !a.isNone) w:=by
 have he:(Op.equal t (.pointer a) (.pointer none)).run P w=.ok a.isNone w:=by
  show (Op.equalIn (9999+1) t (.pointer a) (.pointer none)).run P w=_
  unfold Op.equalIn
  simp only [Sem.run_bind,run_underlying hu,Result.andThen_ok]
  cases a<;>rfl
 constructor
 ·show (do pure (.bool (<- Op.equal t (.pointer a) (.pointer none))):Sem Value).run P w=_
  simp only [Sem.run_bind,he,Result.andThen_ok,Sem.run_pure]
 ·show (do pure (.bool (!(<- Op.equal t (.pointer a) (.pointer none)))):Sem Value).run P w=_
  simp only [Sem.run_bind,he,Result.andThen_ok,Sem.run_pure]
theorem qU {cx:Cx} {S S':St} {a:Act} {w:World} {μ:Nat -> Option (Nat × Nat)} (h:Bc cx S a w μ) {o:Oper} {op:BinOp} {t yt:TypeId} {x y:Operand} (ho:o.op=.binOp op t x y yt) {r:SV}
  (hr:EM cx.P op t (S.ev x) (S.ev y)=some r) (ha:S.apply cx.n o.dst (.val r)=some S'):Runs cx S' o a w:=by
 have hx:=h.ev x
 have hy:=h.ev y
 have fin:∀ (v:Value) (d:DV),r=.dv d -> (do eqGuard op t x y (a.eval x) (a.eval y);binOp op t (a.eval x) (a.eval y):Sem Value).run cx.P w=.ok v w -> (∀ X,CQ w X d v) -> Runs cx S' o a w:=fun v d e hv hd=>by
  subst e
  refine Ca h (v:=v) ?_ (by simp only [AO];exact hd _) ha
  unfold execOp
  simp only [ho,Sem.run_bind] at hv ⊢
  rw [hv]
  rfl
 unfold EM at hr
 split at hr
 ·rename_i k1 n1 k2 n2 e1 e2
  rw [e1] at hx
  rw [e2] at hy
  simp only [AO] at hx hy
  cases hx1:a.eval x with
  | int k n =>
   cases hy1:a.eval y with
   | int k' n' =>
    rw [hx1] at hx;rw [hy1] at hy
    cases hx;cases hy
    rw [hx1,hy1] at fin
    have A1T:∀ d,Gl op k1 n1 n2=some d -> r=.dv d -> Runs cx S' o a w:=fun d hd e=>by
     obtain ⟨v,hv,hrep⟩:=Us cx.P op t x y k1 k2 n1 n2 d hd w
     exact fin v d e hv hrep
    have ints:∀ d,k1=k2 -> EI op k1 n1 n2=some d -> r=.dv d -> Runs cx S' o a w:=fun d hk hd e=>by
     subst hk
     obtain ⟨v,hv,hrep⟩:=ZB cx.P op t x y k1 n1 n2 d hd w
     exact fin v d e hv hrep
    split at hr
    ·obtain ⟨d,hd,e⟩:=Option.map_eq_some_iff.1 hr
     exact A1T d hd e.symm
    ·obtain ⟨d,hd,e⟩:=Option.map_eq_some_iff.1 hr
     exact A1T d hd e.symm
    ·split at hr
     ·rename_i hk
      obtain ⟨d,hd,e⟩:=Option.map_eq_some_iff.1 hr
      exact ints d hk hd e.symm
     ·cases hr
   | _=>rw [hy1] at hy;cases hy
  | _=>rw [hx1] at hx;cases hx
 ·rename_i b1 b2 e1 e2
  rw [e1] at hx
  rw [e2] at hy
  simp only [AO] at hx hy
  generalize hx1:a.eval x=vx at *
  generalize hy1:a.eval y=vy at *
  cases hx;cases hy
  split at hr
  ·rename_i hP
   have hb:=Xr cx.P t x y b1 b2 hP w
   split at hr
   ·simp only [Option.some.injEq] at hr
    exact fin _ _ hr.symm hb.1 (fun _=>.bool _)
   ·simp only [Option.some.injEq] at hr
    exact fin _ _ hr.symm hb.2 (fun _=>.bool _)
   ·cases hr
  ·cases hr
 ·rename_i s1 s2 e1 e2
  rw [e1] at hx
  rw [e2] at hy
  simp only [AO] at hx hy
  generalize hx1:a.eval x=vx at *
  generalize hy1:a.eval y=vy at *
  cases hx;cases hy
  obtain ⟨d,hd,e⟩:=Option.map_eq_some_iff.1 hr
  obtain ⟨v,hv,hrep⟩:=YU cx.P op t x y s1 s2 d hd w
  exact fin v d e.symm hv hrep
 ·rename_i e2
  rw [e2] at hy
  simp only [AO] at hy
  split at hr
  ·rename_i hs
   have hu:∃ e,cx.P.underlying t=some (.slice e):=by
    unfold DL at hs
    split at hs
    ·exact ⟨_,by assumption⟩
    ·cases hs
   obtain ⟨e,hu⟩:=hu
   split at hr
   ·rename_i b hb
    have hxv:∃ ad n cap,a.eval x=.slice ad n cap /\ ad.isNone=b:=by
     generalize S.ev x=sx at hb hx
     unfold Qk at hb
     split at hb
     ·simp only [Option.some.injEq] at hb;subst hb;simp only [AO] at hx;exact ⟨none,0,0,hx,rfl⟩
     ·simp only [Option.some.injEq] at hb;subst hb;simp only [AO] at hx;obtain ⟨ad,cap,h1,h2⟩:=hx;exact ⟨ad,0,cap,h1,h2⟩
     ·rename_i l
      split at hb
      ·cases hb
      ·rename_i hl
       simp only [Option.some.injEq] at hb;subst hb
       simp only [AO] at hx
       generalize a.eval x=vx at hx
       cases hx with
       | Dp ad cap=>simp at hl
       | list _ b off cap CS u h1 h2 h3 h4 h5 h6=>exact ⟨_,_,_,rfl,rfl⟩
     ·cases hb
    obtain ⟨ad,n,cap,hv,rfl⟩:=hxv
    have:=Yx hu x y ad n cap w
    unfold Jj at hr
    rw [hv,hy] at fin
    split at hr
    ·simp only [Option.some.injEq] at hr;exact fin _ _ hr.symm this.1 fun _=>.bool _
    ·simp only [Option.some.injEq] at hr;exact fin _ _ hr.symm this.2 fun _=>.bool _
    ·cases hr
   ·cases hr
  ·cases hr
 ·rename_i e2
  rw [e2] at hy
  simp only [AO] at hy
  have hyv:a.eval y=.pointer none:=by
   generalize a.eval y=vy at hy
   cases hy
   rfl
  split at hr
  ·rename_i hs
   have hu:∃ e,cx.P.underlying t=some (.pointer e):=by
    unfold Lp at hs
    split at hs
    ·exact ⟨_,by assumption⟩
    ·cases hs
   obtain ⟨e,hu⟩:=hu
   split at hr
   ·rename_i b hb
    have hxv:∃ ad,a.eval x=.pointer ad /\ ad.isNone=b:=by
     generalize S.ev x=sx at hb hx
     unfold Yj at hb
     split at hb
     ·simp only [Option.some.injEq] at hb;subst hb;simp only [AO] at hx
      generalize a.eval x=vx at hx
      cases hx
      exact ⟨none,rfl,rfl⟩
     ·simp only [Option.some.injEq] at hb;subst hb;simp only [AO] at hx
      generalize a.eval x=vx at hx
      cases hx with
      | DU _ b off u h1 h2 h3 h4=>exact ⟨_,rfl,rfl⟩
     ·cases hb
    obtain ⟨ad,hv,rfl⟩:=hxv
    have:=Qh hu x y ad w
    unfold Jj at hr
    rw [hv,hyv] at fin
    split at hr
    ·simp only [Option.some.injEq] at hr;exact fin _ _ hr.symm this.1 fun _=>.bool _
    ·simp only [Option.some.injEq] at hr;exact fin _ _ hr.symm this.2 fun _=>.bool _
    ·cases hr
   ·cases hr
  ·cases hr
 ·cases hr
def rQ (op:UnOp):SV -> Option SV
 | .dv (.int k n)=>match op with
  | .neg=>some (.dv (.int k (k.wrap (0 - n))))
  | .xor=>some (.dv (.int k (k.wrap (BitVec.ofInt k.bits (if k.signed then -1 else k.max) ^^^ BitVec.ofInt k.bits n).toNat)))
  | _=>none
 | .dv (.bool b)=>match op with | .not=>some (.dv (.bool !b)) | _=>none
 | _=>none
theorem rP {cx:Cx} {S S':St} {a:Act} {w:World} {μ:Nat -> Option (Nat × Nat)} (h:Bc cx S a w μ) {o:Oper} {op:UnOp} {t:TypeId} {x:Operand} (ho:o.op=.unOp op t x) {r:SV}
  (hr:rQ op (S.ev x)=some r) (ha:S.apply cx.n o.dst (.val r)=some S'):Runs cx S' o a w:=by
 have hx:=h.ev x
 have fin:∀ (v:Value) (d:DV),r=.dv d -> (Op.unary op (a.eval x)).run cx.P w=.ok v w -> (∀ X,CQ w X d v) -> Runs cx S' o a w:=fun v d e hv hd=>by
  subst e
  refine Ca h (v:=v) ?_ (by simp only [AO];exact hd _) ha
  unfold execOp
  simp only [ho,Sem.run_bind,hv]
  rfl
 unfold rQ at hr
 split at hr
 ·rename_i k n e1
  rw [e1] at hx
  simp only [AO] at hx
  generalize hx1:a.eval x=vx at *
  cases hx
  split at hr<;>first | (cases hr;done) | skip
  ·simp only [Option.some.injEq] at hr
   exact fin _ _ hr.symm rfl (fun _=>.int _ _)
  ·simp only [Option.some.injEq] at hr
   exact fin _ _ hr.symm rfl (fun _=>.int _ _)
 ·rename_i b e1
  rw [e1] at hx
  simp only [AO] at hx
  generalize hx1:a.eval x=vx at *
  cases hx
  split at hr<;>first | (cases hr;done) | skip
  simp only [Option.some.injEq] at hr
  exact fin _ _ hr.symm rfl (fun _=>.bool _)
 ·cases hr
end Go.Ab
namespace Go.Ab
open Go.RowKit
section
variable {cx:Cx} {S S':St} {a:Act} {w:World} {μ:Nat -> Option (Nat × Nat)} {o:Oper}
theorem Vx (h:Bc cx S a w μ) {x:Operand} (ho:o.op=.move x \/ o.op=.assign x) (ha:S.apply cx.n o.dst (.val (S.ev x))=some S'):Runs cx S' o a w:=by
 refine Ca h (v:=a.eval x) ?_ (h.ev x) ha
 unfold execOp
 rcases ho with ho | ho<;>simp only [ho]<;>rfl
theorem jB (h:Bc cx S a w μ) {c x y:Operand} (ho:o.op=.pick c x y) {b:Bool} (hb:S.ev c=.dv (.bool b)) (ha:S.apply cx.n o.dst (.val (Pq b (S.ev x) (S.ev y)))=some S'):Runs cx S' o a w:=by
 have hc:=h.ev c
 rw [hb] at hc
 simp only [AO] at hc
 generalize hv:a.eval c=vc at *
 cases hc
 have hrun:(execOp a.eval o).run cx.P w=.ok (.value (if b then a.eval x else a.eval y)) w:=by
  unfold execOp
  simp only [ho,hv]
  cases b<;>rfl
 refine Ca h hrun ?_ ha
 have hx:=h.ev x
 have hy:=h.ev y
 have gen:AO w S.M μ (XX cx S.M μ) (bif b then S.ev x else S.ev y) (if b then a.eval x else a.eval y):=by cases b<;>simpa
 unfold Pq
 split
 ·rename_i p q e1 e2
  rw [e1,e2] at gen
  cases b<;>simpa only [cond_true,cond_false] using gen
 ·exact gen
def KA (s:SV) (i:Nat):Option SV :=
 match s with
 | .FR cs=>cs[i]?
 | _=>none
theorem Xe (h:Bc cx S a w μ) {x:Operand} {i:Nat} (ho:o.op=.extract x i) {r:SV} (hr:KA (S.ev x) i=some r) (ha:S.apply cx.n o.dst (.val r)=some S'):Runs cx S' o a w:=by
 have hx:=h.ev x
 unfold KA at hr
 split at hr
 ·rename_i cs e
  rw [e] at hx
  simp only [AO] at hx
  obtain ⟨vs,hv,hvs⟩:=hx
  have hi:i < vs.length:=by have:=hvs.length;have:=(List.getElem?_eq_some_iff.1 hr).1;omega
  refine Ca h (v:=vs[i]) ?_ (hvs.get i r _ hr (by simp [hi])) ha
  unfold execOp
  simp only [ho,hv,Instr.extract]
  simp [hi]
 ·cases hr
def Ol (P:Program) (s:TypeId) (f:Nat):SV × Option BG -> Option SV
 | (.dv (.DU cs),_)=>match CJ P s f with | some off=>some (.dv (.DU (cs.drop off))) | none=>none
 | (.pt t g o,some _)=>match CJ P s f with | some off=>some (.pt t g (o+off)) | none=>none
 | _=>none
theorem WI {P:Program} {s:TypeId} {f off:Nat} (h:CJ P s f=some off) (b k:Nat) (w:World) :
  (Instr.fieldAt s (.pointer (some ⟨b,k,none⟩)) f).run P w=.ok (.pointer (some ⟨b,k+off,none⟩)) w:=by
 unfold CJ at h
 split at h
 ·rename_i fs hu
  split at h
  ·rename_i fl hf
   split at h
   ·rename_i m hs
    simp only [Option.some.injEq] at h
    subst h
    unfold FC at hs
    obtain ⟨i,hi,hi2⟩:=Option.map_eq_some_iff.1 hs
    simp [Instr.fieldAt,run_underlying hu,hf,Instr.sureAddr,fieldPlace,sizeOf,typeInfo,hi,hi2,Addr.add_lit]
   ·cases h
  ·cases h
 ·cases h
theorem cZ (h:Bc cx S a w μ) {s:TypeId} {x:Operand} {f:Nat} (ho:o.op=.fieldAddr s x f) {r:SV} (hr:Ol cx.P s f (S.look x)=some r) (ha:S.apply cx.n o.dst (.val r)=some S'):Runs cx S' o a w:=by
 have hx:=h.ev x
 unfold Ol St.look at hr
 split at hr
 ·rename_i cs q e
  simp only [Prod.mk.injEq] at e
  obtain ⟨e,_⟩:=e
  split at hr
  ·rename_i off hoff
   simp only [Option.some.injEq] at hr
   subst hr
   rw [e] at hx
   simp only [AO] at hx
   generalize hv:a.eval x=vx at *
   cases hx with
   | DU _ b k u h1 h2 h3 h4 =>
    refine Ca h (v:=.pointer (some ⟨b,k+off,none⟩)) ?_ ?_ ha
    ·unfold execOp
     simp only [ho,hv,Sem.run_bind,WI hoff,Result.andThen_ok]
     rfl
    ·simp only [AO]
     refine .DU _ b (k+off) (fun j=>u (off+j)) h1 h2 (fun j c hj=>?_) (fun j c hj=>?_)
     ·rw [List.getElem?_drop] at hj
      have:=h3 _ c hj
      rwa [<- Nat.add_assoc] at this
     ·rw [List.getElem?_drop] at hj
      exact h4 _ c hj
  ·cases hr
 ·rename_i t g k blk e
  simp only [Prod.mk.injEq] at e
  obtain ⟨e,eb⟩:=e
  split at hr
  ·rename_i off hoff
   simp only [Option.some.injEq] at hr
   subst hr
   rw [e] at hx eb
   have hM:=KF eb
   simp only [AO] at hx
   obtain ⟨b,cap,hm,hv⟩:=hx.2 blk hM
   refine Ca h (v:=.pointer (some ⟨b,k+off,none⟩)) ?_ ?_ ha
   ·unfold execOp
    simp only [ho,hv,Sem.run_bind,WI hoff,Result.andThen_ok]
    rfl
   ·simp only [AO]
    refine ⟨⟨rfl,hx.1.2⟩,fun Ay e'=>⟨b,cap,hm,rfl⟩⟩
  ·cases hr
 ·cases hr
def A0T (P:Program) (t:TypeId):Option (Nat × TypeId):=match P.underlying t with | some (.array n e)=>some (n,e) | _=>none
def ZE (a:Option (Nat × TypeId)) (sz:TypeId -> Option Nat) (x:SV × Option BG) (i:SV):Option SV :=
 match a,i,x with
 | some (n,e),.dv (.int _ z),(.pt t' g o,some _)=>if 0 <= z /\ z.toNat < n /\ sz e=some 1 then some (.pt t' g (o+z.toNat)) else none
 | _,_,_=>none
theorem Uw {P:Program} {t elem:TypeId} {len:Nat} (ht:A0T P t=some (len,elem)) (hs:FC P elem=some 1) (b o:Nat) (k:IntKind) (z:Int) (h0:0 <= z) (hi:z.toNat < len) (w:World) :
  (Instr.indexAt t (.pointer (some ⟨b,o,none⟩)) (.int k z)).run P w=.ok (.pointer (some ⟨b,o+z.toNat,none⟩)) w:=by
 have hu:P.underlying t=some (.array len elem):=by
  unfold A0T at ht
  split at ht
  ·rename_i n e hu
   simp only [Option.some.injEq,Prod.mk.injEq] at ht
   obtain ⟨rfl,rfl⟩:=ht
   exact hu
  ·cases ht
 unfold FC at hs
 obtain ⟨inf,h1,h2⟩:=Option.map_eq_some_iff.1 hs
 have hi':z < (len:Int):=by omega
 have h0':¬ z < 0:=by omega
 simp [Instr.indexAt,asIntOf,Instr.sureAddr,run_underlying hu,h0,hi',sizeOf,typeInfo,h1,h2,Addr.add_lit]
def Og (P:Program) (t:TypeId) (x:SV × Option BG) (i:SV):Option SV :=
 match D8 P t with
 | none=>ZE (A0T P t) (FC P) x i
 | some e =>
  match i with
  | .dv (.int _ n) =>
   match x with
   | (.dv (.list l),_)=>if h:0 <= n /\ n.toNat < l.length then (if FC P e=some (l[n.toNat]'h.2).cells.length then some (.dv (.DU (l[n.toNat]'h.2).cells)) else none) else none
   | (.sl t g o m,some blk)=>if 0 <= n /\ n.toNat < m /\ FC P e=some blk.CS then some (.pt t g ((o+n.toNat) * blk.CS)) else none
   | _=>none
  | _=>none
theorem flat_get:∀ (l:List DV) (e:Nat) (_:∀ d ∈ l,d.cells.length=e) (i:Nat) (hi:i < l.length) (j:Nat) (_:j < e),(flat l)[i * e+j]?=(l[i].cells)[j]?
 | [],_,_,i,hi,_,_=>by simp at hi
 | d :: l,e,he,0,_,j,hj=>by
  have:=he d (by simp)
  simp only [flat,List.flatMap_cons,Nat.zero_mul,Nat.zero_add,List.getElem_cons_zero]
  rw [List.getElem?_append_left (by omega)]
 | d :: l,e,he,i+1,hi,j,hj=>by
  have h1:=he d (by simp)
  have ih:=flat_get l e (fun d' hd=>he d' (by simp [hd])) i (by simpa using hi) j hj
  simp only [flat,List.flatMap_cons,List.getElem_cons_succ] at ih ⊢
  rw [List.getElem?_append_right (by rw [h1,Nat.add_mul];omega),<- ih,h1]
  congr 1
  rw [Nat.add_mul]
  omega
theorem F7 {P:Program} {t e:TypeId} (h:D8 P t=some e):P.underlying t=some (.slice e):=by
 unfold D8 at h
 split at h
 ·simp only [Option.some.injEq] at h;subst h;assumption
 ·cases h
theorem QB {P:Program} {t e:TypeId} {sz:Nat} (he:D8 P t=some e) (hs:FC P e=some sz) (ad:Addr) (len cap:Nat) (k:IntKind) (n:Int) (h0:0 <= n) (h1:n.toNat < len) (w:World) :
  (Instr.indexAt t (.slice (some ad) len cap) (.int k n)).run P w=.ok (.pointer (some (ad.add (n.toNat * sz)))) w:=by
 have hu:=F7 he
 unfold FC at hs
 obtain ⟨i,hi,hi2⟩:=Option.map_eq_some_iff.1 hs
 have hlt:n < len:=by omega
 simp [Instr.indexAt,asIntOf,run_underlying hu,h0,hlt,sizeOf,typeInfo,hi,hi2]
theorem bT (h:Bc cx S a w μ) {t:TypeId} {x y:Operand} (ho:o.op=.indexAddr t x y) {r:SV} (hr:Og cx.P t (S.look x) (S.ev y)=some r) (ha:S.apply cx.n o.dst (.val r)=some S'):Runs cx S' o a w:=by
 have hx:=h.ev x
 have hy:=h.ev y
 unfold Og at hr
 split at hr
 ·unfold ZE at hr
  split at hr
  ·rename_i len e k z t' g q0 blk ea ey ex
   unfold St.look at ex
   simp only [Prod.mk.injEq] at ex
   obtain ⟨ex,eb⟩:=ex
   split at hr
   ·rename_i hn
    simp only [Option.some.injEq] at hr
    subst hr
    rw [ex] at hx eb
    rw [ey] at hy
    simp only [AO] at hy
    generalize hvy:a.eval y=vy at *
    cases hy
    have hM:=KF eb
    simp only [AO] at hx
    obtain ⟨b,cap,hm,hv⟩:=hx.2 _ hM
    refine Ca h (v:=.pointer (some ⟨b,q0+z.toNat,none⟩)) ?_ ?_ ha
    ·unfold execOp
     simp only [ho,hv,hvy,Sem.run_bind,Uw ea hn.2.2 b q0 k z hn.1 hn.2.1,Result.andThen_ok]
     rfl
    ·simp only [AO]
     exact ⟨⟨rfl,hx.1.2⟩,fun Ay e'=>⟨b,cap,hm,rfl⟩⟩
   ·cases hr
  ·cases hr
 ·rename_i e he
  split at hr
  ·rename_i k n ey
   rw [ey] at hy
   simp only [AO] at hy
   generalize hvy:a.eval y=vy at *
   cases hy
   unfold St.look at hr
   split at hr
   ·rename_i l q ex
    simp only [Prod.mk.injEq] at ex
    obtain ⟨ex,_⟩:=ex
    split at hr
    ·rename_i hn
     split at hr
     ·rename_i hsz
      simp only [Option.some.injEq] at hr
      subst hr
      rw [ex] at hx
      simp only [AO] at hx
      generalize hvx:a.eval x=vx at *
      cases hx with
      | Dp=>simp at hn
      | list _ b off cap CS u h1 h2 hcap h3 h4 h5 =>
       have hez:(l[n.toNat]'hn.2).cells.length=CS:=h3 _ (List.getElem_mem hn.2)
       refine Ca h (v:=.pointer (some ⟨b,off+n.toNat * CS,none⟩)) ?_ ?_ ha
       ·unfold execOp
        simp only [ho,hvx,hvy,Sem.run_bind,QB he hsz ⟨b,off,none⟩ l.length cap k n hn.1 hn.2,Result.andThen_ok,Addr.add_lit,hez]
        rfl
       ·simp only [AO]
        refine .DU _ b (off+n.toNat * CS) (fun j=>u (n.toNat * CS+j)) h1 h2 (fun j c hj=>?_) (fun j c hj=>?_)
        ·have hjl:=(List.getElem?_eq_some_iff.1 hj).1
         rw [<- flat_get l CS h3 n.toNat hn.2 j (by omega)] at hj
         have:=h4 _ c hj
         rwa [<- Nat.add_assoc] at this
        ·have hjl:=(List.getElem?_eq_some_iff.1 hj).1
         rw [<- flat_get l CS h3 n.toNat hn.2 j (by omega)] at hj
         exact h5 _ c hj
     ·cases hr
    ·cases hr
   ·rename_i t' g k' m blk ex
    simp only [Prod.mk.injEq] at ex
    obtain ⟨ex,eb⟩:=ex
    split at hr
    ·rename_i hn
     simp only [Option.some.injEq] at hr
     subst hr
     rw [ex] at hx eb
     have hM:=JF eb
     simp only [AO] at hx
     have hx2:=hx.2 blk hM
     cases hm:μ t' with
     | none=>rw [hm] at hx2;simp only at hx2;obtain ⟨_,rfl,_⟩:=hx2;omega
     | some p =>
      obtain ⟨b,cap⟩:=p
      rw [hm] at hx2
      simp only at hx2
      obtain ⟨hv,hcap⟩:=hx2
      refine Ca h (v:=.pointer (some ⟨b,(k'+n.toNat) * blk.CS,none⟩)) ?_ ?_ ha
      ·unfold execOp
       simp only [ho,hv,hvy,Sem.run_bind,QB he hn.2.2 _ m _ k n hn.1 hn.2.1,Result.andThen_ok,Addr.add_lit,Nat.add_mul]
       rfl
      ·simp only [AO]
       exact ⟨⟨rfl,hx.1.2⟩,fun Ay e'=>⟨b,cap,hm,rfl⟩⟩
    ·cases hr
   ·cases hr
  ·cases hr
def Dt (P:Program) (t:TypeId):SV × Option BG -> Option SV
 | (.dv (.DU cs),_)=>match FC P t,Fy P t with
  | some sz,some true=>if sz <= cs.length then some (.dv (.agg (cs.take sz))) else none
  | some _,some false=>(cs[0]?).map .dv
  | _,_=>none
 | (.pt _ _ o,some blk)=>match FC P t,Fy P t with
  | some sz,some true=>if o+sz <= blk.cells.length then some (N8 ((blk.cells.drop o).take sz)) else none
  | some _,some false=>blk.cells[o]?
  | _,_=>none
 | _=>none
theorem Uj {P:Program} {t:TypeId} {b:Bool} (h:Fy P t=some b) (w:World):(isAgg t).run P w=.ok b w:=by
 unfold Fy at h
 obtain ⟨d,hd,rfl⟩:=Option.map_eq_some_iff.1 h
 unfold isAgg
 simp only [Sem.run_bind,run_underlying hd,Result.andThen_ok]
 cases d<;>rfl
theorem Lj {P:Program} {t:TypeId} {sz:Nat} (hs:FC P t=some sz) (hg:Fy P t=some true) (b k:Nat) (w:World) (vs:List Value) (hl:vs.length=sz)
  (hc:∀ (j:Nat) v,vs[j]?=some v -> w.cell? ⟨b,k+j,none⟩=some v):(Instr.loadAt t (.pointer (some ⟨b,k,none⟩))).run P w=.ok (.agg vs.toArray) w:=by
 unfold FC at hs
 obtain ⟨i,hi,hi2⟩:=Option.map_eq_some_iff.1 hs
 have hload:=run_loadCells_list (P:=P) w ⟨b,k,none⟩ vs (fun j v hj=>by rw [Addr.add_lit];exact hc j v hj)
 rw [hl] at hload
 simp [Instr.loadAt,Instr.sureAddr,loadVar,Uj hg,sizeOf,typeInfo,hi,hi2,hload]
theorem Jk {P:Program} {t:TypeId} (hg:Fy P t=some false) (b k:Nat) (w:World) (v:Value) (hc:w.cell? ⟨b,k,none⟩=some v) :
  (Instr.loadAt t (.pointer (some ⟨b,k,none⟩))).run P w=.ok v w:=by
 simp [Instr.loadAt,Instr.sureAddr,loadVar,Uj hg,hc]
theorem P5 {w:World} {b j:Nat} {cur:Array Value} {e:TypeId} {fr:Nat × Nat} (h:w.heap[b]?=some (.cells cur e fr)):w.cell? ⟨b,j,none⟩=cur[j]?:=by simp [World.cell?,h]
theorem Z6 (h:Bc cx S a w μ) {t:TypeId} {x:Operand} {r:SV} (hr:Dt cx.P t (S.look x)=some r):∃ v,(Instr.loadAt t (a.eval x)).run cx.P w=.ok v w /\ AO w S.M μ (XX cx S.M μ) r v:=by
 have hx:=h.ev x
 have fin:∀ v:Value,(Instr.loadAt t (a.eval x)).run cx.P w=.ok v w -> AO w S.M μ (XX cx S.M μ) r v -> ∃ v,(Instr.loadAt t (a.eval x)).run cx.P w=.ok v w /\ AO w S.M μ (XX cx S.M μ) r v:=fun v h1 h2=>⟨v,h1,h2⟩
 unfold Dt St.look at hr
 split at hr
 ·rename_i cs q e
  simp only [Prod.mk.injEq] at e
  obtain ⟨e,_⟩:=e
  rw [e] at hx
  simp only [AO] at hx
  generalize hv:a.eval x=vx at *
  cases hx with
  | DU _ b k u h1 h2 h3 h4 =>
   split at hr
   ·rename_i sz hs hg
    split at hr
    ·rename_i hle
     simp only [Option.some.injEq] at hr
     subst hr
     refine fin (.agg ((List.range sz).map u).toArray) (Lj hs hg b k w _ (by simp) ?_) ?_
     ·intro j v hj
      simp only [List.getElem?_map,Option.map_eq_some_iff] at hj
      obtain ⟨j',hj',rfl⟩:=hj
      have hlt:j < sz:=by
       have:=(List.getElem?_eq_some_iff.1 hj').1
       simpa using this
      rw [List.getElem?_range hlt] at hj'
      simp only [Option.some.injEq] at hj'
      subst hj'
      exact h3 j cs[j] (by simp)
     ·simp only [AO]
      refine .agg _ _ (by simp;omega) fun j c hj=>?_
      have hj2:=hj
      rw [List.getElem?_take] at hj2
      split at hj2
      ·rename_i hlt
       have:((List.range sz).map u).toArray.getD j undef=u j:=by simp [hlt]
       rw [this]
       exact h4 j c hj2
      ·cases hj2
    ·cases hr
   ·rename_i sz hs hg
    obtain ⟨c,hc,rfl⟩:=Option.map_eq_some_iff.1 hr
    refine fin (u 0) (Jk hg b k w _ (by simpa using h3 0 c hc)) ?_
    simp only [AO]
    exact h4 0 c hc
   ·cases hr
 ·rename_i t' g k blk e
  simp only [Prod.mk.injEq] at e
  obtain ⟨e,eb⟩:=e
  rw [e] at hx eb
  have hM:=KF eb
  simp only [AO] at hx
  obtain ⟨b,cap,hm,hv⟩:=hx.2 blk hM
  have hb:=h.blk t' g blk hM
  unfold CP at hb
  rw [hm] at hb
  simp only at hb
  obtain ⟨cur,q1,q2,q3,_,_⟩:=hb
  split at hr
  ·rename_i sz hs hg
   split at hr
   ·rename_i hle
    simp only [Option.some.injEq] at hr
    subst hr
    have hcl:∀ (j:Nat) v,((cur.toList.drop k).take sz)[j]?=some v -> w.cell? ⟨b,k+j,none⟩=some v:=by
     intro j v hj
     rw [List.getElem?_take] at hj
     split at hj
     ·rw [List.getElem?_drop] at hj
      rw [P5 q1]
      simpa using hj
     ·cases hj
    refine fin (.agg ((cur.toList.drop k).take sz).toArray) (by rw [hv];exact Lj hs hg b k w _ (by simp;omega) hcl) ?_
    ·refine WX (Ao.mk (by simp;omega) fun j c u hc hu=>?_)
     rw [List.getElem?_take] at hc hu
     split at hc
     ·rename_i hlt
      rw [if_pos hlt] at hu
      rw [List.getElem?_drop] at hc hu
      exact q3 _ c u hc (by simpa using hu)
     ·cases hc
   ·cases hr
  ·rename_i sz hs hg
   have hlt:=(List.getElem?_eq_some_iff.1 hr).1
   have hcur:cur[k]?=some (cur[k]'(by omega)):=by simp
   refine fin (cur[k]'(by omega)) (by rw [hv];exact Jk hg b k w _ (by rw [P5 q1];exact hcur)) ?_
   exact q3 k r _ hr hcur
  ·cases hr
 ·cases hr
theorem jP (h:Bc cx S a w μ) {t:TypeId} {x:Operand} (ho:o.op=.load t x) {r:SV} (hr:Dt cx.P t (S.look x)=some r) (ha:S.apply cx.n o.dst (.val r)=some S'):Runs cx S' o a w:=by
 obtain ⟨v,h1,h2⟩:=Z6 h hr
 refine Ca h (v:=v) ?_ h2 ha
 unfold execOp
 simp only [ho,Sem.run_bind,h1,Result.andThen_ok]
 rfl
end
end Go.Ab
namespace Go.Ab
open Go.RowKit
section
variable {cx:Cx} {S S':St} {a:Act} {w:World} {μ:Nat -> Option (Nat × Nat)} {o:Oper}
theorem Wx (h:Bc cx S a w μ) {blk:BG} {k:Nat} {cur:Array Value} {cap:Nat} {v:Value} (ha:S.apply cx.n o.dst (.mk blk k)=some S')
  (hcells:blk.cells.length <= cur.size) (hc:∀ (j:Nat) c u,blk.cells[j]?=some c -> cur[j]?=some u -> AO w S.M μ (XX cx S.M μ) c u)
  (hrow:blk.row=true -> cur.size=cap * blk.CS /\ cap <= maxLen /\ k <= cap /\ v=.slice (some ⟨w.heap.size,0,none⟩) k cap)
  (uQ:blk.row=false -> blk.cells.length=cur.size /\ v=.pointer (some ⟨w.heap.size,0,none⟩))
  (hrun:(execOp a.eval o).run cx.P w=.ok (.value v) (w.alloc (.cells cur blk.elem))) (yw:blk.st < 3:=by (first | decide | simp)):Runs cx S' o a w:=by
 cases hd:o.dst with
 | none=>rw [hd] at ha;simp [St.apply] at ha
 | some d =>
  rw [hd] at ha
  simp only [St.apply] at ha
  split at ha
  ·rename_i hdn
   simp only [Option.some.injEq] at ha
   subst ha
   refine ⟨v,_,upd μ d (some (w.heap.size,cap)),.inl hrun,?_⟩
   rw [hd]
   have h1:=h.create d blk cur cap yw hcells hc (fun hr=>⟨(hrow hr).1,(hrow hr).2.1⟩) (fun hr=>(uQ hr).1)
   refine h1.set (S:=⟨S.F,upd S.M d ((S.M d).1+1,some blk)⟩) hdn ?_
   cases hrw:blk.row with
   | true =>
    obtain ⟨_,_,hk,rfl⟩:=hrow hrw
    simp only [if_true,AO]
    refine ⟨⟨rfl,by rw [upd_same];exact Nat.le_refl _⟩,fun Ay e=>?_⟩
    rw [upd_same] at e
    simp only [Prod.mk.injEq,Option.some.injEq,true_and] at e
    subst e
    rw [upd_same]
    simp [hk]
   | false =>
    obtain ⟨_,rfl⟩:=uQ hrw
    simp only [Bool.false_eq_true,if_false,AO]
    refine ⟨⟨rfl,by rw [upd_same];exact Nat.le_refl _⟩,fun Ay e=>⟨w.heap.size,cap,by rw [upd_same],rfl⟩⟩
  ·cases ha
theorem Yb (h:Bc cx S a w μ) {T:TypeId} {cs:List SV} {vs:List Value} (hvs:Ao w S.M μ (XX cx S.M μ) cs vs)
  (hrun:(execOp a.eval o).run cx.P w=.ok (.value (.pointer (some ⟨w.heap.size,0,none⟩))) (w.alloc (.cells vs.toArray T)))
  (ha:S.apply cx.n o.dst (.mk ⟨cs,0,T,0,false⟩ 0)=some S'):Runs cx S' o a w :=
 Wx h (cap:=0) ha (by simp [hvs.length]) (fun j c u hc hu=>hvs.get j c u hc (by simpa using hu)) (fun hr=>by simp at hr) (fun _=>⟨by simp [hvs.length],rfl⟩) hrun
theorem qQ (h:Bc cx S a w μ) {T:TypeId} {x:Operand} (ho:o.op=.box T x) {cs:List SV} (hc:Cn (S.ev x)=some cs)
  (ha:S.apply cx.n o.dst (.mk ⟨cs,0,T,0,false⟩ 0)=some S'):Runs cx S' o a w:=by
 refine Yb h (M8 hc (h.ev x)) ?_ ha
 unfold execOp
 simp only [ho,Instr.box,newVar,newRow,Sem.run_bind,run_newObj,Result.andThen_ok,Sem.run_pure,Array.toArray_toList]
 rfl
theorem kV {P:Program} {T:TypeId} {cs:List SV} (h:D6 P T=some cs) (w:World):∃ z,(zeroValue T).run P w=.ok z w /\ z.cells.toList.map Ar=cs:=by
 unfold D6 at h
 split at h
 ·rename_i i hi
  obtain ⟨z,hz,rfl⟩:=Option.map_eq_some_iff.1 h
  exact ⟨z,by simp [zeroValue,typeInfo,hi,hz],rfl⟩
 ·cases h
theorem dY (h:Bc cx S a w μ) {T:TypeId} (ho:o.op=.alloc T) {cs:List SV} (hc:D6 cx.P T=some cs)
  (ha:S.apply cx.n o.dst (.mk ⟨cs,0,T,0,false⟩ 0)=some S'):Runs cx S' o a w:=by
 obtain ⟨z,hz,rfl⟩:=kV hc w
 refine Yb h (vs:=z.cells.toList) (Iw _) ?_ ha
 unfold execOp
 simp only [ho,Instr.alloc,newVar,newRow,Sem.run_bind,hz,run_newObj,Result.andThen_ok,Sem.run_pure,Array.toArray_toList]
 rfl
def F5 (place:Nat -> Option (Nat × Nat)) (cells:List SV):List (Nat × SV) -> Option (List SV)
 | []=>some cells
 | (i,s) :: rest =>
  match place i,Cn s with
  | some (off,size),some cs=>if cs.length=size /\ off+cs.length <= cells.length then F5 place (putCells cells off cs) rest else none
  | _,_=>none
theorem rA (off:Nat) (vs:List Value):∀ (k:Nat) (cells:Array Value),off+k+vs.length <= cells.size →
  ((vs.zipIdx k).foldl (fun cs (c,j)=>cs.setIfInBounds (off+j) c) cells).toList=putCells cells.toList (off+k) vs:=by
 induction vs with
 | nil=>intro k cells _;simp [putCells]
 | cons v vs ih =>
  intro k cells hk
  simp only [List.zipIdx_cons,List.foldl_cons]
  rw [ih (k+1) _ (by simp only [List.length_cons] at hk;simp;omega)]
  apply List.ext_getElem?
  intro j
  have hk':=hk
  simp only [List.length_cons] at hk'
  rw [Fg _ _ _ _ (by simp only [Array.length_toList,Array.size_setIfInBounds];omega),Fg _ _ _ _ (by simp only [Array.length_toList,List.length_cons];omega)]
  simp only [Array.toList_setIfInBounds]
  by_cases h1:j < off+k
  ·rw [if_pos (by omega),if_pos h1,List.getElem?_set_ne (by omega)]
  ·by_cases h2:j=off+k
   ·subst h2
    rw [if_pos (by omega),List.getElem?_set_self (by simp only [Array.length_toList];omega),if_neg (by omega),if_pos (by simp only [List.length_cons];omega)]
    simp
   ·rw [if_neg (by omega),if_neg h1]
    by_cases h3:j < off+(k+1)+vs.length
    ·rw [if_pos h3,if_pos (by simp only [List.length_cons];omega)]
     rw [show j - (off+k)=(j - (off+(k+1)))+1 by omega,List.getElem?_cons_succ]
    ·rw [if_neg h3,if_neg (by simp only [List.length_cons];omega),List.getElem?_set_ne (by omega)]
theorem TY {place:Nat -> Option (Nat × Nat)}:∀ (ps:List (Nat × SV)) (vs:List (Nat × Value)) (cells:List SV) (cv:Array Value) (out:List SV),ps.length=vs.length →
  (∀ (j:Nat) (p:Nat × SV) (q:Nat × Value),ps[j]?=some p -> vs[j]?=some q -> p.1=q.1 /\ AO w S.M μ (XX cx S.M μ) p.2 q.2) →
  Ao w S.M μ (XX cx S.M μ) cells cv.toList -> F5 place cells ps=some out →
  ∃ ov,Instr.fill place cv vs=some ov /\ Ao w S.M μ (XX cx S.M μ) out ov.toList
 | [],[],cells,cv,out,_,_,hcv,h=>by
  simp only [F5,Option.some.injEq] at h
  subst h
  exact ⟨cv,rfl,hcv⟩
 | [],_ :: _,_,_,_,hl,_,_,_=>by simp at hl
 | _ :: _,[],_,_,_,hl,_,_,_=>by simp at hl
 | (i,s) :: ps,(i',v) :: vs,cells,cv,out,hl,hp,hcv,h=>by
  obtain ⟨e1,hs⟩:=hp 0 (i,s) (i',v) rfl rfl
  simp only at e1
  subst e1
  simp only [F5] at h
  split at h
  ·rename_i off size cs e2 e3
   split at h
   ·rename_i hle
    have hcs:=M8 e3 hs
    have hsz:v.cells.size=cs.length:=by have:=hcs.length;simpa using this
    have hcl:cv.size=cells.length:=by have:=hcv.length;simpa using this
    have hz:=rA off v.cells.toList 0 cv (by simp;omega)
    simp only [Nat.add_zero] at hz
    have hzz:(v.cells.zipIdx.foldl (fun cs (c,j)=>cs.setIfInBounds (off+j) c) cv).toList=putCells cv.toList off v.cells.toList:=by
     rw [<- hz,<- Array.foldl_toList,Array.toList_zipIdx]
    obtain ⟨ov,h1,h2⟩:=TY ps vs (putCells cells off cs) (v.cells.zipIdx.foldl (fun cs (c,j)=>cs.setIfInBounds (off+j) c) cv) out (by simpa using hl)
     (fun j p q hp' hq'=>hp (j+1) p q (by simpa using hp') (by simpa using hq')) (by
      rw [hzz]
      refine Ao.mk ?_ fun j c u hc hu=>?_
      ·rw [Dy _ _ _ (by simp;omega),Dy _ _ _ hle.2]
       simpa using hcl
      ·rw [Fg _ _ _ _ hle.2] at hc
       rw [Fg _ _ _ _ (by simp;omega)] at hu
       have el:v.cells.toList.length=cs.length:=by simpa using hsz
       rw [el] at hu
       split at hc
       ·rename_i hj;rw [if_pos hj] at hu;exact hcv.get j c u hc hu
       ·rename_i hj
        rw [if_neg hj] at hu
        split at hc
        ·rename_i hj2;rw [if_pos hj2] at hu;exact hcs.get _ c u hc hu
        ·rename_i hj2;rw [if_neg hj2] at hu;exact hcv.get j c u hc hu) h
    refine ⟨ov,?_,h2⟩
    simp only [Instr.fill,e2]
    rw [if_neg (by simp;omega)]
    exact h1
   ·cases h
  ·cases h
def FM (P:Program) (t:TypeId):Option (List (Nat × Nat)) :=
 match P.underlying t with
 | some (.struct fs)=>fs.toList.mapM fun f=>(P.info? f.type).map fun i=>(f.offset,i.size)
 | _=>none
def Ro (P:Program) (t:TypeId) (parts:List (Nat × SV)):Option SV :=
 match FM P t,D6 P t with
 | some places,some zero=>(F5 (fun i=>places[i]?) zero parts).map N8
 | _,_=>none
theorem dQ (h:Bc cx S a w μ) {t:TypeId} {parts:Array (Nat × Operand)} (ho:o.op=.build t parts) {r:SV} (hr:Ro cx.P t (parts.toList.map fun p=>(p.1,S.ev p.2))=some r)
  (ha:S.apply cx.n o.dst (.val r)=some S'):Runs cx S' o a w:=by
 unfold Ro at hr
 split at hr
 ·rename_i places zero hp hz
  obtain ⟨cs,hf,rfl⟩:=Option.map_eq_some_iff.1 hr
  unfold FM at hp
  split at hp
  ·rename_i fs hu
   unfold D6 at hz
   split at hz
   ·rename_i i hi
    obtain ⟨z,hz',rfl⟩:=Option.map_eq_some_iff.1 hz
    obtain ⟨ov,h1,h2⟩:=TY (w:=w) (cx:=cx) (S:=S) (μ:=μ) (parts.toList.map fun p=>(p.1,S.ev p.2)) (parts.toList.map fun p=>(p.1,a.eval p.2)) _ z.cells cs (by simp)
     (fun j p q hp' hq'=>by
      simp only [List.getElem?_map,Option.map_eq_some_iff] at hp' hq'
      obtain ⟨p0,e0,rfl⟩:=hp'
      obtain ⟨q0,e1,rfl⟩:=hq'
      rw [e0] at e1
      simp only [Option.some.injEq] at e1
      subst e1
      exact ⟨rfl,h.ev _⟩) (Iw _) hf
    have hb:cx.P.built t (parts.map fun (i,x)=>(i,a.eval x)).toList=some ov:=by
     unfold Program.built
     simp only [hi,hu,hz',hp]
     simpa using h1
    refine Ca h (v:=.agg ov) ?_ ?_ ha
    ·unfold execOp
     simp only [ho,Sem.run_bind,run_build w t _ ov hb,Result.andThen_ok]
     rfl
    ·have:=WX h2
     simpa using this
   ·cases hz
  ·cases hp
 ·cases hr
theorem J7 (z:Array Value):∀ n:Nat,((List.range (n * z.size)).map fun i=>z[i % z.size]!)=(List.replicate n z.toList).flatten
 | 0=>by simp
 | n+1=>by
  have ih:=J7 z n
  rw [List.replicate_succ',List.flatten_append,<- ih,Nat.add_mul,Nat.one_mul,List.range_add,List.map_append]
  congr 1
  simp only [List.flatten_cons,List.flatten_nil,List.append_nil,List.map_map]
  apply List.ext_getElem?
  intro j
  by_cases hj:j < z.size
  ·simp [hj,Nat.add_mod,Nat.mod_eq_of_lt hj]
  ·rw [List.getElem?_eq_none (by simpa using hj),List.getElem?_eq_none (by simpa using hj)]
theorem Ec {zs:List SV} {z:List Value} (h:Ao w S.M μ (XX cx S.M μ) zs z):∀ n,Ao w S.M μ (XX cx S.M μ) (List.replicate n zs).flatten (List.replicate n z).flatten
 | 0=>trivial
 | n+1=>by
  have app:∀ (as:List SV) (av:List Value) (bs:List SV) (bv:List Value),Ao w S.M μ (XX cx S.M μ) as av -> Ao w S.M μ (XX cx S.M μ) bs bv -> Ao w S.M μ (XX cx S.M μ) (as ++ bs) (av ++ bv):=by
   intro as
   induction as with
   | nil=>intro av bs bv ha hb;cases av with | nil=>exact hb | cons=>simp only [Ao] at ha
   | cons c as ih =>
    intro av bs bv ha hb
    cases av with
    | nil=>simp only [Ao] at ha
    | cons v av=>simp only [Ao,List.cons_append] at ha ⊢;exact ⟨ha.1,ih av bs bv ha.2 hb⟩
  simp only [List.replicate_succ,List.flatten_cons]
  exact app _ _ _ _ h (Ec h n)
def Rc (P:Program) (t:TypeId) (l c:SV):Option Out :=
 match D8 P t,l,c with
 | some e,.dv (.int .i64 n),.dv (.int .i64 m) =>
  match D6 P e,FC P e,Fx P e with
  | some zs,some sz,some by'=>if 0 <= n /\ n <= m /\ by' * m <= 281474976710656 /\ m <= 9223372036854775807 /\ zs.length=sz then some (.mk ⟨(List.replicate n.toNat zs).flatten,sz,e,0,true⟩ n.toNat) else none
  | _,_,_=>none
 | _,_,_=>none
end
end Go.Ab
namespace Go.Ab
open Go.RowKit
section
variable {cx:Cx} {S S':St} {a:Act} {w:World} {μ:Nat -> Option (Nat × Nat)} {o:Oper}
theorem jL (h:Bc cx S a w μ) {t:TypeId} {x y:Operand} (ho:o.op=.makeSlice t x y) {out:Out} (hr:Rc cx.P t (S.ev x) (S.ev y)=some out)
  (ha:S.apply cx.n o.dst out=some S'):Runs cx S' o a w:=by
 have hx:=h.ev x
 have hy:=h.ev y
 unfold Rc at hr
 split at hr
 ·rename_i e n m he ex ey
  rw [ex] at hx
  rw [ey] at hy
  simp only [AO] at hx hy
  generalize hvx:a.eval x=vx at *
  generalize hvy:a.eval y=vy at *
  cases hx;cases hy
  split at hr
  ·rename_i zs sz by' hz hs hby
   split at hr
   ·rename_i hc
    obtain ⟨h0,h1,hb,hm,hl⟩:=hc
    simp only [Option.some.injEq] at hr
    subst hr
    have hu:=F7 he
    unfold D6 at hz
    split at hz
    ·rename_i i hi
     obtain ⟨z,hz',rfl⟩:=Option.map_eq_some_iff.1 hz
     simp only [FC,Fx,hi,Option.map_some,Option.some.injEq] at hs hby
     subst hs
     subst hby
     have hzl:z.cells.size=i.size:=by simpa using hl
     have hrun:=run_make (P:=cx.P) w t e i z hu hi hz' .i64 .i64 n m h0 h1 hb hm
     have hmc:madeCells z.cells (m.toNat * i.size)=(List.replicate m.toNat z.cells.toList).flatten.toArray:=by
      rw [<- J7,<- hzl]
      unfold madeCells
      apply Array.ext'
      simp
     rw [hmc] at hrun
     refine Wx h (cap:=m.toNat) (k:=n.toNat) ha ?_ ?_ ?_ ?_ (v:=.slice (some ⟨w.heap.size,0,none⟩) n.toNat m.toNat) ?_ (cur:=(List.replicate m.toNat z.cells.toList).flatten.toArray)
     ·simp [hzl];exact Nat.mul_le_mul_right _ (by omega)
     ·intro j c u hc hu'
      have hrep:=Ec (cx:=cx) (S:=S) (w:=w) (μ:=μ) (Iw z.cells.toList) n.toNat
      refine hrep.get j c u hc ?_
      have hj:=(List.getElem?_eq_some_iff.1 hc).1
      have hmn:m.toNat=n.toNat+(m.toNat - n.toNat):=by omega
      rw [hmn,<- List.replicate_append_replicate,List.flatten_append] at hu'
      simp only [List.getElem?_toArray] at hu'
      rwa [List.getElem?_append_left (by simpa [hzl] using hj)] at hu'
     ·intro _
      refine ⟨by simp [hzl],by simp only [maxLen];omega,by omega,rfl⟩
     ·intro hf;simp at hf
     ·unfold execOp
      simp only [ho,hvx,hvy,Sem.run_bind,hrun,Result.andThen_ok]
      rfl
    ·cases hz
   ·cases hr
  ·cases hr
 ·cases hr
def Hy (P:Program) (t:TypeId) (len:Nat) (parts:List (Nat × SV)):Option Out :=
 match D8 P t with
 | some e=>match D6 P e,FC P e with
  | some zs,some sz=>if zs.length=sz /\ len * sz <= 16777216 /\ len <= 16777216 then
    (F5 (fun i=>some (i * sz,sz)) (List.replicate len zs).flatten parts).map fun cs=>.mk ⟨cs,sz,e,0,true⟩ len
   else none
  | _,_=>none
 | none=>none
theorem Mv {place:Nat -> Option (Nat × Nat)}:∀ (ps:List (Nat × SV)) (cells out:List SV),F5 place cells ps=some out -> out.length=cells.length
 | [],cells,out,h=>by simp only [F5,Option.some.injEq] at h;subst h;rfl
 | (i,s) :: ps,cells,out,h=>by
  simp only [F5] at h
  split at h
  ·split at h
   ·rename_i hle
    rw [Mv ps _ out h,Dy _ _ _ hle.2]
   ·cases h
  ·cases h
theorem R7 (h:Bc cx S a w μ) {t:TypeId} {len:Nat} {parts:Array (Nat × Operand)} (ho:o.op=.buildSlice t len parts) {out:Out}
  (hr:Hy cx.P t len (parts.toList.map fun p=>(p.1,S.ev p.2))=some out) (ha:S.apply cx.n o.dst out=some S'):Runs cx S' o a w:=by
 unfold Hy at hr
 split at hr
 ·rename_i e he
  split at hr
  ·rename_i zs sz hz hs
   split at hr
   ·rename_i hc
    obtain ⟨cs,hf,rfl⟩:=Option.map_eq_some_iff.1 hr
    have hu:=F7 he
    unfold D6 at hz
    split at hz
    ·rename_i i hi
     obtain ⟨z,hz',rfl⟩:=Option.map_eq_some_iff.1 hz
     simp only [FC,hi,Option.map_some,Option.some.injEq] at hs
     subst hs
     have hzl:z.cells.size=i.size:=by simpa using hc.1
     have hl:=Mv _ _ _ hf
     obtain ⟨ov,h1,h2⟩:=TY (w:=w) (cx:=cx) (S:=S) (μ:=μ) (parts.toList.map fun p=>(p.1,S.ev p.2)) (parts.toList.map fun p=>(p.1,a.eval p.2)) _ ((List.replicate len z.cells.toList).flatten.toArray) cs (by simp)
      (fun j p q hp' hq'=>by
       simp only [List.getElem?_map,Option.map_eq_some_iff] at hp' hq'
       obtain ⟨p0,e0,rfl⟩:=hp'
       obtain ⟨q0,e1,rfl⟩:=hq'
       rw [e0] at e1
       simp only [Option.some.injEq] at e1
       subst e1
       exact ⟨rfl,h.ev _⟩) (by simpa using Ec (Iw z.cells.toList) len) hf
     have hol:ov.size=len * i.size:=by
      have:=h2.length
      rw [hl] at this
      simpa [hzl] using this
     have hbig:¬ (len * i.size > 2 ^ 24):=by omega
     have hrun:(Instr.buildSlice t len (parts.map fun (i,x)=>(i,a.eval x))).run cx.P w=.ok (.slice (some ⟨w.heap.size,0,none⟩) len len) (w.alloc (.cells ov e)):=by
      have hz0:((Array.range (len * i.size)).map fun j=>z.cells[j % z.cells.size]!)=(List.replicate len z.cells.toList).flatten.toArray:=by
       rw [<- J7,hzl]
       apply Array.ext'
       simp
      by_cases h0:len * i.size=0
      ·have e0:(List.replicate len z.cells.toList).flatten=[]:=by
        apply List.eq_nil_of_length_eq_zero
        simp [hzl,h0]
       rw [e0] at h1
       have h1':Instr.fill (fun j=>some (j * i.size,i.size)) #[] (List.map (fun x=>(x.1,a.eval x.2)) parts.toList)=some ov:=h1
       simp [Instr.buildSlice,run_underlying hu,sizeOf,typeInfo,hi,h0,h1',newRow,Array.range_zero']
      ·rw [<- hz0] at h1
       have h1':Instr.fill (fun j=>some (j * i.size,i.size)) (Array.map (fun j=>z.cells[j % z.cells.size]!) (Array.range (len * i.size))) (List.map (fun x=>(x.1,a.eval x.2)) parts.toList)=some ov:=h1
       have hbig':¬ (16777216 < len * i.size):=by omega
       simp only [Instr.buildSlice,Sem.run_bind,run_underlying hu,Result.andThen_ok,sizeOf,typeInfo,run_program,hi,Sem.run_pure,hbig,h0,if_false,zeroValue,hz',Array.toList_map]
       rw [h1']
       simp [newRow]
     refine Wx h (cap:=len) ha (by rw [hl];simp [hzl,hol]) (fun j c u hc' hu'=>h2.get j c u hc' (by simpa using hu')) ?_ (fun hf=>by simp at hf) (v:=.slice (some ⟨w.heap.size,0,none⟩) len len) (cur:=ov) ?_
     ·intro _
      refine ⟨hol,?_,Nat.le_refl _,rfl⟩
      simp only [maxLen];omega
     ·unfold execOp
      simp only [ho,Sem.run_bind,hrun,Result.andThen_ok]
      rfl
    ·cases hz
   ·cases hr
  ·cases hr
 ·cases hr
end
end Go.Ab
namespace Go.Ab
open Go.RowKit
section
variable {cx:Cx} {S S':St} {a:Act} {w:World} {μ:Nat -> Option (Nat × Nat)} {o:Oper}
def Ev (sz:Nat):SV × Option BG -> Option (Nat × List SV)
 | (.Bw,_)=>some (0,[])
 | (.emp _,_)=>some (0,[])
 | (.dv (.list l),_)=>if l.all (fun d=>d.cells.length == sz && d.cells.all fun c=>Du (.dv c)) then some (l.length,(flat l).map .dv) else none
 | (.sl _ _ k m,some blk)=>if blk.CS=sz /\ (k+m) * sz <= blk.cells.length /\ ((blk.cells.drop (k * sz)).take (m * sz)).all Du then some (m,(blk.cells.drop (k * sz)).take (m * sz)) else none
 | _=>none
theorem Oi:∀ (l:List DV) (e:Nat),(∀ d ∈ l,d.cells.length=e) -> (flat l).length=l.length * e
 | [],_,_=>by simp [flat]
 | d :: l,e,h=>by
  have ih:=Oi l e (fun d' hd=>h d' (by simp [hd]))
  have:=h d (by simp)
  simp only [flat,List.flatMap_cons,List.length_append,List.length_cons] at ih ⊢
  rw [ih,this,Nat.add_mul]
  omega
theorem eG (h:Bc cx S a w μ) {sz:Nat} {s:SV} {n:Nat} {news:List SV} (hs:Ev sz (s,AV S.M s)=some (n,news)) {v:Value} (hv:AO w S.M μ (XX cx S.M μ) s v) {t e':TypeId} (ht:cx.P.underlying t=some (.slice e')) :
  ∃ nv,Src cx.P sz t v n nv w /\ Ao w S.M μ (XX cx S.M μ) news nv:=by
 unfold Ev at hs
 split at hs
 ·rename_i q e
  simp only [Prod.mk.injEq] at e
  obtain ⟨rfl,_⟩:=e
  simp only [Option.some.injEq,Prod.mk.injEq] at hs
  obtain ⟨rfl,rfl⟩:=hs
  simp only [AO] at hv
  subst hv
  exact ⟨[],Src.ofNil w ht 0,trivial⟩
 ·rename_i b q e
  simp only [Prod.mk.injEq] at e
  obtain ⟨rfl,_⟩:=e
  simp only [Option.some.injEq,Prod.mk.injEq] at hs
  obtain ⟨rfl,rfl⟩:=hs
  simp only [AO] at hv
  obtain ⟨ad,cap,rfl,_⟩:=hv
  refine ⟨[],?_,trivial⟩
  cases ad with
  | none=>exact Src.ofNil w ht cap
  | some ad=>exact Src.ofSlice w ht ad 0 cap [] (by simp) (fun j u hj=>by simp at hj) (fun u hu=>by cases hu)
 ·rename_i l q e
  simp only [Prod.mk.injEq] at e
  obtain ⟨rfl,_⟩:=e
  split at hs
  ·rename_i hall
   simp only [Option.some.injEq,Prod.mk.injEq] at hs
   obtain ⟨rfl,rfl⟩:=hs
   simp only [AO] at hv
   have xC:∀ d ∈ l,d.cells.length=sz /\ ∀ c ∈ d.cells,Du (.dv c)=true:=by
    intro d hd
    have:=List.all_eq_true.1 hall d hd
    simp only [Bool.and_eq_true,beq_iff_eq,List.all_eq_true] at this
    exact this
   cases hv with
   | Dp ad cap =>
    refine ⟨[],?_,trivial⟩
    cases ad with
    | none=>exact Src.ofNil w ht cap
    | some ad=>exact Src.ofSlice w ht ad 0 cap [] (by simp) (fun j u hj=>by simp at hj) (fun u hu=>by cases hu)
   | list _ b off cap CS u h1 h2 hcap h3 h4 h5 =>
    have hfl:=Oi l sz (fun d hd=>(xC d hd).1)
    have hok:∀ c ∈ flat l,Du (.dv c)=true:=by
     intro c hc
     simp only [flat,List.mem_flatMap] at hc
     obtain ⟨d,hd,hc⟩:=hc
     exact (xC d hd).2 c hc
    refine ⟨(List.range (flat l).length).map u,Src.ofSlice w ht ⟨b,off,none⟩ l.length cap _ (by simp [hfl]) ?_ ?_,?_⟩
    ·intro j v hj
     simp only [List.getElem?_map,Option.map_eq_some_iff] at hj
     obtain ⟨j',hj',rfl⟩:=hj
     have hlt:j < (flat l).length:=by simpa using (List.getElem?_eq_some_iff.1 hj').1
     rw [List.getElem?_range hlt] at hj'
     simp only [Option.some.injEq] at hj'
     subst hj'
     rw [Addr.add_lit]
     exact h4 j (flat l)[j] (by simp)
    ·intro x hx
     simp only [List.mem_map,List.mem_range] at hx
     obtain ⟨j,hj,rfl⟩:=hx
     have hr:=h5 j (flat l)[j] (by simp [hj])
     exact Nk (M:=S.M) (μ:=μ) (hok _ (List.getElem_mem hj)) (by simp only [AO];exact hr)
    ·refine Ao.mk (by simp) fun j c v hc hv=>?_
     simp only [List.getElem?_map,Option.map_eq_some_iff] at hc hv
     obtain ⟨d,hd,rfl⟩:=hc
     obtain ⟨j',hj',rfl⟩:=hv
     have hlt:j < (flat l).length:=(List.getElem?_eq_some_iff.1 hd).1
     rw [List.getElem?_range hlt] at hj'
     simp only [Option.some.injEq] at hj'
     subst hj'
     simp only [AO]
     exact h5 j d hd
  ·cases hs
 ·rename_i t' g k m blk e
  simp only [Prod.mk.injEq] at e
  obtain ⟨rfl,eb⟩:=e
  have hM:=JF eb
  split at hs
  ·rename_i hc
   simp only [Option.some.injEq,Prod.mk.injEq] at hs
   obtain ⟨rfl,rfl⟩:=hs
   obtain ⟨rfl,hle,hok⟩:=hc
   simp only [AO] at hv
   have hv2:=hv.2 blk hM
   have hb:=h.blk t' g blk hM
   unfold CP at hb
   cases hm:μ t' with
   | none =>
    rw [hm] at hv2 hb
    simp only at hv2 hb
    obtain ⟨rfl,rfl,rfl⟩:=hv2
    refine ⟨[],Src.ofNil w ht 0,by simp [Ao]⟩
   | some p =>
    obtain ⟨b,cap⟩:=p
    rw [hm] at hv2 hb
    simp only at hv2 hb
    obtain ⟨rfl,hcap⟩:=hv2
    obtain ⟨cur,q1,q2,q3,_,_⟩:=hb
    have hrep:Ao w S.M μ (XX cx S.M μ) ((blk.cells.drop (k * blk.CS)).take (m * blk.CS)) ((cur.toList.drop (k * blk.CS)).take (m * blk.CS)):=by
     refine Ao.mk (by simp;rw [Nat.add_mul] at hle;omega) fun j c u hc hu=>?_
     rw [List.getElem?_take] at hc hu
     split at hc
     ·rename_i hlt
      rw [if_pos hlt] at hu
      rw [List.getElem?_drop] at hc hu
      exact q3 _ c u hc (by simpa using hu)
     ·cases hc
    refine ⟨_,Src.ofSlice w ht ⟨b,k * blk.CS,none⟩ m (cap - k) _ ?_ ?_ ?_,hrep⟩
    ·rw [Nat.add_mul] at hle
     simp;omega
    ·intro j v hj
     rw [List.getElem?_take] at hj
     split at hj
     ·rw [List.getElem?_drop] at hj
      rw [Addr.add_lit,P5 q1]
      simpa using hj
     ·cases hj
    ·intro x hx
     obtain ⟨j,hj,rfl⟩:=List.getElem_of_mem hx
     have hj':j < ((blk.cells.drop (k * blk.CS)).take (m * blk.CS)).length:=by have:=hrep.length;omega
     exact Nk (List.all_eq_true.1 hok _ (List.getElem_mem hj')) (hrep.get j _ _ (List.getElem?_eq_getElem hj') (List.getElem?_eq_getElem hj))
  ·cases hs
 ·cases hs
def KG (P:Program) (t tx:TypeId) (s x:SV × Option BG):Option Out :=
 match D8 P t,D8 P tx with
 | some e,some _=>match FC P e,Fx P e,D6 P e with
  | some sz,some by',some zs =>
   match Ev sz x with
   | some (n,news) =>
    match s with
    | (.Bw,_)=>if n <= 9223372036854775807 /\ n * by' <= 140737488355328 /\ zs.length=sz then some (.app none ⟨news,sz,e,0,true⟩ n) else none
    | (.sl t' _ 0 m,some blk) =>
     if blk.row=true /\ blk.CS=sz /\ blk.elem=e /\ blk.cells.length=m * sz /\ m+n <= 9223372036854775807 /\ (m+n) * by' <= 140737488355328 /\ zs.length=sz then some (.app (some t') { blk with cells:=blk.cells ++ news,st:=0 } (m+n)) else none
    | _=>none
   | none=>none
  | _,_,_=>none
 | _,_=>none
theorem Kw (h:Bc cx S a w μ) {t tx e:TypeId} {i:TypeInfo} {z:Value} {ty:TypeId} (hu:cx.P.underlying t=some (.slice e)) (hi:cx.P.info? e=some i) (hz:i.zero=some z) (hzl:z.cells.size=i.size)
  (base:Option Addr) (m cap n:Nat) (olds nv:List Value) (hold:(Builtin.firstCells i.size m (.slice base m cap)).run cx.P w.drew=.ok olds.toArray w.drew) (hol:olds.length=m * i.size)
  {x:Value} (hs:Src cx.P i.size tx x n nv w) (hg:cap < m+n) (h63:m+n <= 9223372036854775807) (hb:(m+n) * i.bytes <= 140737488355328)
  {os ns:List SV} (ho:Ao w S.M μ (XX cx S.M μ) os olds) (hn:Ao w S.M μ (XX cx S.M μ) ns nv) (d:Nat) :
  ∃ v' w' μ',(Builtin.append_ #[t,tx] ty #[.slice base m cap,x]).run cx.P w=.ok v' w' ∧
   Bc cx ⟨S.F,upd S.M d ((S.M d).1+1,some ⟨os ++ ns,i.size,e,0,true⟩)⟩ a w' μ' ∧
   AO w' (upd S.M d ((S.M d).1+1,some ⟨os ++ ns,i.size,e,0,true⟩)) μ' (XX cx (upd S.M d ((S.M d).1+1,some ⟨os ++ ns,i.size,e,0,true⟩)) μ') (.sl d ((S.M d).1+1) 0 (m+n)) v':=by
 have hr:=run_append_grow_src (P:=cx.P) w t tx ty e i z hu hi hz base m cap olds hold x n nv hs hg (by omega) (growslice_fits (by omega) hb)
 have hd:Below w.heap.size w w.drew:=(Below.refl _ _).drew
 have h1:=h.grow hd
 have hge:=grownCap_ge w (m+n) cap e
 have hcm:=grownCap_le_maxLen w (m+n) cap e (by simp only [maxLen];omega)
 have hnl:=hs.newsLen
 have hok:Ao w S.M μ (XX cx S.M μ) (os ++ ns) (olds ++ nv):=by
  refine Ao.mk (by simp [ho.length,hn.length]) fun j c v hc hv=>?_
  by_cases hj:j < os.length
  ·rw [List.getElem?_append_left hj] at hc
   rw [List.getElem?_append_left (by rw [ho.length];exact hj)] at hv
   exact ho.get j c v hc hv
  ·rw [List.getElem?_append_right (by omega)] at hc
   rw [List.getElem?_append_right (by rw [ho.length];omega),ho.length] at hv
   exact hn.get _ c v hc hv
 have hsize:((olds ++ nv).toArray ++ Builtin.zeroCells z.cells (grownCap w (m+n) cap e - (m+n))).size=grownCap w (m+n) cap e * i.size:=by
  simp only [Array.size_append,List.size_toArray,List.length_append,size_zeroCells,hzl,hol,hnl,<- Nat.add_mul]
  congr 1
  omega
 have h2:=h1.create d ⟨os ++ ns,i.size,e,0,true⟩ ((olds ++ nv).toArray ++ Builtin.zeroCells z.cells (grownCap w (m+n) cap e - (m+n))) (grownCap w (m+n) cap e)
  (by simp) (by simp [ho.length,hn.length]) (fun j c u hc hu=>by
   have hj:j < (os ++ ns).length:=(List.getElem?_eq_some_iff.1 hc).1
   have hlen:=hok.length
   rw [Array.getElem?_append_left (by simp only [List.size_toArray];omega)] at hu
   have:=hok.get j c u hc (by simpa using hu)
   exact AO.mono hd.size (fun b hb hx=>⟨hd.block b hb,hx⟩) (fun _=>Nat.le_refl _) (fun t g Ay e _=>⟨Ay,e,rfl,rfl⟩) c u this)
  (fun _=>⟨hsize,hcm⟩) (fun hf=>by simp at hf)
 refine ⟨_,_,_,hr,h2,?_⟩
 simp only [AO]
 refine ⟨⟨rfl,by rw [upd_same];exact Nat.le_refl _⟩,fun Ay e'=>?_⟩
 rw [upd_same] at e'
 simp only [Prod.mk.injEq,Option.some.injEq,true_and] at e'
 subst e'
 rw [upd_same]
 simp only [Nat.zero_mul,Nat.sub_zero,Nat.zero_add]
 exact ⟨rfl,hge⟩
theorem Qz (h:Bc cx S a w μ) {t tx e:TypeId} {i:TypeInfo} {ty:TypeId} (hu:cx.P.underlying t=some (.slice e)) (hi:cx.P.info? e=some i) {x:Value} {nv:List Value} (hs:Src cx.P i.size tx x 0 nv w) (d:Nat) :
  ∃ v' w' μ',(Builtin.append_ #[t,tx] ty #[.slice none 0 0,x]).run cx.P w=.ok v' w' ∧
   Bc cx ⟨S.F,upd S.M d ((S.M d).1+1,some ⟨[],i.size,e,0,true⟩)⟩ a w' μ' ∧
   AO w' (upd S.M d ((S.M d).1+1,some ⟨[],i.size,e,0,true⟩)) μ' (XX cx (upd S.M d ((S.M d).1+1,some ⟨[],i.size,e,0,true⟩)) μ') (.sl d ((S.M d).1+1) 0 0) v':=by
 refine ⟨.slice none 0 0,w,upd μ d none,?_,h.A1N d i.size e,?_⟩
 ·have hnv:nv=[]:=List.eq_nil_of_length_eq_zero (by have:=hs.newsLen;simpa using this)
  subst hnv
  rcases hs.kind with ⟨e',hk⟩ | hk<;>simp [Builtin.append_,run_underlying hu,run_underlying hk,sizeOf,typeInfo,hi,hs.len,hs.cells]
 ·simp only [AO]
  refine ⟨⟨rfl,by rw [upd_same];exact Nat.le_refl _⟩,fun Ay e'=>?_⟩
  rw [upd_same]
  exact ⟨trivial,trivial,trivial⟩
end
end Go.Ab
