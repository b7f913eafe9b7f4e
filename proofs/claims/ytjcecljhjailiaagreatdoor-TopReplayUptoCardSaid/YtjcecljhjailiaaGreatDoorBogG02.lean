/- Ab6, Ab7, Ab8, Ab9, Ab10. -/
import Derived.Test.YtjcecljhjailiaaGreatDoorBogG01
import Derived.Deep.AppendSrc
namespace Go.Ab
open Go.RowKit
inductive Out where
 | val (r:SV)
 | mk (blk:Au) (n:Nat)
 | app (t:Option Nat) (blk:Au) (n:Nat)
 | put (t:Nat) (blk:Au)
def St.apply (n:Nat) (S:St) (dst:Option Nat):Out -> Option St
 | .val r=>match dst with
  | some d=>if d < n then some ⟨upd S.F d r,S.M⟩ else none
  | none=>some S
 | .mk blk k=>match dst with
  | some d=>if d < n then some ⟨upd S.F d (if blk.row then .sl d ((S.M d).1+1) 0 k else .pt d ((S.M d).1+1) 0),upd S.M d ((S.M d).1+1,some blk)⟩ else none
  | none=>none
 | .app t blk k=>match dst with
  | some d=>if d < n then
    match t with
    | none=>some ⟨upd S.F d (.sl d ((S.M d).1+1) 0 k),upd S.M d ((S.M d).1+1,some blk)⟩
    | some t=>match (S.M t).2 with
     | some b=>if ED b.st then some ⟨upd S.F d (.sl d ((S.M d).1+1) 0 k),upd (upd S.M t ((S.M t).1,some { b with st:=2 })) d ((S.M d).1+1,some blk)⟩ else none
     | none=>none
   else none
  | none=>none
 | .put t blk=>match dst with
  | some _=>none
  | none=>match (S.M t).2 with
   | some b=>if ED b.st then some ⟨S.F,upd (Bd S.M) t ((S.M t).1,some blk)⟩ else none
   | none=>none
def Runs (cx:Cx) (S':St) (o:Oper) (a:Act) (w:World):Prop :=
 ∃ v w' μ',((execOp a.eval o).run cx.P w=.ok (.value v) w' \/ ((execOp a.eval o).run cx.P w=.ok .skip w' /\ v=undef)) /\ BJ cx S' (a.put o.dst v) w' μ'
theorem ny {cx:Cx} {S S':St} {a:Act} {w:World} {μ:Nat -> Option (Nat × Nat)} (h:BJ cx S a w μ) {dst:Option Nat} {r:SV} {v:Value}
  (hr:AJ w S.M μ (XX cx S.M μ) r v) (ha:S.apply cx.n dst (.val r)=some S'):BJ cx S' (a.put dst v) w μ:=by
 cases dst with
 | none=>simp only [St.apply,Option.some.injEq] at ha;subst ha;exact h
 | some d =>
  simp only [St.apply] at ha
  split at ha
  ·rename_i hd
   simp only [Option.some.injEq] at ha
   subst ha
   exact h.set hd hr
  ·cases ha
theorem CX {cx:Cx} {S S':St} {a:Act} {w:World} {μ:Nat -> Option (Nat × Nat)} (h:BJ cx S a w μ) {o:Oper} {r:SV} {v:Value}
  (hrun:(execOp a.eval o).run cx.P w=.ok (.value v) w) (hr:AJ w S.M μ (XX cx S.M μ) r v) (ha:S.apply cx.n o.dst (.val r)=some S'):Runs cx S' o a w :=
 ⟨v,w,μ,.inl hrun,ny h hr ha⟩
def O8 (c:Bool):SV -> SV -> SV
 | .dv (.bool x),.dv (.bool y)=>.dv (.bool (bif c then x else y))
 | a,b=>bif c then a else b
def DU (op:BinOp) (k:IntKind) (a b:Int):Option DV :=
 match op with
 | .add=>some (.int k (k.wrap (a+b)))
 | .sub=>some (.int k (k.wrap (a - b)))
 | .mul=>some (.int k (k.wrap (a * b)))
 | .quo=>if b=0 then none else some (.int k (k.wrap (a.tdiv b)))
 | .rem=>if b=0 then none else some (.int k (a.tmod b))
 | .and=>some (.int k (k.wrap (BitVec.ofInt k.bits a &&& BitVec.ofInt k.bits b).toNat))
 | .or=>some (.int k (k.wrap (BitVec.ofInt k.bits a ||| BitVec.ofInt k.bits b).toNat))
 | .xor=>some (.int k (k.wrap (BitVec.ofInt k.bits a ^^^ BitVec.ofInt k.bits b).toNat))
 | .andNot=>some (.int k (k.wrap (BitVec.ofInt k.bits a &&& ~~~BitVec.ofInt k.bits b).toNat))
 | .eql=>some (.bool (a == b))
 | .neq=>some (.bool (a != b))
 | .lss=>some (.bool (decide (a < b)))
 | .leq=>some (.bool (decide (a <= b)))
 | .gtr=>some (.bool (decide (b < a)))
 | .geq=>some (.bool (decide (b <= a)))
 | _=>none
def En (op:BinOp) (k:IntKind) (a b:Int):Option DV :=
 if b < 0 then none else
 match op with
 | .shl=>some (.int k (k.wrap (a * 2 ^ (min b.toNat k.bits))))
 | .shr=>some (.int k (a.fdiv (2 ^ (min b.toNat k.bits))))
 | _=>none
def Ip (op:BinOp) (x y:ByteArray):Option DV :=
 match op with
 | .add=>if ((x.size+y.size:Nat):Int) > 9223372036854775807 then none else some (.str (x ++ y))
 | .eql=>some (.bool (x.toList == y.toList))
 | .neq=>some (.bool !(x.toList == y.toList))
 | _=>none
def Kk (P:Program) (t:TypeId):Bool:=match P.underlying t with | some .bool=>true | _=>false
def Wz (P:Program) (t:TypeId):Bool:=match P.underlying t with | some (.interface _)=>true | _=>false
def Lm (P:Program) (t:TypeId):Bool:=match P.underlying t with | some (.pointer _)=>true | _=>false
def D5 (P:Program) (t:TypeId):Bool:=match P.underlying t with | some (.slice _)=>true | _=>false
def Om:SV -> Option Bool
 | .Bh=>some true
 | .emp b=>some b
 | .dv (.list l)=>if l.isEmpty then none else some false
 | _=>none
def WT:SV -> Option Bool
 | .dv .CU=>some true
 | .dv (.Cy _)=>some false
 | _=>none
def Ir (op:BinOp) (b:Bool):Option SV :=
 match op with
 | .eql=>some (.dv (.bool b))
 | .neq=>some (.dv (.bool !b))
 | _=>none
def Dj (P:Program) (op:BinOp) (t:TypeId):SV -> SV -> Option SV
 | .dv (.int k a),.dv (.int k' b) =>
  match op with
  | .shl | .shr=>(En op k a b).map .dv
  | _=>if k=k' then (DU op k a b).map .dv else none
 | .dv (.bool a),.dv (.bool b)=>if Kk P t then (match op with | .eql=>some (.dv (.bool (a == b))) | .neq=>some (.dv (.bool !(a == b))) | _=>none) else none
 | .dv (.str a),.dv (.str b)=>(Ip op a b).map .dv
 | x,.Bh=>if D5 P t then (match Om x with | some b=>Ir op b | none=>none) else none
 | x,.dv .CU=>if Lm P t then (match WT x with | some b=>Ir op b | none=>none) else none
 | _,_=>none
theorem X3 (P:Program) (op:BinOp) (t:TypeId) (x y:Operand) (k:IntKind) (a b:Int) (d:DV) (h:DU op k a b=some d) (w:World) :
  ∃ v,(do eqGuard op t x y (.int k a) (.int k b);binOp op t (.int k a) (.int k b):Sem Value).run P w=.ok v w /\ ∀ X,Bn w X d v:=by
 simp only [eqGuard_at_int,pure_bind]
 cases op<;>simp only [DU] at h
 case add=>cases h;exact ⟨_,by rw [binOp_add];rfl,fun X=>.int _ _⟩
 case sub=>cases h;exact ⟨_,by rw [binOp_sub];rfl,fun X=>.int _ _⟩
 case mul=>cases h;exact ⟨_,by rw [binOp_mul];rfl,fun X=>.int _ _⟩
 case quo =>
  split at h
  ·cases h
  ·rename_i hb;cases h;exact ⟨_,by rw [binOp_quo];simp only [Op.intDiv,hb,if_false];rfl,fun X=>.int _ _⟩
 case rem =>
  split at h
  ·cases h
  ·rename_i hb;cases h;exact ⟨_,by rw [binOp_rem];simp only [Op.intDiv,hb,if_false];rfl,fun X=>.int _ _⟩
 case and=>cases h;exact ⟨_,by rw [binOp_and];rfl,fun X=>.int _ _⟩
 case or=>cases h;exact ⟨_,by rw [binOp_or];rfl,fun X=>.int _ _⟩
 case xor=>cases h;exact ⟨_,by rw [binOp_xor];rfl,fun X=>.int _ _⟩
 case andNot=>cases h;exact ⟨_,by rw [binOp_andNot];rfl,fun X=>.int _ _⟩
 case eql=>cases h;exact ⟨_,by rw [binOp_eql];rfl,fun X=>.bool _⟩
 case neq=>cases h;exact ⟨_,by rw [binOp_neq];rfl,fun X=>.bool _⟩
 case lss=>cases h;exact ⟨_,by rw [binOp_lss];rfl,fun X=>.bool _⟩
 case leq=>cases h;exact ⟨_,by rw [binOp_leq];rfl,fun X=>.bool _⟩
 case gtr=>cases h;exact ⟨_,by rw [binOp_gtr];rfl,fun X=>.bool _⟩
 case geq=>cases h;exact ⟨_,by rw [binOp_geq];rfl,fun X=>.bool _⟩
 all_goals cases h
theorem SH (P:Program) (op:BinOp) (t:TypeId) (x y:Operand) (k k':IntKind) (a b:Int) (d:DV) (h:En op k a b=some d) (w:World) :
  ∃ v,(do eqGuard op t x y (.int k a) (.int k' b);binOp op t (.int k a) (.int k' b):Sem Value).run P w=.ok v w /\ ∀ X,Bn w X d v:=by
 simp only [eqGuard_at_int,pure_bind]
 unfold En at h
 split at h
 ·cases h
 ·rename_i hb
  cases op<;>simp only at h
  case shl=>cases h;exact ⟨_,by rw [binOp_shl];simp only [Op.shift,hb,if_false];rfl,fun X=>.int _ _⟩
  case shr=>cases h;exact ⟨_,by rw [binOp_shr];simp only [Op.shift,hb,if_false];rfl,fun X=>.int _ _⟩
  all_goals cases h
theorem WA (P:Program) (op:BinOp) (t:TypeId) (x y:Operand) (a b:ByteArray) (d:DV) (h:Ip op a b=some d) (w:World) :
  ∃ v,(do eqGuard op t x y (.string a) (.string b);binOp op t (.string a) (.string b):Sem Value).run P w=.ok v w /\ ∀ X,Bn w X d v:=by
 simp only [eqGuard_at_string,pure_bind]
 have e:binOp op t (.string a) (.string b)=Op.stringOp op a b:=by cases op<;>rfl
 rw [e]
 cases op<;>simp only [Ip] at h
 case add =>
  split at h
  ·cases h
  ·rename_i hb;cases h;exact ⟨_,by simp only [Op.stringOp,IntKind.max_i64,hb,if_false];rfl,fun X=>.str _⟩
 case eql=>cases h;exact ⟨_,rfl,fun X=>.bool _⟩
 case neq=>cases h;exact ⟨_,rfl,fun X=>.bool _⟩
 all_goals cases h
theorem VU (P:Program) (t:TypeId) (x y:Operand) (a b:Bool) (hP:Kk P t=true) (w:World) :
  (do eqGuard .eql t x y (.bool a) (.bool b);binOp .eql t (.bool a) (.bool b):Sem Value).run P w=.ok (.bool (a == b)) w ∧
  (do eqGuard .neq t x y (.bool a) (.bool b);binOp .neq t (.bool a) (.bool b):Sem Value).run P w=.ok (.bool !(a == b)) w:=by
 have hu:P.underlying t=some .bool:=by
  unfold Kk at hP
  split at hP
  ·assumption
  ·cases hP
 have he:(Op.equal t (.bool a) (.bool b)).run P w=.ok (a == b) w:=by
  show (Op.equalIn (9999+1) t (.bool a) (.bool b)).run P w=_
  unfold Op.equalIn
  simp only [Sem.run_bind,run_underlying hu,Result.andThen_ok]
  rfl
 simp only [eqGuard_at_bool,pure_bind]
 constructor
 ·show (do pure (.bool (<- Op.equal t (.bool a) (.bool b))):Sem Value).run P w=_
  simp only [Sem.run_bind,he,Result.andThen_ok,Sem.run_pure]
 ·show (do pure (.bool (!(<- Op.equal t (.bool a) (.bool b)))):Sem Value).run P w=_
  simp only [Sem.run_bind,he,Result.andThen_ok,Sem.run_pure]
theorem Wo {P:Program} {t e:TypeId} (hu:P.underlying t=some (.slice e)) (x y:Operand) (a:Option Addr) (n cap:Nat) (w:World) :
  (do eqGuard .eql t x y (.slice a n cap) (.slice none 0 0);binOp .eql t (.slice a n cap) (.slice none 0 0):Sem Value).run P w=.ok (.bool a.isNone) w ∧
  (do eqGuard .neq t x y (.slice a n cap) (.slice none 0 0);binOp .neq t (.slice a n cap) (.slice none 0 0):Sem Value).run P w=.ok (.bool !a.isNone) w:=by
 have he:(Op.equal t (.slice a n cap) (.slice none 0 0)).run P w=.ok a.isNone w:=by
  show (Op.equalIn (9999+1) t (.slice a n cap) (.slice none 0 0)).run P w=_
  unfold Op.equalIn
  simp only [Sem.run_bind,run_underlying hu,Result.andThen_ok]
  cases a<;>rfl
 constructor
 ·show (do pure (.bool (<- Op.equal t (.slice a n cap) (.slice none 0 0))):Sem Value).run P w=_
  simp only [Sem.run_bind,he,Result.andThen_ok,Sem.run_pure]
 ·show (do pure (.bool (!(<- Op.equal t (.slice a n cap) (.slice none 0 0)))):Sem Value).run P w=_
  simp only [Sem.run_bind,he,Result.andThen_ok,Sem.run_pure]
theorem Oi {P:Program} {t e:TypeId} (hu:P.underlying t=some (.pointer e)) (x y:Operand) (a:Option Addr) (w:World) :
  (do eqGuard .eql t x y (.pointer a) (.pointer none);binOp .eql t (.pointer a) (.pointer none):Sem Value).run P w=.ok (.bool a.isNone) w ∧
  (do eqGuard .neq t x y (.pointer a) (.pointer none);binOp .neq t (.pointer a) (.pointer none):Sem Value).run P w=.ok (.bool !a.isNone) w:=by
 have he:(Op.equal t (.pointer a) (.pointer none)).run P w=.ok a.isNone w:=by
  show (Op.equalIn (9999+1) t (.pointer a) (.pointer none)).run P w=_
  unfold Op.equalIn
  simp only [Sem.run_bind,run_underlying hu,Result.andThen_ok]
  cases a<;>rfl
 constructor
 ·show (do pure (.bool (<- Op.equal t (.pointer a) (.pointer none))):Sem Value).run P w=_
  simp only [Sem.run_bind,he,Result.andThen_ok,Sem.run_pure]
 ·show (do pure (.bool (!(<- Op.equal t (.pointer a) (.pointer none)))):Sem Value).run P w=_
  simp only [Sem.run_bind,he,Result.andThen_ok,Sem.run_pure]
theorem mJ {cx:Cx} {S S':St} {a:Act} {w:World} {μ:Nat -> Option (Nat × Nat)} (h:BJ cx S a w μ) {o:Oper} {op:BinOp} {t yt:TypeId} {x y:Operand} (ho:o.op=.binOp op t x y yt) {r:SV}
  (hr:Dj cx.P op t (S.ev x) (S.ev y)=some r) (ha:S.apply cx.n o.dst (.val r)=some S'):Runs cx S' o a w:=by
 have hx:=h.ev x
 have hy:=h.ev y
 have fin:∀ (v:Value) (d:DV),r=.dv d -> (do eqGuard op t x y (a.eval x) (a.eval y);binOp op t (a.eval x) (a.eval y):Sem Value).run cx.P w=.ok v w -> (∀ X,Bn w X d v) -> Runs cx S' o a w:=fun v d e hv hd=>by
  subst e
  refine CX h (v:=v) ?_ (by simp only [AJ];exact hd _) ha
  unfold execOp
  simp only [ho,Sem.run_bind] at hv ⊢
  rw [hv]
  rfl
 unfold Dj at hr
 split at hr
 ·rename_i k1 n1 k2 n2 e1 e2
  rw [e1] at hx
  rw [e2] at hy
  simp only [AJ] at hx hy
  cases hx1:a.eval x with
  | int k n =>
   cases hy1:a.eval y with
   | int k' n' =>
    rw [hx1] at hx;rw [hy1] at hy
    cases hx;cases hy
    rw [hx1,hy1] at fin
    have yu:∀ d,En op k1 n1 n2=some d -> r=.dv d -> Runs cx S' o a w:=fun d hd e=>by
     obtain ⟨v,hv,hrep⟩:=SH cx.P op t x y k1 k2 n1 n2 d hd w
     exact fin v d e hv hrep
    have ints:∀ d,k1=k2 -> DU op k1 n1 n2=some d -> r=.dv d -> Runs cx S' o a w:=fun d hk hd e=>by
     subst hk
     obtain ⟨v,hv,hrep⟩:=X3 cx.P op t x y k1 n1 n2 d hd w
     exact fin v d e hv hrep
    split at hr
    ·obtain ⟨d,hd,e⟩:=Option.map_eq_some_iff.1 hr
     exact yu d hd e.symm
    ·obtain ⟨d,hd,e⟩:=Option.map_eq_some_iff.1 hr
     exact yu d hd e.symm
    ·split at hr
     ·rename_i hk
      obtain ⟨d,hd,e⟩:=Option.map_eq_some_iff.1 hr
      exact ints d hk hd e.symm
     ·cases hr
   | _=>rw [hy1] at hy;cases hy
  | _=>rw [hx1] at hx;cases hx
 ·rename_i b1 b2 e1 e2
  rw [e1] at hx
  rw [e2] at hy
  simp only [AJ] at hx hy
  generalize hx1:a.eval x=vx at *
  generalize hy1:a.eval y=vy at *
  cases hx;cases hy
  split at hr
  ·rename_i hP
   have hb:=VU cx.P t x y b1 b2 hP w
   split at hr
   ·simp only [Option.some.injEq] at hr
    exact fin _ _ hr.symm hb.1 (fun _=>.bool _)
   ·simp only [Option.some.injEq] at hr
    exact fin _ _ hr.symm hb.2 (fun _=>.bool _)
   ·cases hr
  ·cases hr
 ·rename_i s1 s2 e1 e2
  rw [e1] at hx
  rw [e2] at hy
  simp only [AJ] at hx hy
  generalize hx1:a.eval x=vx at *
  generalize hy1:a.eval y=vy at *
  cases hx;cases hy
  obtain ⟨d,hd,e⟩:=Option.map_eq_some_iff.1 hr
  obtain ⟨v,hv,hrep⟩:=WA cx.P op t x y s1 s2 d hd w
  exact fin v d e.symm hv hrep
 ·rename_i e2
  rw [e2] at hy
  simp only [AJ] at hy
  split at hr
  ·rename_i hs
   have hu:∃ e,cx.P.underlying t=some (.slice e):=by
    unfold D5 at hs
    split at hs
    ·exact ⟨_,by assumption⟩
    ·cases hs
   obtain ⟨e,hu⟩:=hu
   split at hr
   ·rename_i b hb
    have hxv:∃ ad n cap,a.eval x=.slice ad n cap /\ ad.isNone=b:=by
     generalize S.ev x=sx at hb hx
     unfold Om at hb
     split at hb
     ·simp only [Option.some.injEq] at hb;subst hb;simp only [AJ] at hx;exact ⟨none,0,0,hx,rfl⟩
     ·simp only [Option.some.injEq] at hb;subst hb;simp only [AJ] at hx;obtain ⟨ad,cap,h1,h2⟩:=hx;exact ⟨ad,0,cap,h1,h2⟩
     ·rename_i l
      split at hb
      ·cases hb
      ·rename_i hl
       simp only [Option.some.injEq] at hb;subst hb
       simp only [AJ] at hx
       generalize a.eval x=vx at hx
       cases hx with
       | Cq ad cap=>simp at hl
       | list _ b off cap C8 u h1 h2 h3 h4 h5 h6=>exact ⟨_,_,_,rfl,rfl⟩
     ·cases hb
    obtain ⟨ad,n,cap,hv,rfl⟩:=hxv
    have:=Wo hu x y ad n cap w
    unfold Ir at hr
    rw [hv,hy] at fin
    split at hr
    ·simp only [Option.some.injEq] at hr;exact fin _ _ hr.symm this.1 fun _=>.bool _
    ·simp only [Option.some.injEq] at hr;exact fin _ _ hr.symm this.2 fun _=>.bool _
    ·cases hr
   ·cases hr
  ·cases hr
 ·rename_i e2
  rw [e2] at hy
  simp only [AJ] at hy
  have hyv:a.eval y=.pointer none:=by
   generalize a.eval y=vy at hy
   cases hy
   rfl
  split at hr
  ·rename_i hs
   have hu:∃ e,cx.P.underlying t=some (.pointer e):=by
    unfold Lm at hs
    split at hs
    ·exact ⟨_,by assumption⟩
    ·cases hs
   obtain ⟨e,hu⟩:=hu
   split at hr
   ·rename_i b hb
    have hxv:∃ ad,a.eval x=.pointer ad /\ ad.isNone=b:=by
     generalize S.ev x=sx at hb hx
     unfold WT at hb
     split at hb
     ·simp only [Option.some.injEq] at hb;subst hb;simp only [AJ] at hx
      generalize a.eval x=vx at hx
      cases hx
      exact ⟨none,rfl,rfl⟩
     ·simp only [Option.some.injEq] at hb;subst hb;simp only [AJ] at hx
      generalize a.eval x=vx at hx
      cases hx with
      | Cy _ b off u h1 h2 h3 h4=>exact ⟨_,rfl,rfl⟩
     ·cases hb
    obtain ⟨ad,hv,rfl⟩:=hxv
    have:=Oi hu x y ad w
    unfold Ir at hr
    rw [hv,hyv] at fin
    split at hr
    ·simp only [Option.some.injEq] at hr;exact fin _ _ hr.symm this.1 fun _=>.bool _
    ·simp only [Option.some.injEq] at hr;exact fin _ _ hr.symm this.2 fun _=>.bool _
    ·cases hr
   ·cases hr
  ·cases hr
 ·cases hr
def nY (op:UnOp):SV -> Option SV
 | .dv (.int k n)=>match op with
  | .neg=>some (.dv (.int k (k.wrap (0 - n))))
  | .xor=>some (.dv (.int k (k.wrap (BitVec.ofInt k.bits (if k.signed then -1 else k.max) ^^^ BitVec.ofInt k.bits n).toNat)))
  | _=>none
 | .dv (.bool b)=>match op with | .not=>some (.dv (.bool !b)) | _=>none
 | _=>none
theorem nX {cx:Cx} {S S':St} {a:Act} {w:World} {μ:Nat -> Option (Nat × Nat)} (h:BJ cx S a w μ) {o:Oper} {op:UnOp} {t:TypeId} {x:Operand} (ho:o.op=.unOp op t x) {r:SV}
  (hr:nY op (S.ev x)=some r) (ha:S.apply cx.n o.dst (.val r)=some S'):Runs cx S' o a w:=by
 have hx:=h.ev x
 have fin:∀ (v:Value) (d:DV),r=.dv d -> (Op.unary op (a.eval x)).run cx.P w=.ok v w -> (∀ X,Bn w X d v) -> Runs cx S' o a w:=fun v d e hv hd=>by
  subst e
  refine CX h (v:=v) ?_ (by simp only [AJ];exact hd _) ha
  unfold execOp
  simp only [ho,Sem.run_bind,hv]
  rfl
 unfold nY at hr
 split at hr
 ·rename_i k n e1
  rw [e1] at hx
  simp only [AJ] at hx
  generalize hx1:a.eval x=vx at *
  cases hx
  split at hr<;>first | (cases hr;done) | skip
  ·simp only [Option.some.injEq] at hr
   exact fin _ _ hr.symm rfl (fun _=>.int _ _)
  ·simp only [Option.some.injEq] at hr
   exact fin _ _ hr.symm rfl (fun _=>.int _ _)
 ·rename_i b e1
  rw [e1] at hx
  simp only [AJ] at hx
  generalize hx1:a.eval x=vx at *
  cases hx
  split at hr<;>first | (cases hr;done) | skip
  simp only [Option.some.injEq] at hr
  exact fin _ _ hr.symm rfl (fun _=>.bool _)
 ·cases hr
end Go.Ab
namespace Go.Ab
open Go.RowKit
section
variable {cx:Cx} {S S':St} {a:Act} {w:World} {μ:Nat -> Option (Nat × Nat)} {o:Oper}
theorem TV (h:BJ cx S a w μ) {x:Operand} (ho:o.op=.move x \/ o.op=.assign x) (ha:S.apply cx.n o.dst (.val (S.ev x))=some S'):Runs cx S' o a w:=by
 refine CX h (v:=a.eval x) ?_ (h.ev x) ha
 unfold execOp
 rcases ho with ho | ho<;>simp only [ho]<;>rfl
theorem dZ (h:BJ cx S a w μ) {c x y:Operand} (ho:o.op=.pick c x y) {b:Bool} (hb:S.ev c=.dv (.bool b)) (ha:S.apply cx.n o.dst (.val (O8 b (S.ev x) (S.ev y)))=some S'):Runs cx S' o a w:=by
 have hc:=h.ev c
 rw [hb] at hc
 simp only [AJ] at hc
 generalize hv:a.eval c=vc at *
 cases hc
 have hrun:(execOp a.eval o).run cx.P w=.ok (.value (if b then a.eval x else a.eval y)) w:=by
  unfold execOp
  simp only [ho,hv]
  cases b<;>rfl
 refine CX h hrun ?_ ha
 have hx:=h.ev x
 have hy:=h.ev y
 have gen:AJ w S.M μ (XX cx S.M μ) (bif b then S.ev x else S.ev y) (if b then a.eval x else a.eval y):=by cases b<;>simpa
 unfold O8
 split
 ·rename_i p q e1 e2
  rw [e1,e2] at gen
  cases b<;>simpa only [cond_true,cond_false] using gen
 ·exact gen
def JL (s:SV) (i:Nat):Option SV :=
 match s with
 | .Em cs=>cs[i]?
 | _=>none
theorem VG (h:BJ cx S a w μ) {x:Operand} {i:Nat} (ho:o.op=.extract x i) {r:SV} (hr:JL (S.ev x) i=some r) (ha:S.apply cx.n o.dst (.val r)=some S'):Runs cx S' o a w:=by
 have hx:=h.ev x
 unfold JL at hr
 split at hr
 ·rename_i cs e
  rw [e] at hx
  simp only [AJ] at hx
  obtain ⟨vs,hv,hvs⟩:=hx
  have hi:i < vs.length:=by have:=hvs.length;have:=(List.getElem?_eq_some_iff.1 hr).1;omega
  refine CX h (v:=vs[i]) ?_ (hvs.get i r _ hr (by simp [hi])) ha
  unfold execOp
  simp only [ho,hv,Instr.extract]
  simp [hi]
 ·cases hr
def NR (P:Program) (s:TypeId) (f:Nat):SV × Option Au -> Option SV
 | (.dv (.Cy cs),_)=>match Bp P s f with | some off=>some (.dv (.Cy (cs.drop off))) | none=>none
 | (.pt t g o,some _)=>match Bp P s f with | some off=>some (.pt t g (o+off)) | none=>none
 | _=>none
theorem Tp {P:Program} {s:TypeId} {f off:Nat} (h:Bp P s f=some off) (b k:Nat) (w:World) :
  (Instr.fieldAt s (.pointer (some ⟨b,k,none⟩)) f).run P w=.ok (.pointer (some ⟨b,k+off,none⟩)) w:=by
 unfold Bp at h
 split at h
 ·rename_i fs hu
  split at h
  ·rename_i fl hf
   split at h
   ·rename_i m hs
    simp only [Option.some.injEq] at h
    subst h
    unfold Ec at hs
    obtain ⟨i,hi,hi2⟩:=Option.map_eq_some_iff.1 hs
    simp [Instr.fieldAt,run_underlying hu,hf,Instr.sureAddr,fieldPlace,sizeOf,typeInfo,hi,hi2,Addr.add_lit]
   ·cases h
  ·cases h
 ·cases h
theorem ZI (h:BJ cx S a w μ) {s:TypeId} {x:Operand} {f:Nat} (ho:o.op=.fieldAddr s x f) {r:SV} (hr:NR cx.P s f (S.look x)=some r) (ha:S.apply cx.n o.dst (.val r)=some S'):Runs cx S' o a w:=by
 have hx:=h.ev x
 unfold NR St.look at hr
 split at hr
 ·rename_i cs q e
  simp only [Prod.mk.injEq] at e
  obtain ⟨e,_⟩:=e
  split at hr
  ·rename_i off hoff
   simp only [Option.some.injEq] at hr
   subst hr
   rw [e] at hx
   simp only [AJ] at hx
   generalize hv:a.eval x=vx at *
   cases hx with
   | Cy _ b k u h1 h2 h3 h4 =>
    refine CX h (v:=.pointer (some ⟨b,k+off,none⟩)) ?_ ?_ ha
    ·unfold execOp
     simp only [ho,hv,Sem.run_bind,Tp hoff,Result.andThen_ok]
     rfl
    ·simp only [AJ]
     refine .Cy _ b (k+off) (fun j=>u (off+j)) h1 h2 (fun j c hj=>?_) (fun j c hj=>?_)
     ·rw [List.getElem?_drop] at hj
      have:=h3 _ c hj
      rwa [<- Nat.add_assoc] at this
     ·rw [List.getElem?_drop] at hj
      exact h4 _ c hj
  ·cases hr
 ·rename_i t g k blk e
  simp only [Prod.mk.injEq] at e
  obtain ⟨e,eb⟩:=e
  split at hr
  ·rename_i off hoff
   simp only [Option.some.injEq] at hr
   subst hr
   rw [e] at hx eb
   have hM:=JN eb
   simp only [AJ] at hx
   obtain ⟨b,cap,hm,hv⟩:=hx.2 blk hM
   refine CX h (v:=.pointer (some ⟨b,k+off,none⟩)) ?_ ?_ ha
   ·unfold execOp
    simp only [ho,hv,Sem.run_bind,Tp hoff,Result.andThen_ok]
    rfl
   ·simp only [AJ]
    refine ⟨⟨rfl,hx.1.2⟩,fun Aj e'=>⟨b,cap,hm,rfl⟩⟩
  ·cases hr
 ·cases hr
def y7 (P:Program) (t:TypeId):Option (Nat × TypeId):=match P.underlying t with | some (.array n e)=>some (n,e) | _=>none
def X5 (a:Option (Nat × TypeId)) (sz:TypeId -> Option Nat) (x:SV × Option Au) (i:SV):Option SV :=
 match a,i,x with
 | some (n,e),.dv (.int _ z),(.pt t' g o,some _)=>if 0 <= z /\ z.toNat < n /\ sz e=some 1 then some (.pt t' g (o+z.toNat)) else none
 | _,_,_=>none
theorem SQ {P:Program} {t elem:TypeId} {len:Nat} (ht:y7 P t=some (len,elem)) (hs:Ec P elem=some 1) (b o:Nat) (k:IntKind) (z:Int) (h0:0 <= z) (hi:z.toNat < len) (w:World) :
  (Instr.indexAt t (.pointer (some ⟨b,o,none⟩)) (.int k z)).run P w=.ok (.pointer (some ⟨b,o+z.toNat,none⟩)) w:=by
 have hu:P.underlying t=some (.array len elem):=by
  unfold y7 at ht
  split at ht
  ·rename_i n e hu
   simp only [Option.some.injEq,Prod.mk.injEq] at ht
   obtain ⟨rfl,rfl⟩:=ht
   exact hu
  ·cases ht
 unfold Ec at hs
 obtain ⟨inf,h1,h2⟩:=Option.map_eq_some_iff.1 hs
 have hi':z < (len:Int):=by omega
 have h0':¬ z < 0:=by omega
 simp [Instr.indexAt,asIntOf,Instr.sureAddr,run_underlying hu,h0,hi',sizeOf,typeInfo,h1,h2,Addr.add_lit]
def NK (P:Program) (t:TypeId) (x:SV × Option Au) (i:SV):Option SV :=
 match Cr P t with
 | none=>X5 (y7 P t) (Ec P) x i
 | some e =>
  match i with
  | .dv (.int _ n) =>
   match x with
   | (.dv (.list l),_)=>if h:0 <= n /\ n.toNat < l.length then (if Ec P e=some (l[n.toNat]'h.2).cells.length then some (.dv (.Cy (l[n.toNat]'h.2).cells)) else none) else none
   | (.sl t g o m,some blk)=>if 0 <= n /\ n.toNat < m /\ Ec P e=some blk.C8 then some (.pt t g ((o+n.toNat) * blk.C8)) else none
   | _=>none
  | _=>none
theorem flat_get:∀ (l:List DV) (e:Nat) (_:∀ d ∈ l,d.cells.length=e) (i:Nat) (hi:i < l.length) (j:Nat) (_:j < e),(flat l)[i * e+j]?=(l[i].cells)[j]?
 | [],_,_,i,hi,_,_=>by simp at hi
 | d :: l,e,he,0,_,j,hj=>by
  have:=he d (by simp)
  simp only [flat,List.flatMap_cons,Nat.zero_mul,Nat.zero_add,List.getElem_cons_zero]
  rw [List.getElem?_append_left (by omega)]
 | d :: l,e,he,i+1,hi,j,hj=>by
  have h1:=he d (by simp)
  have ih:=flat_get l e (fun d' hd=>he d' (by simp [hd])) i (by simpa using hi) j hj
  simp only [flat,List.flatMap_cons,List.getElem_cons_succ] at ih ⊢
  rw [List.getElem?_append_right (by rw [h1,Nat.add_mul];omega),<- ih,h1]
  congr 1
  rw [Nat.add_mul]
  omega
theorem ER {P:Program} {t e:TypeId} (h:Cr P t=some e):P.underlying t=some (.slice e):=by
 unfold Cr at h
 split at h
 ·simp only [Option.some.injEq] at h;subst h;assumption
 ·cases h
theorem OJ {P:Program} {t e:TypeId} {sz:Nat} (he:Cr P t=some e) (hs:Ec P e=some sz) (ad:Addr) (len cap:Nat) (k:IntKind) (n:Int) (h0:0 <= n) (h1:n.toNat < len) (w:World) :
  (Instr.indexAt t (.slice (some ad) len cap) (.int k n)).run P w=.ok (.pointer (some (ad.add (n.toNat * sz)))) w:=by
 have hu:=ER he
 unfold Ec at hs
 obtain ⟨i,hi,hi2⟩:=Option.map_eq_some_iff.1 hs
 have hlt:n < len:=by omega
 simp [Instr.indexAt,asIntOf,run_underlying hu,h0,hlt,sizeOf,typeInfo,hi,hi2]
theorem Z9 (h:BJ cx S a w μ) {t:TypeId} {x y:Operand} (ho:o.op=.indexAddr t x y) {r:SV} (hr:NK cx.P t (S.look x) (S.ev y)=some r) (ha:S.apply cx.n o.dst (.val r)=some S'):Runs cx S' o a w:=by
 have hx:=h.ev x
 have hy:=h.ev y
 unfold NK at hr
 split at hr
 ·unfold X5 at hr
  split at hr
  ·rename_i len e k z t' g q0 blk ea ey ex
   unfold St.look at ex
   simp only [Prod.mk.injEq] at ex
   obtain ⟨ex,eb⟩:=ex
   split at hr
   ·rename_i hn
    simp only [Option.some.injEq] at hr
    subst hr
    rw [ex] at hx eb
    rw [ey] at hy
    simp only [AJ] at hy
    generalize yL:a.eval y=vy at *
    cases hy
    have hM:=JN eb
    simp only [AJ] at hx
    obtain ⟨b,cap,hm,hv⟩:=hx.2 _ hM
    refine CX h (v:=.pointer (some ⟨b,q0+z.toNat,none⟩)) ?_ ?_ ha
    ·unfold execOp
     simp only [ho,hv,yL,Sem.run_bind,SQ ea hn.2.2 b q0 k z hn.1 hn.2.1,Result.andThen_ok]
     rfl
    ·simp only [AJ]
     exact ⟨⟨rfl,hx.1.2⟩,fun Aj e'=>⟨b,cap,hm,rfl⟩⟩
   ·cases hr
  ·cases hr
 ·rename_i e he
  split at hr
  ·rename_i k n ey
   rw [ey] at hy
   simp only [AJ] at hy
   generalize yL:a.eval y=vy at *
   cases hy
   unfold St.look at hr
   split at hr
   ·rename_i l q ex
    simp only [Prod.mk.injEq] at ex
    obtain ⟨ex,_⟩:=ex
    split at hr
    ·rename_i hn
     split at hr
     ·rename_i hsz
      simp only [Option.some.injEq] at hr
      subst hr
      rw [ex] at hx
      simp only [AJ] at hx
      generalize hvx:a.eval x=vx at *
      cases hx with
      | Cq=>simp at hn
      | list _ b off cap C8 u h1 h2 hcap h3 h4 h5 =>
       have yP:(l[n.toNat]'hn.2).cells.length=C8:=h3 _ (List.getElem_mem hn.2)
       refine CX h (v:=.pointer (some ⟨b,off+n.toNat * C8,none⟩)) ?_ ?_ ha
       ·unfold execOp
        simp only [ho,hvx,yL,Sem.run_bind,OJ he hsz ⟨b,off,none⟩ l.length cap k n hn.1 hn.2,Result.andThen_ok,Addr.add_lit,yP]
        rfl
       ·simp only [AJ]
        refine .Cy _ b (off+n.toNat * C8) (fun j=>u (n.toNat * C8+j)) h1 h2 (fun j c hj=>?_) (fun j c hj=>?_)
        ·have hjl:=(List.getElem?_eq_some_iff.1 hj).1
         rw [<- flat_get l C8 h3 n.toNat hn.2 j (by omega)] at hj
         have:=h4 _ c hj
         rwa [<- Nat.add_assoc] at this
        ·have hjl:=(List.getElem?_eq_some_iff.1 hj).1
         rw [<- flat_get l C8 h3 n.toNat hn.2 j (by omega)] at hj
         exact h5 _ c hj
     ·cases hr
    ·cases hr
   ·rename_i t' g k' m blk ex
    simp only [Prod.mk.injEq] at ex
    obtain ⟨ex,eb⟩:=ex
    split at hr
    ·rename_i hn
     simp only [Option.some.injEq] at hr
     subst hr
     rw [ex] at hx eb
     have hM:=IC eb
     simp only [AJ] at hx
     have hx2:=hx.2 blk hM
     cases hm:μ t' with
     | none=>rw [hm] at hx2;simp only at hx2;obtain ⟨_,rfl,_⟩:=hx2;omega
     | some p =>
      obtain ⟨b,cap⟩:=p
      rw [hm] at hx2
      simp only at hx2
      obtain ⟨hv,hcap⟩:=hx2
      refine CX h (v:=.pointer (some ⟨b,(k'+n.toNat) * blk.C8,none⟩)) ?_ ?_ ha
      ·unfold execOp
       simp only [ho,hv,yL,Sem.run_bind,OJ he hn.2.2 _ m _ k n hn.1 hn.2.1,Result.andThen_ok,Addr.add_lit,Nat.add_mul]
       rfl
      ·simp only [AJ]
       exact ⟨⟨rfl,hx.1.2⟩,fun Aj e'=>⟨b,cap,hm,rfl⟩⟩
    ·cases hr
   ·cases hr
  ·cases hr
def Dr (P:Program) (t:TypeId):SV × Option Au -> Option SV
 | (.dv (.Cy cs),_)=>match Ec P t,FB P t with
  | some sz,some true=>if sz <= cs.length then some (.dv (.agg (cs.take sz))) else none
  | some _,some false=>(cs[0]?).map .dv
  | _,_=>none
 | (.pt _ _ o,some blk)=>match Ec P t,FB P t with
  | some sz,some true=>if o+sz <= blk.cells.length then some (LQ ((blk.cells.drop o).take sz)) else none
  | some _,some false=>blk.cells[o]?
  | _,_=>none
 | _=>none
theorem Ru {P:Program} {t:TypeId} {b:Bool} (h:FB P t=some b) (w:World):(isAgg t).run P w=.ok b w:=by
 unfold FB at h
 obtain ⟨d,hd,rfl⟩:=Option.map_eq_some_iff.1 h
 unfold isAgg
 simp only [Sem.run_bind,run_underlying hd,Result.andThen_ok]
 cases d<;>rfl
theorem KL {P:Program} {t:TypeId} {sz:Nat} (hs:Ec P t=some sz) (hg:FB P t=some true) (b k:Nat) (w:World) (vs:List Value) (hl:vs.length=sz)
  (hc:∀ (j:Nat) v,vs[j]?=some v -> w.cell? ⟨b,k+j,none⟩=some v):(Instr.loadAt t (.pointer (some ⟨b,k,none⟩))).run P w=.ok (.agg vs.toArray) w:=by
 unfold Ec at hs
 obtain ⟨i,hi,hi2⟩:=Option.map_eq_some_iff.1 hs
 have hload:=run_loadCells_list (P:=P) w ⟨b,k,none⟩ vs (fun j v hj=>by rw [Addr.add_lit];exact hc j v hj)
 rw [hl] at hload
 simp [Instr.loadAt,Instr.sureAddr,loadVar,Ru hg,sizeOf,typeInfo,hi,hi2,hload]
theorem Iw {P:Program} {t:TypeId} (hg:FB P t=some false) (b k:Nat) (w:World) (v:Value) (hc:w.cell? ⟨b,k,none⟩=some v) :
  (Instr.loadAt t (.pointer (some ⟨b,k,none⟩))).run P w=.ok v w:=by
 simp [Instr.loadAt,Instr.sureAddr,loadVar,Ru hg,hc]
theorem Nh {w:World} {b j:Nat} {cur:Array Value} {e:TypeId} {fr:Nat × Nat} (h:w.heap[b]?=some (.cells cur e fr)):w.cell? ⟨b,j,none⟩=cur[j]?:=by simp [World.cell?,h]
theorem Wx (h:BJ cx S a w μ) {t:TypeId} {x:Operand} {r:SV} (hr:Dr cx.P t (S.look x)=some r):∃ v,(Instr.loadAt t (a.eval x)).run cx.P w=.ok v w /\ AJ w S.M μ (XX cx S.M μ) r v:=by
 have hx:=h.ev x
 have fin:∀ v:Value,(Instr.loadAt t (a.eval x)).run cx.P w=.ok v w -> AJ w S.M μ (XX cx S.M μ) r v -> ∃ v,(Instr.loadAt t (a.eval x)).run cx.P w=.ok v w /\ AJ w S.M μ (XX cx S.M μ) r v:=fun v h1 h2=>⟨v,h1,h2⟩
 unfold Dr St.look at hr
 split at hr
 ·rename_i cs q e
  simp only [Prod.mk.injEq] at e
  obtain ⟨e,_⟩:=e
  rw [e] at hx
  simp only [AJ] at hx
  generalize hv:a.eval x=vx at *
  cases hx with
  | Cy _ b k u h1 h2 h3 h4 =>
   split at hr
   ·rename_i sz hs hg
    split at hr
    ·rename_i hle
     simp only [Option.some.injEq] at hr
     subst hr
     refine fin (.agg ((List.range sz).map u).toArray) (KL hs hg b k w _ (by simp) ?_) ?_
     ·intro j v hj
      simp only [List.getElem?_map,Option.map_eq_some_iff] at hj
      obtain ⟨j',hj',rfl⟩:=hj
      have hlt:j < sz:=by
       have:=(List.getElem?_eq_some_iff.1 hj').1
       simpa using this
      rw [List.getElem?_range hlt] at hj'
      simp only [Option.some.injEq] at hj'
      subst hj'
      exact h3 j cs[j] (by simp)
     ·simp only [AJ]
      refine .agg _ _ (by simp;omega) fun j c hj=>?_
      have hj2:=hj
      rw [List.getElem?_take] at hj2
      split at hj2
      ·rename_i hlt
       have:((List.range sz).map u).toArray.getD j undef=u j:=by simp [hlt]
       rw [this]
       exact h4 j c hj2
      ·cases hj2
    ·cases hr
   ·rename_i sz hs hg
    obtain ⟨c,hc,rfl⟩:=Option.map_eq_some_iff.1 hr
    refine fin (u 0) (Iw hg b k w _ (by simpa using h3 0 c hc)) ?_
    simp only [AJ]
    exact h4 0 c hc
   ·cases hr
 ·rename_i t' g k blk e
  simp only [Prod.mk.injEq] at e
  obtain ⟨e,eb⟩:=e
  rw [e] at hx eb
  have hM:=JN eb
  simp only [AJ] at hx
  obtain ⟨b,cap,hm,hv⟩:=hx.2 blk hM
  have hb:=h.blk t' g blk hM
  unfold Bt at hb
  rw [hm] at hb
  simp only at hb
  obtain ⟨cur,q1,q2,q3,_,_⟩:=hb
  split at hr
  ·rename_i sz hs hg
   split at hr
   ·rename_i hle
    simp only [Option.some.injEq] at hr
    subst hr
    have hcl:∀ (j:Nat) v,((cur.toList.drop k).take sz)[j]?=some v -> w.cell? ⟨b,k+j,none⟩=some v:=by
     intro j v hj
     rw [List.getElem?_take] at hj
     split at hj
     ·rw [List.getElem?_drop] at hj
      rw [Nh q1]
      simpa using hj
     ·cases hj
    refine fin (.agg ((cur.toList.drop k).take sz).toArray) (by rw [hv];exact KL hs hg b k w _ (by simp;omega) hcl) ?_
    ·refine UG (Ac.mk (by simp;omega) fun j c u hc hu=>?_)
     rw [List.getElem?_take] at hc hu
     split at hc
     ·rename_i hlt
      rw [if_pos hlt] at hu
      rw [List.getElem?_drop] at hc hu
      exact q3 _ c u hc (by simpa using hu)
     ·cases hc
   ·cases hr
  ·rename_i sz hs hg
   have hlt:=(List.getElem?_eq_some_iff.1 hr).1
   have hcur:cur[k]?=some (cur[k]'(by omega)):=by simp
   refine fin (cur[k]'(by omega)) (by rw [hv];exact Iw hg b k w _ (by rw [Nh q1];exact hcur)) ?_
   exact q3 k r _ hr hcur
  ·cases hr
 ·cases hr
theorem eU (h:BJ cx S a w μ) {t:TypeId} {x:Operand} (ho:o.op=.load t x) {r:SV} (hr:Dr cx.P t (S.look x)=some r) (ha:S.apply cx.n o.dst (.val r)=some S'):Runs cx S' o a w:=by
 obtain ⟨v,h1,h2⟩:=Wx h hr
 refine CX h (v:=v) ?_ h2 ha
 unfold execOp
 simp only [ho,Sem.run_bind,h1,Result.andThen_ok]
 rfl
end
end Go.Ab
namespace Go.Ab
open Go.RowKit
section
variable {cx:Cx} {S S':St} {a:Act} {w:World} {μ:Nat -> Option (Nat × Nat)} {o:Oper}
theorem Ui (h:BJ cx S a w μ) {blk:Au} {k:Nat} {cur:Array Value} {cap:Nat} {v:Value} (ha:S.apply cx.n o.dst (.mk blk k)=some S')
  (hcells:blk.cells.length <= cur.size) (hc:∀ (j:Nat) c u,blk.cells[j]?=some c -> cur[j]?=some u -> AJ w S.M μ (XX cx S.M μ) c u)
  (hrow:blk.row=true -> cur.size=cap * blk.C8 /\ cap <= maxLen /\ k <= cap /\ v=.slice (some ⟨w.heap.size,0,none⟩) k cap)
  (qI:blk.row=false -> blk.cells.length=cur.size /\ v=.pointer (some ⟨w.heap.size,0,none⟩))
  (hrun:(execOp a.eval o).run cx.P w=.ok (.value v) (w.alloc (.cells cur blk.elem))) (wB:blk.st < 3:=by (first | decide | simp)):Runs cx S' o a w:=by
 cases hd:o.dst with
 | none=>rw [hd] at ha;simp [St.apply] at ha
 | some d =>
  rw [hd] at ha
  simp only [St.apply] at ha
  split at ha
  ·rename_i hdn
   simp only [Option.some.injEq] at ha
   subst ha
   refine ⟨v,_,upd μ d (some (w.heap.size,cap)),.inl hrun,?_⟩
   rw [hd]
   have h1:=h.create d blk cur cap wB hcells hc (fun hr=>⟨(hrow hr).1,(hrow hr).2.1⟩) (fun hr=>(qI hr).1)
   refine h1.set (S:=⟨S.F,upd S.M d ((S.M d).1+1,some blk)⟩) hdn ?_
   cases hrw:blk.row with
   | true =>
    obtain ⟨_,_,hk,rfl⟩:=hrow hrw
    simp only [if_true,AJ]
    refine ⟨⟨rfl,by rw [upd_same];exact Nat.le_refl _⟩,fun Aj e=>?_⟩
    rw [upd_same] at e
    simp only [Prod.mk.injEq,Option.some.injEq,true_and] at e
    subst e
    rw [upd_same]
    simp [hk]
   | false =>
    obtain ⟨_,rfl⟩:=qI hrw
    simp only [Bool.false_eq_true,if_false,AJ]
    refine ⟨⟨rfl,by rw [upd_same];exact Nat.le_refl _⟩,fun Aj e=>⟨w.heap.size,cap,by rw [upd_same],rfl⟩⟩
  ·cases ha
theorem WI (h:BJ cx S a w μ) {T:TypeId} {cs:List SV} {vs:List Value} (hvs:Ac w S.M μ (XX cx S.M μ) cs vs)
  (hrun:(execOp a.eval o).run cx.P w=.ok (.value (.pointer (some ⟨w.heap.size,0,none⟩))) (w.alloc (.cells vs.toArray T)))
  (ha:S.apply cx.n o.dst (.mk ⟨cs,0,T,0,false⟩ 0)=some S'):Runs cx S' o a w :=
 Ui h (cap:=0) ha (by simp [hvs.length]) (fun j c u hc hu=>hvs.get j c u hc (by simpa using hu)) (fun hr=>by simp at hr) (fun _=>⟨by simp [hvs.length],rfl⟩) hrun
theorem mG (h:BJ cx S a w μ) {T:TypeId} {x:Operand} (ho:o.op=.box T x) {cs:List SV} (hc:Cb (S.ev x)=some cs)
  (ha:S.apply cx.n o.dst (.mk ⟨cs,0,T,0,false⟩ 0)=some S'):Runs cx S' o a w:=by
 refine WI h (KU hc (h.ev x)) ?_ ha
 unfold execOp
 simp only [ho,Instr.box,newVar,newRow,Sem.run_bind,run_newObj,Result.andThen_ok,Sem.run_pure,Array.toArray_toList]
 rfl
theorem gq {P:Program} {T:TypeId} {cs:List SV} (h:Co P T=some cs) (w:World):∃ z,(zeroValue T).run P w=.ok z w /\ z.cells.toList.map Ag=cs:=by
 unfold Co at h
 split at h
 ·rename_i i hi
  obtain ⟨z,hz,rfl⟩:=Option.map_eq_some_iff.1 h
  exact ⟨z,by simp [zeroValue,typeInfo,hi,hz],rfl⟩
 ·cases h
theorem Zh (h:BJ cx S a w μ) {T:TypeId} (ho:o.op=.alloc T) {cs:List SV} (hc:Co cx.P T=some cs)
  (ha:S.apply cx.n o.dst (.mk ⟨cs,0,T,0,false⟩ 0)=some S'):Runs cx S' o a w:=by
 obtain ⟨z,hz,rfl⟩:=gq hc w
 refine WI h (vs:=z.cells.toList) (Hf _) ?_ ha
 unfold execOp
 simp only [ho,Instr.alloc,newVar,newRow,Sem.run_bind,hz,run_newObj,Result.andThen_ok,Sem.run_pure,Array.toArray_toList]
 rfl
def EP (place:Nat -> Option (Nat × Nat)) (cells:List SV):List (Nat × SV) -> Option (List SV)
 | []=>some cells
 | (i,s) :: rest =>
  match place i,Cb s with
  | some (off,size),some cs=>if cs.length=size /\ off+cs.length <= cells.length then EP place (putCells cells off cs) rest else none
  | _,_=>none
theorem nN (off:Nat) (vs:List Value):∀ (k:Nat) (cells:Array Value),off+k+vs.length <= cells.size →
  ((vs.zipIdx k).foldl (fun cs (c,j)=>cs.setIfInBounds (off+j) c) cells).toList=putCells cells.toList (off+k) vs:=by
 induction vs with
 | nil=>intro k cells _;simp [putCells]
 | cons v vs ih =>
  intro k cells hk
  simp only [List.zipIdx_cons,List.foldl_cons]
  rw [ih (k+1) _ (by simp only [List.length_cons] at hk;simp;omega)]
  apply List.ext_getElem?
  intro j
  have hk':=hk
  simp only [List.length_cons] at hk'
  rw [Ew _ _ _ _ (by simp only [Array.length_toList,Array.size_setIfInBounds];omega),Ew _ _ _ _ (by simp only [Array.length_toList,List.length_cons];omega)]
  simp only [Array.toList_setIfInBounds]
  by_cases h1:j < off+k
  ·rw [if_pos (by omega),if_pos h1,List.getElem?_set_ne (by omega)]
  ·by_cases h2:j=off+k
   ·subst h2
    rw [if_pos (by omega),List.getElem?_set_self (by simp only [Array.length_toList];omega),if_neg (by omega),if_pos (by simp only [List.length_cons];omega)]
    simp
   ·rw [if_neg (by omega),if_neg h1]
    by_cases h3:j < off+(k+1)+vs.length
    ·rw [if_pos h3,if_pos (by simp only [List.length_cons];omega)]
     rw [show j - (off+k)=(j - (off+(k+1)))+1 by omega,List.getElem?_cons_succ]
    ·rw [if_neg h3,if_neg (by simp only [List.length_cons];omega),List.getElem?_set_ne (by omega)]
theorem RH {place:Nat -> Option (Nat × Nat)}:∀ (ps:List (Nat × SV)) (vs:List (Nat × Value)) (cells:List SV) (cv:Array Value) (out:List SV),ps.length=vs.length →
  (∀ (j:Nat) (p:Nat × SV) (q:Nat × Value),ps[j]?=some p -> vs[j]?=some q -> p.1=q.1 /\ AJ w S.M μ (XX cx S.M μ) p.2 q.2) →
  Ac w S.M μ (XX cx S.M μ) cells cv.toList -> EP place cells ps=some out →
  ∃ ov,Instr.fill place cv vs=some ov /\ Ac w S.M μ (XX cx S.M μ) out ov.toList
 | [],[],cells,cv,out,_,_,hcv,h=>by
  simp only [EP,Option.some.injEq] at h
  subst h
  exact ⟨cv,rfl,hcv⟩
 | [],_ :: _,_,_,_,hl,_,_,_=>by simp at hl
 | _ :: _,[],_,_,_,hl,_,_,_=>by simp at hl
 | (i,s) :: ps,(i',v) :: vs,cells,cv,out,hl,hp,hcv,h=>by
  obtain ⟨e1,hs⟩:=hp 0 (i,s) (i',v) rfl rfl
  simp only at e1
  subst e1
  simp only [EP] at h
  split at h
  ·rename_i off size cs e2 e3
   split at h
   ·rename_i hle
    have hcs:=KU e3 hs
    have hsz:v.cells.size=cs.length:=by have:=hcs.length;simpa using this
    have hcl:cv.size=cells.length:=by have:=hcv.length;simpa using this
    have hz:=nN off v.cells.toList 0 cv (by simp;omega)
    simp only [Nat.add_zero] at hz
    have hzz:(v.cells.zipIdx.foldl (fun cs (c,j)=>cs.setIfInBounds (off+j) c) cv).toList=putCells cv.toList off v.cells.toList:=by
     rw [<- hz,<- Array.foldl_toList,Array.toList_zipIdx]
    obtain ⟨ov,h1,h2⟩:=RH ps vs (putCells cells off cs) (v.cells.zipIdx.foldl (fun cs (c,j)=>cs.setIfInBounds (off+j) c) cv) out (by simpa using hl)
     (fun j p q hp' hq'=>hp (j+1) p q (by simpa using hp') (by simpa using hq')) (by
      rw [hzz]
      refine Ac.mk ?_ fun j c u hc hu=>?_
      ·rw [DN _ _ _ (by simp;omega),DN _ _ _ hle.2]
       simpa using hcl
      ·rw [Ew _ _ _ _ hle.2] at hc
       rw [Ew _ _ _ _ (by simp;omega)] at hu
       have el:v.cells.toList.length=cs.length:=by simpa using hsz
       rw [el] at hu
       split at hc
       ·rename_i hj;rw [if_pos hj] at hu;exact hcv.get j c u hc hu
       ·rename_i hj
        rw [if_neg hj] at hu
        split at hc
        ·rename_i hj2;rw [if_pos hj2] at hu;exact hcs.get _ c u hc hu
        ·rename_i hj2;rw [if_neg hj2] at hu;exact hcv.get j c u hc hu) h
    refine ⟨ov,?_,h2⟩
    simp only [Instr.fill,e2]
    rw [if_neg (by simp;omega)]
    exact h1
   ·cases h
  ·cases h
def Ey (P:Program) (t:TypeId):Option (List (Nat × Nat)) :=
 match P.underlying t with
 | some (.struct fs)=>fs.toList.mapM fun f=>(P.info? f.type).map fun i=>(f.offset,i.size)
 | _=>none
def Pq (P:Program) (t:TypeId) (parts:List (Nat × SV)):Option SV :=
 match Ey P t,Co P t with
 | some places,some zero=>(EP (fun i=>places[i]?) zero parts).map LQ
 | _,_=>none
theorem Za (h:BJ cx S a w μ) {t:TypeId} {parts:Array (Nat × Operand)} (ho:o.op=.build t parts) {r:SV} (hr:Pq cx.P t (parts.toList.map fun p=>(p.1,S.ev p.2))=some r)
  (ha:S.apply cx.n o.dst (.val r)=some S'):Runs cx S' o a w:=by
 unfold Pq at hr
 split at hr
 ·rename_i places zero hp hz
  obtain ⟨cs,hf,rfl⟩:=Option.map_eq_some_iff.1 hr
  unfold Ey at hp
  split at hp
  ·rename_i fs hu
   unfold Co at hz
   split at hz
   ·rename_i i hi
    obtain ⟨z,hz',rfl⟩:=Option.map_eq_some_iff.1 hz
    obtain ⟨ov,h1,h2⟩:=RH (w:=w) (cx:=cx) (S:=S) (μ:=μ) (parts.toList.map fun p=>(p.1,S.ev p.2)) (parts.toList.map fun p=>(p.1,a.eval p.2)) _ z.cells cs (by simp)
     (fun j p q hp' hq'=>by
      simp only [List.getElem?_map,Option.map_eq_some_iff] at hp' hq'
      obtain ⟨p0,e0,rfl⟩:=hp'
      obtain ⟨q0,e1,rfl⟩:=hq'
      rw [e0] at e1
      simp only [Option.some.injEq] at e1
      subst e1
      exact ⟨rfl,h.ev _⟩) (Hf _) hf
    have hb:cx.P.built t (parts.map fun (i,x)=>(i,a.eval x)).toList=some ov:=by
     unfold Program.built
     simp only [hi,hu,hz',hp]
     simpa using h1
    refine CX h (v:=.agg ov) ?_ ?_ ha
    ·unfold execOp
     simp only [ho,Sem.run_bind,run_build w t _ ov hb,Result.andThen_ok]
     rfl
    ·have:=UG h2
     simpa using this
   ·cases hz
  ·cases hp
 ·cases hr
theorem Hy (z:Array Value):∀ n:Nat,((List.range (n * z.size)).map fun i=>z[i % z.size]!)=(List.replicate n z.toList).flatten
 | 0=>by simp
 | n+1=>by
  have ih:=Hy z n
  rw [List.replicate_succ',List.flatten_append,<- ih,Nat.add_mul,Nat.one_mul,List.range_add,List.map_append]
  congr 1
  simp only [List.flatten_cons,List.flatten_nil,List.append_nil,List.map_map]
  apply List.ext_getElem?
  intro j
  by_cases hj:j < z.size
  ·simp [hj,Nat.add_mod,Nat.mod_eq_of_lt hj]
  ·rw [List.getElem?_eq_none (by simpa using hj),List.getElem?_eq_none (by simpa using hj)]
theorem E8 {zs:List SV} {z:List Value} (h:Ac w S.M μ (XX cx S.M μ) zs z):∀ n,Ac w S.M μ (XX cx S.M μ) (List.replicate n zs).flatten (List.replicate n z).flatten
 | 0=>trivial
 | n+1=>by
  have app:∀ (as:List SV) (av:List Value) (bs:List SV) (bv:List Value),Ac w S.M μ (XX cx S.M μ) as av -> Ac w S.M μ (XX cx S.M μ) bs bv -> Ac w S.M μ (XX cx S.M μ) (as ++ bs) (av ++ bv):=by
   intro as
   induction as with
   | nil=>intro av bs bv ha hb;cases av with | nil=>exact hb | cons=>simp only [Ac] at ha
   | cons c as ih =>
    intro av bs bv ha hb
    cases av with
    | nil=>simp only [Ac] at ha
    | cons v av=>simp only [Ac,List.cons_append] at ha ⊢;exact ⟨ha.1,ih av bs bv ha.2 hb⟩
  simp only [List.replicate_succ,List.flatten_cons]
  exact app _ _ _ _ h (E8 h n)
def Pf (P:Program) (t:TypeId) (l c:SV):Option Out :=
 match Cr P t,l,c with
 | some e,.dv (.int .i64 n),.dv (.int .i64 m) =>
  match Co P e,Ec P e,FL P e with
  | some zs,some sz,some by'=>if 0 <= n /\ n <= m /\ by' * m <= 281474976710656 /\ m <= 9223372036854775807 /\ zs.length=sz then some (.mk ⟨(List.replicate n.toNat zs).flatten,sz,e,0,true⟩ n.toNat) else none
  | _,_,_=>none
 | _,_,_=>none
end
end Go.Ab
namespace Go.Ab
open Go.RowKit
section
variable {cx:Cx} {S S':St} {a:Act} {w:World} {μ:Nat -> Option (Nat × Nat)} {o:Oper}
theorem eO (h:BJ cx S a w μ) {t:TypeId} {x y:Operand} (ho:o.op=.makeSlice t x y) {out:Out} (hr:Pf cx.P t (S.ev x) (S.ev y)=some out)
  (ha:S.apply cx.n o.dst out=some S'):Runs cx S' o a w:=by
 have hx:=h.ev x
 have hy:=h.ev y
 unfold Pf at hr
 split at hr
 ·rename_i e n m he ex ey
  rw [ex] at hx
  rw [ey] at hy
  simp only [AJ] at hx hy
  generalize hvx:a.eval x=vx at *
  generalize yL:a.eval y=vy at *
  cases hx;cases hy
  split at hr
  ·rename_i zs sz by' hz hs hby
   split at hr
   ·rename_i hc
    obtain ⟨h0,h1,hb,hm,hl⟩:=hc
    simp only [Option.some.injEq] at hr
    subst hr
    have hu:=ER he
    unfold Co at hz
    split at hz
    ·rename_i i hi
     obtain ⟨z,hz',rfl⟩:=Option.map_eq_some_iff.1 hz
     simp only [Ec,FL,hi,Option.map_some,Option.some.injEq] at hs hby
     subst hs
     subst hby
     have hzl:z.cells.size=i.size:=by simpa using hl
     have hrun:=run_make (P:=cx.P) w t e i z hu hi hz' .i64 .i64 n m h0 h1 hb hm
     have hmc:madeCells z.cells (m.toNat * i.size)=(List.replicate m.toNat z.cells.toList).flatten.toArray:=by
      rw [<- Hy,<- hzl]
      unfold madeCells
      apply Array.ext'
      simp
     rw [hmc] at hrun
     refine Ui h (cap:=m.toNat) (k:=n.toNat) ha ?_ ?_ ?_ ?_ (v:=.slice (some ⟨w.heap.size,0,none⟩) n.toNat m.toNat) ?_ (cur:=(List.replicate m.toNat z.cells.toList).flatten.toArray)
     ·simp [hzl];exact Nat.mul_le_mul_right _ (by omega)
     ·intro j c u hc hu'
      have hrep:=E8 (cx:=cx) (S:=S) (w:=w) (μ:=μ) (Hf z.cells.toList) n.toNat
      refine hrep.get j c u hc ?_
      have hj:=(List.getElem?_eq_some_iff.1 hc).1
      have hmn:m.toNat=n.toNat+(m.toNat - n.toNat):=by omega
      rw [hmn,<- List.replicate_append_replicate,List.flatten_append] at hu'
      simp only [List.getElem?_toArray] at hu'
      rwa [List.getElem?_append_left (by simpa [hzl] using hj)] at hu'
     ·intro _
      refine ⟨by simp [hzl],by simp only [maxLen];omega,by omega,rfl⟩
     ·intro hf;simp at hf
     ·unfold execOp
      simp only [ho,hvx,yL,Sem.run_bind,hrun,Result.andThen_ok]
      rfl
    ·cases hz
   ·cases hr
  ·cases hr
 ·cases hr
def GK (P:Program) (t:TypeId) (len:Nat) (parts:List (Nat × SV)):Option Out :=
 match Cr P t with
 | some e=>match Co P e,Ec P e with
  | some zs,some sz=>if zs.length=sz /\ len * sz <= 16777216 /\ len <= 16777216 then
    (EP (fun i=>some (i * sz,sz)) (List.replicate len zs).flatten parts).map fun cs=>.mk ⟨cs,sz,e,0,true⟩ len
   else none
  | _,_=>none
 | none=>none
theorem LM {place:Nat -> Option (Nat × Nat)}:∀ (ps:List (Nat × SV)) (cells out:List SV),EP place cells ps=some out -> out.length=cells.length
 | [],cells,out,h=>by simp only [EP,Option.some.injEq] at h;subst h;rfl
 | (i,s) :: ps,cells,out,h=>by
  simp only [EP] at h
  split at h
  ·split at h
   ·rename_i hle
    rw [LM ps _ out h,DN _ _ _ hle.2]
   ·cases h
  ·cases h
theorem PL (h:BJ cx S a w μ) {t:TypeId} {len:Nat} {parts:Array (Nat × Operand)} (ho:o.op=.buildSlice t len parts) {out:Out}
  (hr:GK cx.P t len (parts.toList.map fun p=>(p.1,S.ev p.2))=some out) (ha:S.apply cx.n o.dst out=some S'):Runs cx S' o a w:=by
 unfold GK at hr
 split at hr
 ·rename_i e he
  split at hr
  ·rename_i zs sz hz hs
   split at hr
   ·rename_i hc
    obtain ⟨cs,hf,rfl⟩:=Option.map_eq_some_iff.1 hr
    have hu:=ER he
    unfold Co at hz
    split at hz
    ·rename_i i hi
     obtain ⟨z,hz',rfl⟩:=Option.map_eq_some_iff.1 hz
     simp only [Ec,hi,Option.map_some,Option.some.injEq] at hs
     subst hs
     have hzl:z.cells.size=i.size:=by simpa using hc.1
     have hl:=LM _ _ _ hf
     obtain ⟨ov,h1,h2⟩:=RH (w:=w) (cx:=cx) (S:=S) (μ:=μ) (parts.toList.map fun p=>(p.1,S.ev p.2)) (parts.toList.map fun p=>(p.1,a.eval p.2)) _ ((List.replicate len z.cells.toList).flatten.toArray) cs (by simp)
      (fun j p q hp' hq'=>by
       simp only [List.getElem?_map,Option.map_eq_some_iff] at hp' hq'
       obtain ⟨p0,e0,rfl⟩:=hp'
       obtain ⟨q0,e1,rfl⟩:=hq'
       rw [e0] at e1
       simp only [Option.some.injEq] at e1
       subst e1
       exact ⟨rfl,h.ev _⟩) (by simpa using E8 (Hf z.cells.toList) len) hf
     have hol:ov.size=len * i.size:=by
      have:=h2.length
      rw [hl] at this
      simpa [hzl] using this
     have hbig:¬ (len * i.size > 2 ^ 24):=by omega
     have hrun:(Instr.buildSlice t len (parts.map fun (i,x)=>(i,a.eval x))).run cx.P w=.ok (.slice (some ⟨w.heap.size,0,none⟩) len len) (w.alloc (.cells ov e)):=by
      have hz0:((Array.range (len * i.size)).map fun j=>z.cells[j % z.cells.size]!)=(List.replicate len z.cells.toList).flatten.toArray:=by
       rw [<- Hy,hzl]
       apply Array.ext'
       simp
      by_cases h0:len * i.size=0
      ·have e0:(List.replicate len z.cells.toList).flatten=[]:=by
        apply List.eq_nil_of_length_eq_zero
        simp [hzl,h0]
       rw [e0] at h1
       have h1':Instr.fill (fun j=>some (j * i.size,i.size)) #[] (List.map (fun x=>(x.1,a.eval x.2)) parts.toList)=some ov:=h1
       simp [Instr.buildSlice,run_underlying hu,sizeOf,typeInfo,hi,h0,h1',newRow,Array.range_zero']
      ·rw [<- hz0] at h1
       have h1':Instr.fill (fun j=>some (j * i.size,i.size)) (Array.map (fun j=>z.cells[j % z.cells.size]!) (Array.range (len * i.size))) (List.map (fun x=>(x.1,a.eval x.2)) parts.toList)=some ov:=h1
       have hbig':¬ (16777216 < len * i.size):=by omega
       simp only [Instr.buildSlice,Sem.run_bind,run_underlying hu,Result.andThen_ok,sizeOf,typeInfo,run_program,hi,Sem.run_pure,hbig,h0,if_false,zeroValue,hz',Array.toList_map]
       rw [h1']
       simp [newRow]
     refine Ui h (cap:=len) ha (by rw [hl];simp [hzl,hol]) (fun j c u hc' hu'=>h2.get j c u hc' (by simpa using hu')) ?_ (fun hf=>by simp at hf) (v:=.slice (some ⟨w.heap.size,0,none⟩) len len) (cur:=ov) ?_
     ·intro _
      refine ⟨hol,?_,Nat.le_refl _,rfl⟩
      simp only [maxLen];omega
     ·unfold execOp
      simp only [ho,Sem.run_bind,hrun,Result.andThen_ok]
      rfl
    ·cases hz
   ·cases hr
  ·cases hr
 ·cases hr
end
end Go.Ab
namespace Go.Ab
open Go.RowKit
section
variable {cx:Cx} {S S':St} {a:Act} {w:World} {μ:Nat -> Option (Nat × Nat)} {o:Oper}
def Ee (sz:Nat):SV × Option Au -> Option (Nat × List SV)
 | (.Bh,_)=>some (0,[])
 | (.emp _,_)=>some (0,[])
 | (.dv (.list l),_)=>if l.all (fun d=>d.cells.length == sz && d.cells.all fun c=>DI (.dv c)) then some (l.length,(flat l).map .dv) else none
 | (.sl _ _ k m,some blk)=>if blk.C8=sz /\ (k+m) * sz <= blk.cells.length /\ ((blk.cells.drop (k * sz)).take (m * sz)).all DI then some (m,(blk.cells.drop (k * sz)).take (m * sz)) else none
 | _=>none
theorem JK:∀ (l:List DV) (e:Nat),(∀ d ∈ l,d.cells.length=e) -> (flat l).length=l.length * e
 | [],_,_=>by simp [flat]
 | d :: l,e,h=>by
  have ih:=JK l e (fun d' hd=>h d' (by simp [hd]))
  have:=h d (by simp)
  simp only [flat,List.flatMap_cons,List.length_append,List.length_cons] at ih ⊢
  rw [ih,this,Nat.add_mul]
  omega
theorem Zt (h:BJ cx S a w μ) {sz:Nat} {s:SV} {n:Nat} {news:List SV} (hs:Ee sz (s,AO S.M s)=some (n,news)) {v:Value} (hv:AJ w S.M μ (XX cx S.M μ) s v) {t e':TypeId} (ht:cx.P.underlying t=some (.slice e')) :
  ∃ nv,Src cx.P sz t v n nv w /\ Ac w S.M μ (XX cx S.M μ) news nv:=by
 unfold Ee at hs
 split at hs
 ·rename_i q e
  simp only [Prod.mk.injEq] at e
  obtain ⟨rfl,_⟩:=e
  simp only [Option.some.injEq,Prod.mk.injEq] at hs
  obtain ⟨rfl,rfl⟩:=hs
  simp only [AJ] at hv
  subst hv
  exact ⟨[],Src.ofNil w ht 0,trivial⟩
 ·rename_i b q e
  simp only [Prod.mk.injEq] at e
  obtain ⟨rfl,_⟩:=e
  simp only [Option.some.injEq,Prod.mk.injEq] at hs
  obtain ⟨rfl,rfl⟩:=hs
  simp only [AJ] at hv
  obtain ⟨ad,cap,rfl,_⟩:=hv
  refine ⟨[],?_,trivial⟩
  cases ad with
  | none=>exact Src.ofNil w ht cap
  | some ad=>exact Src.ofSlice w ht ad 0 cap [] (by simp) (fun j u hj=>by simp at hj) (fun u hu=>by cases hu)
 ·rename_i l q e
  simp only [Prod.mk.injEq] at e
  obtain ⟨rfl,_⟩:=e
  split at hs
  ·rename_i hall
   simp only [Option.some.injEq,Prod.mk.injEq] at hs
   obtain ⟨rfl,rfl⟩:=hs
   simp only [AJ] at hv
   have u7:∀ d ∈ l,d.cells.length=sz /\ ∀ c ∈ d.cells,DI (.dv c)=true:=by
    intro d hd
    have:=List.all_eq_true.1 hall d hd
    simp only [Bool.and_eq_true,beq_iff_eq,List.all_eq_true] at this
    exact this
   cases hv with
   | Cq ad cap =>
    refine ⟨[],?_,trivial⟩
    cases ad with
    | none=>exact Src.ofNil w ht cap
    | some ad=>exact Src.ofSlice w ht ad 0 cap [] (by simp) (fun j u hj=>by simp at hj) (fun u hu=>by cases hu)
   | list _ b off cap C8 u h1 h2 hcap h3 h4 h5 =>
    have hfl:=JK l sz (fun d hd=>(u7 d hd).1)
    have hok:∀ c ∈ flat l,DI (.dv c)=true:=by
     intro c hc
     simp only [flat,List.mem_flatMap] at hc
     obtain ⟨d,hd,hc⟩:=hc
     exact (u7 d hd).2 c hc
    refine ⟨(List.range (flat l).length).map u,Src.ofSlice w ht ⟨b,off,none⟩ l.length cap _ (by simp [hfl]) ?_ ?_,?_⟩
    ·intro j v hj
     simp only [List.getElem?_map,Option.map_eq_some_iff] at hj
     obtain ⟨j',hj',rfl⟩:=hj
     have hlt:j < (flat l).length:=by simpa using (List.getElem?_eq_some_iff.1 hj').1
     rw [List.getElem?_range hlt] at hj'
     simp only [Option.some.injEq] at hj'
     subst hj'
     rw [Addr.add_lit]
     exact h4 j (flat l)[j] (by simp)
    ·intro x hx
     simp only [List.mem_map,List.mem_range] at hx
     obtain ⟨j,hj,rfl⟩:=hx
     have hr:=h5 j (flat l)[j] (by simp [hj])
     exact ME (M:=S.M) (μ:=μ) (hok _ (List.getElem_mem hj)) (by simp only [AJ];exact hr)
    ·refine Ac.mk (by simp) fun j c v hc hv=>?_
     simp only [List.getElem?_map,Option.map_eq_some_iff] at hc hv
     obtain ⟨d,hd,rfl⟩:=hc
     obtain ⟨j',hj',rfl⟩:=hv
     have hlt:j < (flat l).length:=(List.getElem?_eq_some_iff.1 hd).1
     rw [List.getElem?_range hlt] at hj'
     simp only [Option.some.injEq] at hj'
     subst hj'
     simp only [AJ]
     exact h5 j d hd
  ·cases hs
 ·rename_i t' g k m blk e
  simp only [Prod.mk.injEq] at e
  obtain ⟨rfl,eb⟩:=e
  have hM:=IC eb
  split at hs
  ·rename_i hc
   simp only [Option.some.injEq,Prod.mk.injEq] at hs
   obtain ⟨rfl,rfl⟩:=hs
   obtain ⟨rfl,hle,hok⟩:=hc
   simp only [AJ] at hv
   have hv2:=hv.2 blk hM
   have hb:=h.blk t' g blk hM
   unfold Bt at hb
   cases hm:μ t' with
   | none =>
    rw [hm] at hv2 hb
    simp only at hv2 hb
    obtain ⟨rfl,rfl,rfl⟩:=hv2
    refine ⟨[],Src.ofNil w ht 0,by simp [Ac]⟩
   | some p =>
    obtain ⟨b,cap⟩:=p
    rw [hm] at hv2 hb
    simp only at hv2 hb
    obtain ⟨rfl,hcap⟩:=hv2
    obtain ⟨cur,q1,q2,q3,_,_⟩:=hb
    have hrep:Ac w S.M μ (XX cx S.M μ) ((blk.cells.drop (k * blk.C8)).take (m * blk.C8)) ((cur.toList.drop (k * blk.C8)).take (m * blk.C8)):=by
     refine Ac.mk (by simp;rw [Nat.add_mul] at hle;omega) fun j c u hc hu=>?_
     rw [List.getElem?_take] at hc hu
     split at hc
     ·rename_i hlt
      rw [if_pos hlt] at hu
      rw [List.getElem?_drop] at hc hu
      exact q3 _ c u hc (by simpa using hu)
     ·cases hc
    refine ⟨_,Src.ofSlice w ht ⟨b,k * blk.C8,none⟩ m (cap - k) _ ?_ ?_ ?_,hrep⟩
    ·rw [Nat.add_mul] at hle
     simp;omega
    ·intro j v hj
     rw [List.getElem?_take] at hj
     split at hj
     ·rw [List.getElem?_drop] at hj
      rw [Addr.add_lit,Nh q1]
      simpa using hj
     ·cases hj
    ·intro x hx
     obtain ⟨j,hj,rfl⟩:=List.getElem_of_mem hx
     have hj':j < ((blk.cells.drop (k * blk.C8)).take (m * blk.C8)).length:=by have:=hrep.length;omega
     exact ME (List.all_eq_true.1 hok _ (List.getElem_mem hj')) (hrep.get j _ _ (List.getElem?_eq_getElem hj') (List.getElem?_eq_getElem hj))
  ·cases hs
 ·cases hs
def JO (P:Program) (t tx:TypeId) (s x:SV × Option Au):Option Out :=
 match Cr P t,Cr P tx with
 | some e,some _=>match Ec P e,FL P e,Co P e with
  | some sz,some by',some zs =>
   match Ee sz x with
   | some (n,news) =>
    match s with
    | (.Bh,_)=>if n <= 9223372036854775807 /\ n * by' <= 140737488355328 /\ zs.length=sz then some (.app none ⟨news,sz,e,0,true⟩ n) else none
    | (.sl t' _ 0 m,some blk) =>
     if blk.row=true /\ blk.C8=sz /\ blk.elem=e /\ blk.cells.length=m * sz /\ m+n <= 9223372036854775807 /\ (m+n) * by' <= 140737488355328 /\ zs.length=sz then some (.app (some t') { blk with cells:=blk.cells ++ news,st:=0 } (m+n)) else none
    | _=>none
   | none=>none
  | _,_,_=>none
 | _,_=>none
theorem Jo (h:BJ cx S a w μ) {t tx e:TypeId} {i:TypeInfo} {z:Value} {ty:TypeId} (hu:cx.P.underlying t=some (.slice e)) (hi:cx.P.info? e=some i) (hz:i.zero=some z) (hzl:z.cells.size=i.size)
  (base:Option Addr) (m cap n:Nat) (olds nv:List Value) (hold:(Builtin.firstCells i.size m (.slice base m cap)).run cx.P w.drew=.ok olds.toArray w.drew) (hol:olds.length=m * i.size)
  {x:Value} (hs:Src cx.P i.size tx x n nv w) (hg:cap < m+n) (h63:m+n <= 9223372036854775807) (hb:(m+n) * i.bytes <= 140737488355328)
  {os ns:List SV} (ho:Ac w S.M μ (XX cx S.M μ) os olds) (hn:Ac w S.M μ (XX cx S.M μ) ns nv) (d:Nat) :
  ∃ v' w' μ',(Builtin.append_ #[t,tx] ty #[.slice base m cap,x]).run cx.P w=.ok v' w' ∧
   BJ cx ⟨S.F,upd S.M d ((S.M d).1+1,some ⟨os ++ ns,i.size,e,0,true⟩)⟩ a w' μ' ∧
   AJ w' (upd S.M d ((S.M d).1+1,some ⟨os ++ ns,i.size,e,0,true⟩)) μ' (XX cx (upd S.M d ((S.M d).1+1,some ⟨os ++ ns,i.size,e,0,true⟩)) μ') (.sl d ((S.M d).1+1) 0 (m+n)) v':=by
 have hr:=run_append_grow_src (P:=cx.P) w t tx ty e i z hu hi hz base m cap olds hold x n nv hs hg (by omega) (growslice_fits (by omega) hb)
 have hd:Below w.heap.size w w.drew:=(Below.refl _ _).drew
 have h1:=h.grow hd
 have hge:=grownCap_ge w (m+n) cap e
 have hcm:=grownCap_le_maxLen w (m+n) cap e (by simp only [maxLen];omega)
 have hnl:=hs.newsLen
 have hok:Ac w S.M μ (XX cx S.M μ) (os ++ ns) (olds ++ nv):=by
  refine Ac.mk (by simp [ho.length,hn.length]) fun j c v hc hv=>?_
  by_cases hj:j < os.length
  ·rw [List.getElem?_append_left hj] at hc
   rw [List.getElem?_append_left (by rw [ho.length];exact hj)] at hv
   exact ho.get j c v hc hv
  ·rw [List.getElem?_append_right (by omega)] at hc
   rw [List.getElem?_append_right (by rw [ho.length];omega),ho.length] at hv
   exact hn.get _ c v hc hv
 have hsize:((olds ++ nv).toArray ++ Builtin.zeroCells z.cells (grownCap w (m+n) cap e - (m+n))).size=grownCap w (m+n) cap e * i.size:=by
  simp only [Array.size_append,List.size_toArray,List.length_append,size_zeroCells,hzl,hol,hnl,<- Nat.add_mul]
  congr 1
  omega
 have h2:=h1.create d ⟨os ++ ns,i.size,e,0,true⟩ ((olds ++ nv).toArray ++ Builtin.zeroCells z.cells (grownCap w (m+n) cap e - (m+n))) (grownCap w (m+n) cap e)
  (by simp) (by simp [ho.length,hn.length]) (fun j c u hc hu=>by
   have hj:j < (os ++ ns).length:=(List.getElem?_eq_some_iff.1 hc).1
   have hlen:=hok.length
   rw [Array.getElem?_append_left (by simp only [List.size_toArray];omega)] at hu
   have:=hok.get j c u hc (by simpa using hu)
   exact AJ.mono hd.size (fun b hb hx=>⟨hd.block b hb,hx⟩) (fun _=>Nat.le_refl _) (fun t g Aj e _=>⟨Aj,e,rfl,rfl⟩) c u this)
  (fun _=>⟨hsize,hcm⟩) (fun hf=>by simp at hf)
 refine ⟨_,_,_,hr,h2,?_⟩
 simp only [AJ]
 refine ⟨⟨rfl,by rw [upd_same];exact Nat.le_refl _⟩,fun Aj e'=>?_⟩
 rw [upd_same] at e'
 simp only [Prod.mk.injEq,Option.some.injEq,true_and] at e'
 subst e'
 rw [upd_same]
 simp only [Nat.zero_mul,Nat.sub_zero,Nat.zero_add]
 exact ⟨rfl,hge⟩
theorem P6 (h:BJ cx S a w μ) {t tx e:TypeId} {i:TypeInfo} {ty:TypeId} (hu:cx.P.underlying t=some (.slice e)) (hi:cx.P.info? e=some i) {x:Value} {nv:List Value} (hs:Src cx.P i.size tx x 0 nv w) (d:Nat) :
  ∃ v' w' μ',(Builtin.append_ #[t,tx] ty #[.slice none 0 0,x]).run cx.P w=.ok v' w' ∧
   BJ cx ⟨S.F,upd S.M d ((S.M d).1+1,some ⟨[],i.size,e,0,true⟩)⟩ a w' μ' ∧
   AJ w' (upd S.M d ((S.M d).1+1,some ⟨[],i.size,e,0,true⟩)) μ' (XX cx (upd S.M d ((S.M d).1+1,some ⟨[],i.size,e,0,true⟩)) μ') (.sl d ((S.M d).1+1) 0 0) v':=by
 refine ⟨.slice none 0 0,w,upd μ d none,?_,h.yY d i.size e,?_⟩
 ·have yN:nv=[]:=List.eq_nil_of_length_eq_zero (by have:=hs.newsLen;simpa using this)
  subst yN
  rcases hs.kind with ⟨e',hk⟩ | hk<;>simp [Builtin.append_,run_underlying hu,run_underlying hk,sizeOf,typeInfo,hi,hs.len,hs.cells]
 ·simp only [AJ]
  refine ⟨⟨rfl,by rw [upd_same];exact Nat.le_refl _⟩,fun Aj e'=>?_⟩
  rw [upd_same]
  exact ⟨trivial,trivial,trivial⟩
end
end Go.Ab
