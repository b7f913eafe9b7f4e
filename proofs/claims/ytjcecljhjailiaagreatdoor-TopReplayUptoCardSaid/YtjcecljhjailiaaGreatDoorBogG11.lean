/- Ab33, Ab34, Ab35, Ab36, Ab37, Ab38, Ab49, Ab50. -/
import Derived.Test.YtjcecljhjailiaaGreatDoorBogG10
import Derived.RangeFuncCalls
set_option linter.unusedVariables false
namespace Go.Ab
open Go.RowKit
abbrev SI (e:TypeId) (L:List Bool):Au:=⟨L.map fun b=>.dv (.bool b),1,e,0,true⟩
section
variable {P:Program} {S:St} {x y:Operand} {t e by' tg g o:Nat} {ob:Option Au}
theorem Jt {L:List Bool} {e':TypeId} {st:Nat} {c:Bool} (hs:Ec P t=some 1) (hx:S.look x=(.pt tg g o,some ⟨L.map fun q=>.dv (.bool q),1,e',st,true⟩):=by (simp only [St.look,St.ev,lk,AA,AO,Ah,Ag,reduceIte,Nat.reduceAdd,Nat.reduceEqDiff,Nat.reduceMul]<;>rfl)) (hv:S.ev y=.dv (.bool c):=by (simp only [St.look,St.ev,lk,AA,AO,Ah,Ag,reduceIte,Nat.reduceAdd,Nat.reduceEqDiff,Nat.reduceMul]<;>rfl)) (ho:o < L.length:=by (first | omega | (simp only [Int.toNat_natCast,List.length_map,List.length_append,List.length_cons,List.length_nil,List.length_take,List.length_drop,List.length_set,List.length_replicate,Nat.zero_add,Nat.mul_one]<;>omega) | (simp<;>omega))):AP P S (.store t x y)=some (.put tg ⟨(L.set o c).map fun q=>.dv (.bool q),1,e',st,true⟩):=by
 refine VJ hx hs (cc:=[.dv (.bool c)]) (by rw [hv];rfl) rfl rfl ?_ ?_
 ·show o+1 <= (L.map fun q=>SV.dv (.bool q)).length
  simp;omega
 ·exact putCells_set (fun q=>SV.dv (.bool q)) L o c ho
theorem Oq {L:List Bool} {q:Bool} {e':TypeId} {st:Nat} (hs:Ec P t=some 1) (ha:FB P t=some false) (hx:S.look x=(.pt tg g o,some ⟨L.map fun q=>.dv (.bool q),1,e',st,true⟩):=by (simp only [St.look,St.ev,lk,AA,AO,Ah,Ag,reduceIte,Nat.reduceAdd,Nat.reduceEqDiff,Nat.reduceMul]<;>rfl)) (hq:L[o]?=some q:=by (first | assumption | exact List.getElem?_eq_getElem (by (first | assumption | omega)))):AP P S (.load t x)=some (.val (.dv (.bool q))) :=
 VK hx hs ha (by show (L.map fun q=>SV.dv (.bool q))[o]?=_;rw [List.getElem?_map,hq];rfl)
theorem tH (he:Cr P t=some e) (hz:Co P e=some [.dv (.bool false)]) (hs:Ec P e=some 1) (hb:FL P e=some by') {n:Int} (hx:S.ev x=.dv (.int .i64 n):=by (simp only [St.look,St.ev,lk,AA,AO,Ah,Ag,reduceIte,Nat.reduceAdd,Nat.reduceEqDiff,Nat.reduceMul]<;>rfl)) (hy:S.ev y=.dv (.int .i64 n):=by (simp only [St.look,St.ev,lk,AA,AO,Ah,Ag,reduceIte,Nat.reduceAdd,Nat.reduceEqDiff,Nat.reduceMul]<;>rfl))
  (h0:0 <= n:=by (first | omega | (simp only [Int.toNat_natCast,List.length_map,List.length_append,List.length_cons,List.length_nil,List.length_take,List.length_drop,List.length_set,List.length_replicate,Nat.zero_add,Nat.mul_one]<;>omega) | (simp<;>omega))) (h1:by' * n <= 281474976710656:=by (first | omega | (simp only [Int.toNat_natCast,List.length_map,List.length_append,List.length_cons,List.length_nil,List.length_take,List.length_drop,List.length_set,List.length_replicate,Nat.zero_add,Nat.mul_one]<;>omega) | (simp<;>omega))) (h2:n <= 9223372036854775807:=by (first | omega | (simp only [Int.toNat_natCast,List.length_map,List.length_append,List.length_cons,List.length_nil,List.length_take,List.length_drop,List.length_set,List.length_replicate,Nat.zero_add,Nat.mul_one]<;>omega) | (simp<;>omega))) {m':Nat} (hm:n.toNat=m':=by (first | (simp only [Int.toNat_natCast]<;>rfl) | rfl)):AP P S (.makeSlice t x y)=some (.mk (SI e (List.replicate m' false)) m'):=by
 subst hm
 rw [lG hx hy he hz hs hb h0 h1 h2 rfl]
 have:(List.replicate n.toNat [SV.dv (DV.bool false)]).flatten=(List.replicate n.toNat false).map fun q=>SV.dv (.bool q):=by
  induction n.toNat with
  | zero=>rfl
  | succ m ih=>simp only [List.replicate_succ,List.flatten_cons,ih,List.map_cons,List.cons_append,List.nil_append]
 rw [this]
theorem zO {k:IntKind} {a b:Nat} {t2:TypeId} (hx:S.ev x=.dv (.int .i64 (a:Int)):=by (simp only [St.look,St.ev,lk,AA,AO,Ah,Ag,reduceIte,Nat.reduceAdd,Nat.reduceEqDiff,Nat.reduceMul]<;>rfl)) (hy:S.ev y=.dv (.int k (b:Int)):=by (simp only [St.look,St.ev,lk,AA,AO,Ah,Ag,reduceIte,Nat.reduceAdd,Nat.reduceEqDiff,Nat.reduceMul]<;>rfl)) (hb:b <= 62:=by (first | omega | (simp only [Int.toNat_natCast,List.length_map,List.length_append,List.length_cons,List.length_nil,List.length_take,List.length_drop,List.length_set,List.length_replicate,Nat.zero_add,Nat.mul_one]<;>omega) | (simp<;>omega))):AP P S (.binOp .shr t x y t2)=some (.val (.dv (.int .i64 ((a / 2 ^ b:Nat):Int)))):=by
 have e:min b 64=b:=by omega
 simp only [AP,Dj,hx,hy,En]
 rw [if_neg (by omega)]
 simp only [Int.toNat_natCast,IntKind.bits,e,Option.map_some]
 have:((a:Int).fdiv (2 ^ b))=((a / 2 ^ b:Nat):Int):=by
  rw [Int.fdiv_eq_ediv_of_nonneg _ (by exact_mod_cast Nat.zero_le _)]
  push_cast
  rfl
 rw [this]
theorem vX {a:Nat} {t2:TypeId} (ha:a < 9223372036854775808) (hx:S.ev x=.dv (.int .i64 (a:Int)):=by (simp only [St.look,St.ev,lk,AA,AO,Ah,Ag,reduceIte,Nat.reduceAdd,Nat.reduceEqDiff,Nat.reduceMul]<;>rfl)) (hy:S.ev y=.dv (.int .i64 1):=by (simp only [St.look,St.ev,lk,AA,AO,Ah,Ag,reduceIte,Nat.reduceAdd,Nat.reduceEqDiff,Nat.reduceMul]<;>rfl)):AP P S (.binOp .and t x y t2)=some (.val (.dv (.int .i64 ((a % 2:Nat):Int)))):=by
 have e:(BitVec.ofInt 64 (a:Int) &&& BitVec.ofInt 64 1).toNat=a % 2:=by
  rw [BitVec.toNat_and,BitVec.toNat_ofInt,BitVec.toNat_ofInt]
  have h1:((a:Int) % ((2 ^ 64:Nat):Int)).toNat=a:=by omega
  have h2:((1:Int) % ((2 ^ 64:Nat):Int)).toNat=1:=by omega
  rw [h1,h2,Nat.and_one_is_mod]
 simp only [AP,Dj,hx,hy,DU,if_true,Option.map_some]
 have e':((BitVec.ofInt IntKind.i64.bits (a:Int) &&& BitVec.ofInt IntKind.i64.bits 1).toNat:Int)=((a % 2:Nat):Int):=congrArg Int.ofNat e
 rw [e',wrap_i64 (by omega) (by omega)]
end
end Go.Ab
set_option linter.all false
namespace Go.Ab
open Go.RowKit
section
variable {w w':World} {M:Nat -> Nat × Option Au} {μ:Nat -> Option (Nat × Nat)} {X:Nat -> Prop}
theorem Bn.turn (hs:w.heap.size <= w'.heap.size) (hc:∀ a v,w.cell? a=some v -> w'.cell? a=some v) {d:DV} {v:Value} (h:Bn w X d v):Bn w' X d v:=by
 induction h with
 | bool b=>exact .bool b
 | int k n=>exact .int k n
 | str s=>exact .str s
 | CU=>exact .CU
 | Hw=>exact .Hw
 | nilIface=>exact .nilIface
 | iface t d v _ ih=>exact .iface t d v ih
 | Cq a cap=>exact .Cq a cap
 | list l b off cap C8 u hx hb hcap he hc' _ ih=>exact .list l b off cap C8 u hx (Nat.lt_of_lt_of_le hb hs) hcap he (fun j c hj=>hc _ _ (hc' j c hj)) ih
 | agg cs vs hsz _ ih=>exact .agg cs vs hsz ih
 | Cy cs b off u hx hb hc' _ ih=>exact .Cy cs b off u hx (Nat.lt_of_lt_of_le hb hs) (fun j c hj=>hc _ _ (hc' j c hj)) ih
 | fn f pre caps vp vc h1 h2 _ _ ih1 ih2=>exact .fn f pre caps vp vc h1 h2 ih1 ih2
mutual
theorem AJ.turn (hs:w.heap.size <= w'.heap.size) (hc:∀ a v,w.cell? a=some v -> w'.cell? a=some v):∀ (c:SV) (v:Value),AJ w M μ X c v -> AJ w' M μ X c v
 | .dead,_,_=>trivial
 | .dv _,_,h=>by simp only [AJ] at h ⊢;exact h.turn hs hc
 | .Bh,_,h=>by simpa only [AJ] using h
 | .emp b,v,h=>by simpa only [AJ] using h
 | .sl t g off n,v,h=>by simpa only [AJ] using h
 | .pt t g off,v,h=>by simpa only [AJ] using h
 | .agg cs,v,h=>by
  simp only [AJ] at h ⊢
  obtain ⟨vs,rfl,hv⟩:=h
  exact ⟨vs,rfl,Ac.turn hs hc cs vs hv⟩
 | .Em cs,v,h=>by
  simp only [AJ] at h ⊢
  obtain ⟨vs,rfl,hv⟩:=h
  exact ⟨vs,rfl,Ac.turn hs hc cs vs hv⟩
theorem Ac.turn (hs:w.heap.size <= w'.heap.size) (hc:∀ a v,w.cell? a=some v -> w'.cell? a=some v):∀ (cs:List SV) (vs:List Value),Ac w M μ X cs vs -> Ac w' M μ X cs vs
 | [],[],_=>trivial
 | [],_ :: _,h=>by simp only [Ac] at h
 | _ :: _,[],h=>by simp only [Ac] at h
 | c :: cs,v :: vs,h=>by
  simp only [Ac] at h ⊢
  exact ⟨AJ.turn hs hc c v h.1,Ac.turn hs hc cs vs h.2⟩
end
theorem Bt.turn (hs:w.heap.size <= w'.heap.size) (hc:∀ a v,w.cell? a=some v -> w'.cell? a=some v) (hb:∀ (b:Nat) (o:Obj),w.heap[b]?=some o -> o.isCells=true -> w'.heap[b]?=some o) {t:Nat} {blk:Au} (h:Bt w M μ X t blk):Bt w' M μ X t blk:=by
 unfold Bt at *
 cases hm:μ t with
 | none=>rw [hm] at h;exact h
 | some p =>
  rw [hm] at h
  obtain ⟨cur,h1,h2,h3,h4,h5⟩:=h
  exact ⟨cur,hb _ _ h1 rfl,h2,fun j c u hj hu=>AJ.turn hs hc c u (h3 j c u hj hu),h4,h5⟩
end
section
variable {cx:Cx} {S S':St} {a:Act} {w w':World} {μ:Nat -> Option (Nat × Nat)}
theorem BJ.turn (h:BJ cx S a w μ) {row:Option Nat} (hg:w.grownBy w' row) (hr:∀ r,row=some r -> (cx.w0.heap.size <= r \/ cx.Wr r) /\ ∃ o:Obj,w.heap[r]?=some o /\ o.isCells=false):BJ cx S a w' μ:=by
 have hr':∀ r,row=some r -> ∃ o:Obj,w.heap[r]?=some o /\ o.isCells=false:=fun r e=>(hr r e).2
 have hc:∀ a v,w.cell? a=some v -> w'.cell? a=some v:=fun a v h1=>cell_kept h1 hg hr'
 have hb:∀ (b:Nat) (o:Obj),w.heap[b]?=some o -> o.isCells=true -> w'.heap[b]?=some o:=fun b o h1 h2=>(grownBy_keeps_cells hg hr' h1 h2).trans h1
 refine ⟨fun t g blk e=>Bt.turn hg.size hc hb (h.blk t g blk e),fun i=>AJ.turn hg.size hc _ _ (h.slot i),fun t g blk b cap e hm=>⟨(h.place t g blk b cap e hm).1,Nat.lt_of_lt_of_le (h.place t g blk b cap e hm).2 hg.size⟩,h.uniq,h.Ei,?_,h.size,h.defers⟩
 refine h.below.then (y9:=fun k=>row=some k) ⟨hg.os,hg.tape,hg.output,hg.size,fun k hk hw=>hg.block k hk (fun e=>hw e.symm)⟩ fun i hi hw e=>?_
 rcases (hr i e).1 with h1 | h1
 ·omega
 ·exact hw h1
end
mutual
def DV.val:DV -> Value
 | .bool b=>.bool b
 | .int k n=>.int k n
 | .str s=>.string s
 | .agg cs=>.agg (DV.vals cs).toArray
 | _=>undef
def DV.vals:List DV -> List Value
 | []=>[]
 | c :: cs=>c.val :: DV.vals cs
end
mutual
def DV.free:DV -> Bool
 | .bool _=>true
 | .int _ _=>true
 | .str _=>true
 | .agg cs=>DV.frees cs
 | _=>false
def DV.frees:List DV -> Bool
 | []=>true
 | c :: cs=>c.free && DV.frees cs
end
theorem Q0:∀ cs:List DV,(DV.vals cs).length=cs.length
 | []=>rfl
 | _ :: cs=>by simp [DV.vals,Q0 cs]
theorem Vr:∀ (cs:List DV) (j:Nat),(DV.vals cs)[j]?=(cs[j]?).map DV.val
 | [],j=>by simp [DV.vals]
 | c :: cs,0=>by simp [DV.vals]
 | c :: cs,j+1=>by simp [DV.vals,Vr cs j]
mutual
theorem Xh {w:World} {X:Nat -> Prop}:∀ {d:DV},d.free=true -> Bn w X d d.val
 | .bool b,_=>.bool b
 | .int k n,_=>.int k n
 | .str s,_=>.str s
 | .agg cs,h=>by
  simp only [DV.free] at h
  simp only [DV.val]
  refine .agg cs _ (by simp [Q0]) fun j c hj=>?_
  have:=Tm (w:=w) (X:=X) h j c hj
  simpa [Vr,hj] using this
 | .list _,h | .Cy _,h | .CU,h | .fn ..,h | .Hw,h | .iface ..,h | .nilIface,h=>by simp [DV.free] at h
theorem Tm {w:World} {X:Nat -> Prop}:∀ {cs:List DV},DV.frees cs=true -> ∀ (j:Nat) c,cs[j]?=some c -> Bn w X c c.val
 | [],_,j,c,hj=>by simp at hj
 | c0 :: cs,h,0,c,hj=>by
  simp only [DV.frees,Bool.and_eq_true] at h
  simp only [List.getElem?_cons_zero,Option.some.injEq] at hj
  subst hj
  exact Xh h.1
 | c0 :: cs,h,j+1,c,hj=>by
  simp only [DV.frees,Bool.and_eq_true] at h
  exact Tm h.2 j c (by simpa using hj)
end
def sS (P:Program) (gf:FuncId) (caps:List DV) (xs:List (List DV)):Prop :=
 ES P gf /\ (∀ x ∈ xs,DV.frees x=true) /\ ∀ (l:Nat) (lb:Array Value) (J:Nat -> World -> Prop) (W:World),AbidesFrom W.heap.size J -> (∀ k W',J k W' -> Args W' (fun _=>False) caps lb) →
  (∀ k x W1,xs[k]?=some x -> J k W1 -> YieldAt Fence.wide 0 P l (DV.vals x).toArray W1 fun e W'=>e=.returned (.bool true) /\ J (k+1) W') →
  J 0 W -> CallsIn Fence.wide 0 P gf (#[.func (.yield l) #[] #[]] ++ lb) W fun e W'=>(∃ v,e=.returned v) /\ J xs.length W'
def sP (P:Program) (fn:Func) (ds:List DV) (w0:World) (Wr:Nat -> Prop) (a:Act) (w:World):Prop :=
 ∃ (D:Nat) (us:List Value),a.defers=[{ target:=.collected D,args:=#[] }] /\ w.heap[D]?=some (.deferred (some [])) /\ w0.heap.size <= D /\ Dg Wr w0 w ∧
  (results fn a.tmps).run P (w.putObj D (.deferred none))=.ok (valOf us) (w.putObj D (.deferred none)) /\ us.length=ds.length /\ ∀ (j:Nat) d u,ds[j]?=some d -> us[j]?=some u -> Bn w (fun _=>True) d u
def yD (P:Program) (rv:List ResultVar) (ds:List DV):Exit -> St -> Prop:=fun e S=>e=.ret /\ DV.frees ds=true /\ DX P S rv=some (ds.map .dv)
theorem iw {w:World} {X:Nat -> Prop} {d:DV} {v:Value} (h:Bn w X d v):d.free=true -> ∀ Y w',Bn w' Y d v:=by
 induction h with
 | bool b=>exact fun _ _ _=>.bool b
 | int k n=>exact fun _ _ _=>.int k n
 | str s=>exact fun _ _ _=>.str s
 | agg cs vs hsz _ ih =>
  intro hf Y w'
  simp only [DV.free] at hf
  refine .agg cs vs hsz fun j c hj=>ih j c hj ?_ Y w'
  have:∀ (cs:List DV) (j:Nat) c,DV.frees cs=true -> cs[j]?=some c -> c.free=true:=by
   intro cs
   induction cs with
   | nil=>intro j c _ h;simp at h
   | cons c0 cs ih =>
    intro j c h hj
    simp only [DV.frees,Bool.and_eq_true] at h
    cases j with
    | zero=>simp only [List.getElem?_cons_zero,Option.some.injEq] at hj;subst hj;exact h.1
    | succ j=>exact ih j c h.2 (by simpa using hj)
  exact this cs j c hf hj
 | CU | Hw | nilIface | iface | Cq | list | Cy | fn=>intro hf;simp [DV.free] at hf
end Go.Ab
namespace Go.Ab
open Go.RowKit
def Mf:List Nat -> List DV -> (Nat -> SV) -> Nat -> SV
 | p :: ps,d :: ds,F=>Mf ps ds (upd F p (.dv d))
 | _,_,F=>F
section
variable {cx:Cx} {S S':St} {a:Act} {w w':World} {μ:Nat -> Option (Nat × Nat)}
def Cx.loose (cx:Cx):Cx:={ cx with Wr:=fun _=>True }
theorem BJ.loose (h:BJ cx S a w μ):BJ cx.loose S a w μ :=
 ⟨h.blk,h.slot,fun t g blk b cap e hm=>⟨.inr trivial,(h.place t g blk b cap e hm).2⟩,h.uniq,h.Ei,⟨h.below.os,h.below.tape,h.below.output,h.below.size,fun k hk hw=>(hw trivial).elim⟩,h.size,h.defers⟩
theorem QU:∀ (ps:List Nat) (x:List DV) (a:Act) (F:Nat -> SV) (M:Nat -> Nat × Option Au),BJ cx ⟨F,M⟩ a w μ -> (∀ p ∈ ps,p < cx.n) -> DV.frees x=true →
  BJ cx ⟨Mf ps x F,M⟩ { a with tmps:=(ps.zip (DV.vals x)).foldl (fun t (p,v)=>t.setIfInBounds p v) a.tmps } w μ
 | [],x,a,F,M,h,_,_=>by simpa [Mf] using h
 | _ :: _,[],a,F,M,h,_,_=>by simpa [Mf,DV.vals] using h
 | p :: ps,d :: x,a,F,M,h,hp,hx=>by
  simp only [DV.frees,Bool.and_eq_true] at hx
  have h1:=h.set (d:=p) (hp p (by simp)) (r:=.dv d) (v:=d.val) (by simp only [AJ];exact Xh hx.1)
  exact QU ps x (a.put (some p) d.val) (upd F p (.dv d)) M h1 (fun q hq=>hp q (List.mem_cons_of_mem _ hq)) hx.2
def Yi (cx:Cx) (N:Nat -> Nat × Option Au):Exit -> St -> Prop:=fun e S=>e=.normal /\ Le cx S ⟨fun _=>.dead,N⟩
def Va (P:Program) (n:Nat) (body:Code) (N:Nat -> Nat × Option Au):Exit -> St -> Prop:=fun e S=>e=.normal /\ ∀ I7:Cx,I7.P=P -> I7.n=n -> I7.Good -> EF I7 body (Yi I7 N) S
def Pw (cx:Cx) (ps:List Nat) (assign body:Code) (F:Nat -> SV) (M1:Nat -> Nat × Option Au) (x:List DV) (pO:Nat -> Nat × Option Au):Prop :=
 ∃ (τ:Nat -> Option Nat) (M0:Nat -> Nat × Option Au) (F0:Nat -> SV) (N M2:Nat -> Nat × Option Au) (σ:Nat -> Option Nat) (ρ:Nat -> Option (Nat × Nat)),
  Vi τ M1 M0 /\ (∀ i,AX τ M1 M0 (F0 i) (F i)) /\ Zi τ M1 N M2 σ ρ /\ Le cx ⟨F,M2⟩ ⟨F,pO⟩ ∧
  ∀ I7:Cx,I7.P=cx.P -> I7.n=cx.n -> I7.Good -> EF I7 assign (Va cx.P cx.n body N) ⟨Mf ps x F0,M0⟩
theorem dx (h:BJ cx S a w μ) {b:Nat} (hb:Own S.M μ b):∃ o,w.heap[b]?=some o /\ o.isCells=true:=by
 obtain ⟨t,g,blk,cap,e1,_,e3⟩:=hb
 have:=h.blk t g blk e1
 unfold Bt at this
 rw [e3] at this
 obtain ⟨cur,h1,_⟩:=this
 exact ⟨_,h1,rfl⟩
theorem iY (hg:cx.Good) (h:BJ cx ⟨S.F,S.M⟩ a w μ) {ps:Array Nat} {assign body:Code} {x:List DV} {pO:Nat -> Nat × Option Au} (hps:∀ p ∈ ps.toList,p < cx.n) (hx:DV.frees x=true) (ok:Pw cx ps.toList assign body S.F S.M x pO)
  {l D:Nat} {rec:LoopState -> Loop} (hl:w.heap[l]?=some (.loop (rec .ready))) (hl0:cx.w0.heap.size <= l) (hD:w.heap[D]?=some (.deferred (some []))) (hDl:D ≠ l) (zh:∀ s,(rec s).state=s) (tT:∀ s s',{ rec s with state:=s' }=rec s') (zf:∀ s,(rec s).pending=none) {fn:FuncId} :
  RoundIn Fence.wide 0 cx.P l fn ((ps.zip (DV.vals x).toArray).foldl (fun t (p,v)=>t.setIfInBounds p v) a.tmps) assign body w fun e W'=>e=.returned (.bool true) /\ (∃ μ',BJ cx ⟨S.F,pO⟩ a W' μ') /\ W'.heap[l]?=some (.loop (rec .ready)) /\ W'.heap[D]?=some (.deferred (some [])):=by
 obtain ⟨τ,M0,F0,N,M2,σ,ρ,hL,hF0,hB,hle,hbody⟩:=ok
 obtain ⟨kJ,hW,hrep⟩:=Qx (S:=S) hg h hL
 have nl:∀ {b:Nat} {o:Obj},w.heap[b]?=some o -> o.isCells=true -> b ≠ l:=fun h1 h2 e=>by
  subst e;rw [hl] at h1;cases h1;cases h2
 have tV:∀ b,Own M0 (BU τ μ) b -> ∃ o,w.heap[b]?=some o /\ o.isCells=true:=fun b hb=>by
  obtain ⟨_,t,g,blk,cap,e1,e2,e3,_⟩:=hW b hb
  exact dx h ⟨t,g,blk,cap,e1,e2,e3⟩
 -- the frame of the round
 let cxA:Cx:={ P:=cx.P,w0:=w,n:=cx.n,Wr:=Own M0 (BU τ μ),X0:=fun b=>XX cx S.M μ b /\ ¬ Own M0 (BU τ μ) b,loc:=BU τ μ,KC:=some l }
 have hX0:∀ b,XX cx S.M μ b -> b < w.heap.size:=fun b hb=>by
  rcases hb with ⟨t,g,blk,cap,e1,_,e3⟩ | hx
  ·exact (h.place t g blk b cap e1 e3).2
  ·exact Nat.lt_of_lt_of_le (hg.1 b hx).1 h.below.size
 have hgA:cxA.Good:=⟨fun b hb=>⟨hX0 b hb.1,hb.2⟩,(h.laid hg).1,fun g hk=>⟨fun hx=>(h.laid hg).2 g hk hx.1,fun hx=>(h.laid hg).2 g hk (hW g hx).1⟩⟩
 have aj:BJ cxA ⟨F0,M0⟩ { tmps:=a.tmps,defers:=[] } w (BU τ μ):=by
  refine ⟨kJ.blk,fun i=>?_,fun t g blk b cap e hm=>⟨.inr (kJ.place t g blk b cap e hm).1,(kJ.place t g blk b cap e hm).2⟩,kJ.uniq,kJ.Ei,Dg.refl _ _,h.size,rfl⟩
  have:=hrep [F0 i] [S.F i] [a.tmps.getD i undef] (by simp only [Aa];exact ⟨hF0 i,trivial⟩) (by simp only [Ac];exact ⟨h.slot i,trivial⟩)
  simp only [Ac,and_true] at this
  exact this
 have hA1:=QU ps.toList x _ _ _ aj hps hx
 have hzip:(ps.zip (DV.vals x).toArray).foldl (fun t (p,v)=>t.setIfInBounds p v) a.tmps=(ps.toList.zip (DV.vals x)).foldl (fun t (p,v)=>t.setIfInBounds p v) a.tmps:=by
  rw [<- Array.foldl_toList,Array.toList_zip]
 refine roundIn_of_wpIn (F:=Fence.wide) trivial ?_
 rw [hzip]
 refine wpIn_mono (hbody cxA rfl rfl hgA _ w ⟨_,hA1⟩) ?_
 rintro e a1 W1 (⟨S1,⟨ν1,h1⟩,rfl,hb⟩ | ⟨_,hf⟩)
 rotate_left
 ·exact (show False from hf).elim
 -- the record turns busy
 have hl1:W1.heap[l]?=some (.loop (rec .ready)):=by
  rw [h1.below.block l (Array.getElem?_eq_some_iff.1 hl).1 (fun hw=>by obtain ⟨o,h2,h3⟩:=tV l hw;exact nl h2 h3 rfl)];exact hl
 have hlt1:=(Array.getElem?_eq_some_iff.1 hl1).1
 have hbr:=run_beginRound (P:=cx.P) hl1 (zh _)
 rw [tT] at hbr
 refine ⟨_,hbr,?_⟩
 obtain ⟨W2,hW2⟩:∃ W2,W1.putObj l (.loop (rec .busy))=W2:=⟨_,rfl⟩
 rw [hW2]
 have hl2:W2.heap[l]?=some (.loop (rec .busy)):=by rw [<- hW2];exact World.putObj_heap_same hlt1
 have hs2:W2.heap.size=W1.heap.size:=by rw [<- hW2];simp
 have ho2:∀ k,k ≠ l -> W2.heap[k]?=W1.heap[k]?:=fun k hk=>by rw [<- hW2];exact World.putObj_heap_other hk
 have h2:BJ cxA.loose S1 a1 W2 ν1:=by
  rw [<- hW2]
  exact h1.loose.turn (grownBy_putObj' W1 l _) (fun r e=>by cases e;exact ⟨.inr trivial,_,hl1,rfl⟩)
 let yR:Cx:={ P:=cx.P,w0:=W2,n:=cx.n,Wr:=fun b=>∃ t g blk cap,S1.M t=(g,some blk) /\ ν1 t=some (b,cap),X0:=cxA.X0,loc:=BU τ μ,KC:=some l }
 have pq:∀ b,yR.Wr b -> (w.heap.size <= b \/ Own M0 (BU τ μ) b) /\ b < W1.heap.size:=fun b ⟨t,g,blk,cap,e1,e2⟩=>h1.place t g blk b cap e1 e2
 have hgB:yR.Good:=by
  refine ⟨fun b hb=>⟨?_,fun hw=>?_⟩,?_,fun g hk=>⟨(hgA.2.2 g hk).1,fun hw=>?_⟩⟩
  ·exact Nat.lt_of_lt_of_le (hgA.1 b hb).1 (by rw [hs2];exact h1.below.size)
  ·rcases (pq b hw).1 with h3 | h3
   ·have:=(hgA.1 b hb).1;exact absurd this (Nat.not_lt.2 h3)
   ·exact (hgA.1 b hb).2 h3
  ·refine (h1.laid hgA).1.keep fun g hk=>ho2 g fun e=>?_
   subst e
   obtain ⟨p,hp,e⟩:=hk
   subst e
   obtain ⟨⟨cur,t,hc,_⟩,_⟩:=(h1.laid hgA).1 p hp
   rw [hl1] at hc
   cases hc
  ·rcases (pq g hw).1 with h3 | h3
   ·have:=hgA.2.1.lt hk;exact absurd this (Nat.not_lt.2 h3)
   ·exact (hgA.2.2 g hk).2 h3
 have hB2:BJ yR S1 a1 W2 ν1:=⟨h2.blk,h2.slot,fun t g blk b cap e hm=>⟨.inr ⟨t,g,blk,cap,e,hm⟩,(h2.place t g blk b cap e hm).2⟩,h2.uniq,h2.Ei,Dg.refl _ _,h2.size,h2.defers⟩
 refine wpIn_mono (hb yR rfl rfl hgB _ W2 ⟨_,hB2⟩) ?_
 rintro e a2 W3 (⟨S2,h3,rfl,hle2⟩ | ⟨_,hf⟩)
 rotate_left
 ·exact (show False from hf).elim
 obtain ⟨ν,h4⟩:=hle2 _ _ h3
 have hwl:∀ b,yR.Wr b -> b ≠ l:=fun b hw e=>by
  subst e
  obtain ⟨t,g,blk,cap,e1,e2⟩:=hw
  have:=h1.blk t g blk e1
  unfold Bt at this
  rw [e2] at this
  obtain ⟨cur,h5,_⟩:=this
  rw [hl1] at h5
  cases h5
 have hl3:W3.heap[l]?=some (.loop (rec .busy)):=by
  rw [h4.below.block l (by show l < W2.heap.size;rw [hs2];exact hlt1) (fun hw=>hwl l hw rfl)];exact hl2
 have her:=run_endRound (P:=cx.P) none hl3
 simp only [Option.isNone_none,if_true] at her
 have hpe:({ rec .busy with state:=.ready,pending:=none }:Loop)=rec .ready:=by
  have e1:=tT .busy .ready
  have e2:=zf .ready
  rw [<- e1] at e2 ⊢
  simp only at e2
  rw [<- e2]
 rw [hpe] at her
 refine ⟨_,_,her,rfl,?_⟩
 obtain ⟨W4,uD⟩:∃ W4,W3.putObj l (.loop (rec .ready))=W4:=⟨_,rfl⟩
 rw [uD]
 have hlt3:=(Array.getElem?_eq_some_iff.1 hl3).1
 have hl4:W4.heap[l]?=some (.loop (rec .ready)):=by rw [<- uD];exact World.putObj_heap_same hlt3
 have ho4:∀ k,k ≠ l -> W4.heap[k]?=W3.heap[k]?:=fun k hk=>by rw [<- uD];exact World.putObj_heap_other hk
 have hs4:W4.heap.size=W3.heap.size:=by rw [<- uD];simp
 have h5:BJ yR.loose ⟨fun _=>.dead,N⟩ a2 W4 ν:=by
  rw [<- uD]
  exact h4.loose.turn (grownBy_putObj' W3 l _) (fun r e=>by cases e;exact ⟨.inr trivial,_,hl3,rfl⟩)
 have hb3:=h4.below
 have hb1:=h1.below
 have hbel:Dg (Own M0 (BU τ μ)) w W4:=by
  refine ⟨?_,?_,?_,?_,fun k hk hw=>?_⟩
  ·rw [<- uD];exact hb3.os.trans (by show W2.os=w.os;rw [<- hW2];exact hb1.os)
  ·rw [<- uD];exact hb3.tape.trans (by show W2.tape=w.tape;rw [<- hW2];exact hb1.tape)
  ·rw [<- uD];exact hb3.output.trans (by show W2.output=w.output;rw [<- hW2];exact hb1.output)
  ·have q1:=hb3.size
   have q2:=hb1.size
   change W2.heap.size <= W3.heap.size at q1
   change w.heap.size <= W1.heap.size at q2
   rw [hs4];omega
  ·by_cases hkl:k=l
   ·subst hkl;rw [hl4,hl]
   ·rw [ho4 k hkl,hb3.block k ?_ ?_]
    ·show W2.heap[k]?=_
     rw [ho2 k hkl]
     exact hb1.block k hk hw
    ·show k < W2.heap.size
     rw [hs2];exact Nat.lt_of_lt_of_le hk hb1.size
    ·intro hw2
     rcases (pq k hw2).1 with h6 | h6
     ·omega
     ·exact hw h6
 have hN:YK W4 (fun b=>Own N ν b \/ (XX cx S.M μ b /\ ¬ Own M0 (BU τ μ) b)) (fun b=>w.heap.size <= b \/ Own M0 (BU τ μ) b) (BU τ μ) N ν:=by
  refine ⟨h5.blk,fun t g blk b cap e hm=>⟨?_,(h5.place t g blk b cap e hm).2⟩,h5.uniq,h5.Ei⟩
  rcases (h4.place t g blk b cap e hm).1 with h6 | h6
  ·change W2.heap.size <= b at h6
   have:=hb1.size
   change w.heap.size <= W1.heap.size at this
   rw [hs2] at h6
   exact .inl (by omega)
  ·exact (pq b h6).1
 obtain ⟨KZ,h6,_⟩:=Y7 (S:=S) hg h hL hB hbel hN
 refine ⟨hle _ _ ⟨_,h6⟩,hl4,?_⟩
 have hDs:=(Array.getElem?_eq_some_iff.1 hD).1
 rw [hbel.block D hDs (fun hw=>by
  obtain ⟨o,q1,q2⟩:=tV D hw
  rw [hD] at q1;cases q1;cases q2)]
 exact hD
end
end Go.Ab
namespace Go.Ab
open Go.RowKit
section
variable {cx:Cx} {S S':St} {a:Act} {w w':World} {μ:Nat -> Option (Nat × Nat)}
def sM (cx:Cx) (rf post:Code) (K:Exit -> St -> Prop) (S:St):Prop :=
 ∀ a w,JQ cx S a w -> rf.wpIn cx.fence 0 cx.P (Exit.then (post.wpIn cx.fence 0 cx.P (Post cx K)) (Post cx K)) a w
def rfK (cx:Cx) (rf post:Code) (K:Exit -> St -> Prop):Exit -> St -> Prop
 | .normal,S=>sM cx rf post K S
 | e,S=>K e S
theorem Rl {c rf post:Code} {K:Exit -> St -> Prop} (h:EF cx c (rfK cx rf post K) S):EF cx (.seq (.seq c rf) post) K S:=by
 intro a w hs
 refine wpIn_seq (wpIn_seq (wpIn_mono (h a w hs) ?_))
 rintro e a' w' (⟨S',h1,h2⟩ | ⟨rfl,hf⟩)
 ·cases e with
  | normal=>exact h2 a' w' h1
  | _=>exact .inl ⟨S',h1,h2⟩
 ·exact .inr ⟨rfl,hf⟩
theorem gQ (hg:cx.Good) (hrn:cx.KC=none) (fF:cx.dq=[]) {fn:Func} {ds:List DV} (hfin:∀ a w,sP cx.P fn ds cx.w0 cx.Wr a w -> cx.fin a w)
  {s gf:Nat} {caps:List DV} {xs:List (List DV)} (hseq:sS cx.P gf caps xs) {F:Nat -> SV} (inv:Nat -> Nat -> Nat × Option Au) (hS:Le cx S ⟨F,inv 0⟩) (hF:F s=.dv (.fn gf [] caps))
  {ps:Array Nat} {bid:Nat} {assign body post:Code} {K:Exit -> St -> Prop} (hps:∀ p ∈ ps.toList,p < cx.n) (hpx:∀ x ∈ xs,x.length=ps.size)
  (round:∀ k x,xs[k]?=some x -> Pw cx ps.toList assign body F (inv k) x (inv (k+1)))
  (hpost:∀ I7:Cx,I7.P=cx.P -> I7.n=cx.n -> I7.Good -> EF I7 post (yD cx.P fn.results.toList ds) ⟨F,inv xs.length⟩) :
  sM cx (.block bid (.rangeFunc (.tmp s) ps assign body)) post K S:=by
 rintro a w hs
 obtain ⟨μ,h⟩:=hS a w hs
 have qG:cx.fence=Fence.wide:=by unfold Cx.fence;rw [hrn];rfl
 refine wpIn_block ?_
 rw [qG]
 refine wpIn_rangeFunc fun wN hfn=>?_
 show ∃ (l:Nat) (mark:List Deferred) (w₁:World) (d:Deferred) (w₁':World) (f:FuncId) (args:Array Value) (w₂:World),(Instr.enterLoop wN a.tmps ps assign body none).run cx.P w=_ /\ _
 -- the iterator's value
 have hv:∀ {W:World} {μ:Nat -> Option (Nat × Nat)} {M:Nat -> Nat × Option Au},BJ cx ⟨F,M⟩ a W μ -> Bn W (fun _=>False) (.fn gf [] caps) (a.tmps.getD s undef):=fun {W μ M} hh=>by
  have:=hh.slot s
  rw [show (⟨F,M⟩:St).F s=F s from rfl,hF] at this
  simp only [AJ] at this
  exact this.weaken fun _ hf=>hf.elim
 obtain ⟨vc,hvc⟩:∃ vc,a.tmps.getD s undef=.func (.func gf) #[] vc:=by
  have h1:=hv h
  generalize a.tmps.getD s undef=v at h1
  cases h1 with
  | fn _ _ _ vp vc p1 p2 p3 p4 =>
   have:vp=#[]:=by simpa using p1
   subst this
   exact ⟨vc,rfl⟩
 have A0F:∀ {W:World} {μ:Nat -> Option (Nat × Nat)} {M:Nat -> Nat × Option Au},BJ cx ⟨F,M⟩ a W μ -> Args W (fun _=>False) caps vc:=fun {W μ M} hh=>by
  have h1:=hv hh
  rw [hvc] at h1
  cases h1 with
  | fn _ _ _ vp vc p1 p2 p3 p4=>exact ⟨p2,p4⟩
 have hev:a.eval (.tmp s)=.func (.func gf) #[] vc:=hvc
 -- the two blocks of the loop
 obtain ⟨rec,hrec⟩:∃ rec:LoopState -> Loop,rec=fun st=>{ state:=st,pending:=none,fn:=wN,tmps:=a.tmps,params:=ps,assign,body,defers:=w.heap.size }:=⟨_,rfl⟩
 obtain ⟨W1,hW1⟩:∃ W1,(w.alloc (.deferred (some []))).alloc (.loop (rec .ready))=W1:=⟨_,rfl⟩
 have hL1:W1.heap[w.heap.size+1]?=some (.loop (rec .ready)):=by
  rw [<- hW1];have:=World.alloc_heap_new (w.alloc (.deferred (some []))) (.loop (rec .ready));rwa [World.size_alloc] at this
 have hD1:W1.heap[w.heap.size]?=some (.deferred (some [])):=by
  rw [<- hW1];exact (Below.heap_alloc _ _ _ (by simp)).trans (World.alloc_heap_new w _)
 have h1:BJ cx ⟨F,inv 0⟩ a W1 μ:=by
  rw [<- hW1]
  exact (h.turn (World.grownBy_alloc w _ none) (fun r e=>by cases e)).turn (World.grownBy_alloc _ _ none) (fun r e=>by cases e)
 have hw0:=h.below.size
 obtain ⟨⟨fn0,q1,q2,q3⟩,hfree,hcall⟩:=hseq
 have hen:ES cx.P gf:=⟨fn0,q1,q2,q3⟩
 refine ⟨w.heap.size+1,[{ target:=.collected w.heap.size,args:=#[] }],W1,{ target:=.fn (.func gf) vc,args:=#[.func (.yield (w.heap.size+1)) #[] #[]] },W1,gf,
  #[.func (.yield (w.heap.size+1)) #[] #[]] ++ vc,W1,?_,?_,fun _ _=>trivial,?_,fun hd=>by simp [Fence.wide] at hd,?_⟩
 ·rw [<- hW1,hrec];exact run_enterLoop_outer _ _ _ _ _
 ·simp only [resolve,hev]
  simp [go_sem]
 ·simp [invoke,go_sem,OW hen]
 ·refine (hcall (w.heap.size+1) vc (fun k W=>(∃ μ,BJ cx ⟨F,inv k⟩ a W μ) /\ W.heap[w.heap.size+1]?=some (.loop (rec .ready)) /\ W.heap[w.heap.size]?=some (.deferred (some []))) W1 ?_ ?_ ?_ ⟨⟨_,h1⟩,hL1,hD1⟩).mono ?_
  ·rintro k A B row ⟨⟨μ,hA⟩,hl,hD⟩ hgr hr
   have hr':∀ r,row=some r -> ∃ o:Obj,A.heap[r]?=some o /\ o.isWalk=true:=fun r e=>(hr r e).2
   refine ⟨⟨μ,hA.turn hgr fun r e=>?_⟩,(grownBy_keeps hgr hr' hl rfl).trans hl,(grownBy_keeps hgr hr' hD rfl).trans hD⟩
   obtain ⟨hB,o,ho,hw⟩:=hr r e
   refine ⟨.inl ?_,o,ho,Obj.not_cells_of_walk hw⟩
   rw [<- hW1] at hB
   simp at hB
   omega
  ·rintro k W ⟨⟨μ,hA⟩,_⟩
   exact A0F hA
  ·rintro k x W hx ⟨⟨μ,hA⟩,hl,hD⟩
   have hxm:=List.mem_of_getElem? hx
   have hy:=run_yield (P:=cx.P) (args:=(DV.vals x).toArray) hl (by rw [hrec];simp [Q0,hpx x hxm])
   rw [hrec] at hy
   refine ⟨wN,_,assign,body,hy,?_⟩
   refine (iY (S:=⟨F,inv k⟩) hg hA hps (hfree x hxm) (round k x hx) (l:=w.heap.size+1) (D:=w.heap.size) (rec:=rec) hl (by omega) hD (by omega) (by rw [hrec];exact fun _=>rfl) (by rw [hrec];exact fun _ _=>rfl) (by rw [hrec];exact fun _=>rfl)).mono ?_
   rintro e W' ⟨h2,h3,h4,h5⟩
   exact ⟨h2,h3,h4,h5⟩
  ·rintro e W2 ⟨⟨v,rfl⟩,⟨KZ,h2⟩,hl2,hD2⟩
   have hpn:(rec .ready).pending=none:=by rw [hrec]
   obtain ⟨W3,o3,hle,hW3⟩:∃ W3 o,(Instr.endLoop (w.heap.size+1)).run cx.P W2=.ok none W3 /\ W2.putObj (w.heap.size+1) o=W3:=by
    refine ⟨_,.loop { rec .ready with state:=.exhausted },?_,rfl⟩
    have:=run_endLoop (P:=cx.P) hl2 (by rw [hrec];simp)
    exact this.trans (congrArg (fun p=>Result.ok p _) hpn)
   refine ⟨none,W3,hle,?_⟩
   have h3:BJ cx ⟨F,inv xs.length⟩ a W3 KZ:=by
    rw [<- hW3]
    exact h2.turn (grownBy_putObj' W2 _ _) (fun r e=>by cases e;exact ⟨.inl (by omega),_,hl2,rfl⟩)
   have hD3:W3.heap[w.heap.size]?=some (.deferred (some [])):=by rw [<- hW3];exact (World.putObj_heap_other (by omega)).trans hD2
   have hDlt:=(Array.getElem?_eq_some_iff.1 hD3).1
   -- the frame behind the loop
   let uG:Cx:={ P:=cx.P,w0:=W3,n:=cx.n,Wr:=fun b=>∃ t g blk cap,inv xs.length t=(g,some blk) /\ KZ t=some (b,cap),X0:=cx.X0,loc:=cx.loc,dq:=[{ target:=.collected w.heap.size,args:=#[] }] }
   have hpl:∀ b,uG.Wr b -> (cx.w0.heap.size <= b \/ cx.Wr b) /\ b < W3.heap.size:=fun b ⟨t,g,blk,cap,e1,e2⟩=>h3.place t g blk b cap e1 e2
   have hwD:∀ b,uG.Wr b -> b ≠ w.heap.size:=fun b ⟨t,g,blk,cap,e1,e2⟩ e=>by
    subst e
    have:=h3.blk t g blk e1
    unfold Bt at this
    rw [e2] at this
    obtain ⟨cur,h5,_⟩:=this
    rw [hD3] at h5
    cases h5
   have hg2:uG.Good:=by
    refine ⟨fun b hb=>⟨Nat.lt_of_lt_of_le (hg.1 b hb).1 h3.below.size,fun hw=>?_⟩,(h3.laid hg).1,fun g hk=>⟨(hg.2.2 g hk).1,fun hw=>?_⟩⟩
    ·rcases (hpl b hw).1 with h4 | h4
     ·have:=(hg.1 b hb).1;omega
     ·exact (hg.1 b hb).2 h4
    ·rcases (hpl g hw).1 with h4 | h4
     ·have:=hg.2.1.lt hk;omega
     ·exact (hg.2.2 g hk).2 h4
   have h4:BJ uG ⟨F,inv xs.length⟩ { a with defers:=[{ target:=.collected w.heap.size,args:=#[] }] } W3 KZ :=
    ⟨h3.blk,h3.slot,fun t g blk b cap e hm=>⟨.inr ⟨t,g,blk,cap,e,hm⟩,(h3.place t g blk b cap e hm).2⟩,h3.uniq,h3.Ei,Dg.refl _ _,h3.size,rfl⟩
   have hda:a.defers=[]:=h3.defers.trans fF
   show Code.wpIn Fence.wide 0 cx.P post (Post cx K) { a with defers:=[{ target:=.collected w.heap.size,args:=#[] }] ++ a.defers } W3
   rw [hda]
   refine wpIn_mono (hpost uG rfl rfl hg2 _ W3 ⟨_,h4⟩) ?_
   rintro e a' w' (⟨S',⟨μ',h5⟩,rfl,hfr,hres⟩ | ⟨_,hf⟩)
   rotate_left
   ·exact (show False from hf).elim
   refine .inr ⟨rfl,hfin _ _ ?_⟩
   have hDw:w'.heap[w.heap.size]?=some (.deferred (some [])):=by
    rw [h5.below.block w.heap.size hDlt (fun hw=>hwD _ hw rfl)];exact hD3
   have h6:BJ uG.loose S' a' (w'.putObj w.heap.size (.deferred none)) μ':=h5.loose.turn (grownBy_putObj' w' _ _) (fun r e=>by cases e;exact ⟨.inr trivial,_,hDw,rfl⟩)
   obtain ⟨us,u1,u2⟩:=KF (fn:=fn) h6 hres
   refine ⟨w.heap.size,us,h5.defers,hDw,by omega,?_,u1,by simpa using u2.length,fun j d u hd hu=>?_⟩
   ·refine h3.below.then h5.below fun i hi hw hw2=>?_
    rcases (hpl i hw2).1 with h7 | h7
    ·omega
    ·exact hw h7
   ·have:=u2.get j (.dv d) u (by simp [hd]) hu
    simp only [AJ] at this
    refine iw this ?_ _ _
    have:∀ (cs:List DV) (j:Nat) c,DV.frees cs=true -> cs[j]?=some c -> c.free=true:=by
     intro cs
     induction cs with
     | nil=>intro j c _ h;simp at h
     | cons c0 cs ih =>
      intro j c h hj
      simp only [DV.frees,Bool.and_eq_true] at h
      cases j with
      | zero=>simp only [List.getElem?_cons_zero,Option.some.injEq] at hj;subst hj;exact h.1
      | succ j=>exact ih j c h.2 (by simpa using hj)
    exact this ds j d hfr hd
theorem dL {u:Value}:valOf [u]=u:=by simp [valOf]
theorem Q6 {us:List Value} (h:us.length ≠ 1):valOf us=.tuple us.toArray:=by
 unfold valOf
 rw [dif_neg (by simpa using h)]
theorem Og {B:Nat} {Y:Nat -> Prop}:∀ (ds:List DV) (us:List Value),us.length=ds.length -> (∀ (j:Nat) d u,ds[j]?=some d -> us[j]?=some u -> Bn w (fun _=>True) d u) -> Dc B w Y (ds.map .dv) us (ds.map fun _=>none)
 | [],[],_,_=>trivial
 | [],_ :: _,h,_=>by simp at h
 | _ :: _,[],h,_=>by simp at h
 | d :: ds,u :: us,hl,h=>⟨⟨rfl,(h 0 d u rfl rfl).weaken fun _ _=>trivial⟩,Og ds us (by simpa using hl) fun j d' u' hd hu=>h (j+1) d' u' (by simpa using hd) (by simpa using hu)⟩
theorem Yk {B:Nat} {Y:Nat -> Prop} (ds:List DV) (us:List Value) (hl:us.length=ds.length) (h:∀ (j:Nat) d u,ds[j]?=some d -> us[j]?=some u -> Bn w (fun _=>True) d u):Jq B w Y (WM (ds.map .dv)) (valOf us):=by
 match ds,us,hl,h with
 | [d],[u],_,h =>
  rw [dL]
  exact ⟨none,rfl,(h 0 d u rfl rfl).weaken fun _ _=>trivial⟩
 | [],[],_,h=>
  rw [Q6 (by simp)]
  exact ⟨[],[],rfl,trivial,.nil⟩
 | d :: d' :: ds,u :: u' :: us,hl,h =>
  rw [Q6 (by simp)]
  refine ⟨u :: u' :: us,(d :: d' :: ds).map fun _=>none,rfl,Og (d :: d' :: ds) _ hl h,?_⟩
  rw [List.pairwise_map]
  have pw:∀ l:List DV,l.Pairwise fun (_ _:DV)=>∀ (b c c':Nat),(none:Option (Nat × Nat))=some (b,c) -> (none:Option (Nat × Nat)) ≠ some (b,c'):=by
   intro l
   induction l with
   | nil=>exact .nil
   | cons x l ih=>exact .cons (fun _ _ b c c' hx=>by cases hx) ih
  exact pw _
 | d :: ds,[],hl,_=>simp at hl
 | [d],_ :: _ :: _,hl,_=>simp at hl
 | _ :: _ :: _,[_],hl,_=>simp at hl
 | [],_ :: _,hl,_=>simp at hl
theorem gL {P:Program} {f:FuncId} {fn:Func} {c:Code} {ds0 ds:List DV} (hf:P.funcs[f]?=some fn) (hb:fn.body=some c) (hname:(fn.name == "runtime.NumGoroutine")=false) (hn:ds0.length <= fn.ntmps)
  (h:∀ cx:Cx,cx.P=P -> cx.n=fn.ntmps -> cx.Good -> cx.KC=none -> cx.dq=[] -> (∀ a w,sP cx.P fn ds cx.w0 cx.Wr a w -> cx.fin a w) -> EF cx c (PU P Scalar fn.results.toList (WM (ds.map .dv))) ⟨Gb ds0,fun _=>(0,none)⟩):AR P f ds0 (WM (ds.map .dv)):=by
 refine ⟨H9 hf hb hname,fun w vs hL hA=>callsIn_wide.1 (callsIn_of_wp_marks (F:=Fence.wide) (n:=0) hf hb trivial ?_)⟩
 have hs0:=O1 (P:=P) hA hn
 let cx:Cx:={ P:=P,w0:=w,n:=fn.ntmps,Wr:=fun _=>False,X0:=fun _=>False,fin:=sP P fn ds w fun _=>False }
 have hs:BJ cx ⟨Gb ds0,fun _=>(0,none)⟩ { tmps:=vs ++ Array.replicate (fn.ntmps - vs.size) undef,defers:=[] } w (fun _=>none) :=
  ⟨hs0.blk,hs0.slot,hs0.place,hs0.uniq,hs0.Ei,hs0.below,hs0.size,hs0.defers⟩
 refine wpIn_mono (h cx rfl rfl ⟨fun b hb=>hb.elim,hL,fun g _=>⟨fun h=>h,fun h=>h⟩⟩ rfl rfl (fun _ _ hf=>hf) _ w ⟨_,hs⟩) ?_
 rintro e a' w' (⟨S',⟨μ,h1⟩,he,ss,rs,e1,e2,e3,e4⟩ | ⟨rfl,hf⟩)
 ·rw [e4]
  obtain ⟨v,v1,v2⟩:=VI (fn:=fn) (Y:=fun b=>b < w.heap.size) h1 (fun b hb=>hb) (fun b hb=>hb) (fun d v hd hr=>hd.rep hr) e1 e2 e3
  have hbl:Below w.heap.size w w':=⟨h1.below.os,h1.below.tape,h1.below.output,h1.below.size,fun k hk=>h1.below.block k hk (fun hf=>hf)⟩
  have hd:a'.defers=[]:=h1.defers
  rcases he with rfl | rfl<;>(show LeavesInM Fence.wide 0 P fn a'.tmps _ a'.defers .returning w';rw [hd];exact ⟨v,v1,v,rfl,hbl,v2⟩)
 ·obtain ⟨D,us,hd,hD,hwD,hbel,hres,hlen,hus⟩:=hf
  show LeavesInM Fence.wide 0 P fn a'.tmps _ a'.defers .returning w'
  rw [hd]
  have hDlt:=(Array.getElem?_eq_some_iff.1 hD).1
  refine ⟨by simp,.inl ⟨D,_,rfl,run_takeDeferred hD,valOf us,hres,valOf us,rfl,?_,?_⟩⟩
  ·refine ⟨hbel.os,hbel.tape,hbel.output,by rw [World.putObj_size];exact hbel.size,fun k hk=>?_⟩
   rw [World.putObj_heap_other (by omega)]
   exact hbel.block k hk fun hf=>hf
  ·refine Yk ds us hlen fun j d u hd' hu=>?_
   have hc:∀ a v,w'.cell? a=some v -> (w'.putObj D (.deferred none)).cell? a=some v:=fun a v h1=>cell_kept h1 (grownBy_putObj' w' D _) (fun r e=>by cases e;exact ⟨_,hD,rfl⟩)
   exact (hus j d u hd' hu).turn (by simp) hc
end
end Go.Ab
namespace Go.Ab
open Go.RowKit
def andn (a b:Nat):Nat:=a ^^^ (a &&& b)
theorem Rq {a b:Nat} (ha:a < 68719476736):a &&& b < 68719476736:=Nat.lt_of_le_of_lt Nat.and_le_left ha
theorem Uu {a b:Nat} (ha:a < 68719476736) (hb:b < 68719476736):a ||| b < 68719476736:=Nat.or_lt_two_pow (n:=36) ha hb
theorem Vd {a b:Nat} (ha:a < 68719476736):andn a b < 68719476736:=Nat.xor_lt_two_pow (n:=36) ha (Rq ha)
theorem Oc {n:Nat} (h:n <= 35):2 ^ n < 68719476736:=Nat.pow_lt_pow_of_lt (a:=2) (n:=n) (m:=36) (by decide) (by omega)
theorem bv_and {a b:Nat} (ha:a < 18446744073709551616) (hb:b < 18446744073709551616):(BitVec.ofInt 64 (a:Int) &&& BitVec.ofInt 64 (b:Int)).toNat=a &&& b:=by
 rw [BitVec.toNat_and,BitVec.toNat_ofInt,BitVec.toNat_ofInt]
 congr 1<;>omega
theorem A1D {a b:Nat} (ha:a < 18446744073709551616) (hb:b < 18446744073709551616):(BitVec.ofInt 64 (a:Int) ||| BitVec.ofInt 64 (b:Int)).toNat=a ||| b:=by
 rw [BitVec.toNat_or,BitVec.toNat_ofInt,BitVec.toNat_ofInt]
 congr 1<;>omega
section
variable {P:Program} {S:St} {x y:Operand} {t e by' tg g o:Nat} {ob:Option Au}
theorem Qt {a b:Nat} {t2:TypeId} (hx:S.ev x=.dv (.int .i64 (a:Int)):=by (simp only [St.look,St.ev,lk,AA,AO,Ah,Ag,reduceIte,Nat.reduceAdd,Nat.reduceEqDiff,Nat.reduceMul]<;>rfl)) (hy:S.ev y=.dv (.int .i64 (b:Int)):=by (simp only [St.look,St.ev,lk,AA,AO,Ah,Ag,reduceIte,Nat.reduceAdd,Nat.reduceEqDiff,Nat.reduceMul]<;>rfl)) (ha:a < 68719476736:=by (first | assumption | omega | decide | (repeat' (first | assumption | exact Oc (by omega) | apply Uu | apply Rq | apply Vd | omega | decide)))) (hb:b < 68719476736:=by (first | assumption | omega | decide | (repeat' (first | assumption | exact Oc (by omega) | apply Uu | apply Rq | apply Vd | omega | decide)))):AP P S (.binOp .and t x y t2)=some (.val (.dv (.int .i64 ((a &&& b:Nat):Int)))):=by
 simp only [AP,Dj,hx,hy,DU,if_true,Option.map_some]
 have e':((BitVec.ofInt IntKind.i64.bits (a:Int) &&& BitVec.ofInt IntKind.i64.bits (b:Int)).toNat:Int)=((a &&& b:Nat):Int):=congrArg Int.ofNat (bv_and (by omega) (by omega))
 have:=Rq (b:=b) ha
 rw [e',wrap_i64 (by omega) (by omega)]
theorem vW {a b:Nat} {t2:TypeId} (hx:S.ev x=.dv (.int .i64 (a:Int)):=by (simp only [St.look,St.ev,lk,AA,AO,Ah,Ag,reduceIte,Nat.reduceAdd,Nat.reduceEqDiff,Nat.reduceMul]<;>rfl)) (hy:S.ev y=.dv (.int .i64 (b:Int)):=by (simp only [St.look,St.ev,lk,AA,AO,Ah,Ag,reduceIte,Nat.reduceAdd,Nat.reduceEqDiff,Nat.reduceMul]<;>rfl)) (ha:a < 9223372036854775808:=by (first | omega | (simp only [Int.toNat_natCast,List.length_map,List.length_append,List.length_cons,List.length_nil,List.length_take,List.length_drop,List.length_set,List.length_replicate,Nat.zero_add,Nat.mul_one]<;>omega) | (simp<;>omega))) (hb:b < 9223372036854775808:=by (first | omega | (simp only [Int.toNat_natCast,List.length_map,List.length_append,List.length_cons,List.length_nil,List.length_take,List.length_drop,List.length_set,List.length_replicate,Nat.zero_add,Nat.mul_one]<;>omega) | (simp<;>omega))):AP P S (.binOp .and t x y t2)=some (.val (.dv (.int .i64 ((a &&& b:Nat):Int)))):=by
 simp only [AP,Dj,hx,hy,DU,if_true,Option.map_some]
 have e':((BitVec.ofInt IntKind.i64.bits (a:Int) &&& BitVec.ofInt IntKind.i64.bits (b:Int)).toNat:Int)=((a &&& b:Nat):Int):=congrArg Int.ofNat (bv_and (by omega) (by omega))
 have:a &&& b <= a:=Nat.and_le_left
 rw [e',wrap_i64 (by omega) (by omega)]
theorem D9 {a b:Nat} {t2:TypeId} (hx:S.ev x=.dv (.int .i64 (a:Int)):=by (simp only [St.look,St.ev,lk,AA,AO,Ah,Ag,reduceIte,Nat.reduceAdd,Nat.reduceEqDiff,Nat.reduceMul]<;>rfl)) (hy:S.ev y=.dv (.int .i64 (b:Int)):=by (simp only [St.look,St.ev,lk,AA,AO,Ah,Ag,reduceIte,Nat.reduceAdd,Nat.reduceEqDiff,Nat.reduceMul]<;>rfl)) (ha:a < 68719476736:=by (first | assumption | omega | decide | (repeat' (first | assumption | exact Oc (by omega) | apply Uu | apply Rq | apply Vd | omega | decide)))) (hb:b < 68719476736:=by (first | assumption | omega | decide | (repeat' (first | assumption | exact Oc (by omega) | apply Uu | apply Rq | apply Vd | omega | decide)))):AP P S (.binOp .or t x y t2)=some (.val (.dv (.int .i64 ((a ||| b:Nat):Int)))):=by
 simp only [AP,Dj,hx,hy,DU,if_true,Option.map_some]
 have e':((BitVec.ofInt IntKind.i64.bits (a:Int) ||| BitVec.ofInt IntKind.i64.bits (b:Int)).toNat:Int)=((a ||| b:Nat):Int):=congrArg Int.ofNat (A1D (by omega) (by omega))
 have:=Uu ha hb
 rw [e',wrap_i64 (by omega) (by omega)]
theorem EZ {k:IntKind} {z:Int} (b:Nat) {t2:TypeId} (hx:S.ev x=.dv (.int .i64 1):=by (simp only [St.look,St.ev,lk,AA,AO,Ah,Ag,reduceIte,Nat.reduceAdd,Nat.reduceEqDiff,Nat.reduceMul]<;>rfl)) (hy:S.ev y=.dv (.int k z):=by (simp only [St.look,St.ev,lk,AA,AO,Ah,Ag,reduceIte,Nat.reduceAdd,Nat.reduceEqDiff,Nat.reduceMul]<;>rfl)) (hz:z=(b:Int):=by (first | rfl | omega)) (hb:b <= 62:=by (first | omega | (simp only [Int.toNat_natCast,List.length_map,List.length_append,List.length_cons,List.length_nil,List.length_take,List.length_drop,List.length_set,List.length_replicate,Nat.zero_add,Nat.mul_one]<;>omega) | (simp<;>omega))):AP P S (.binOp .shl t x y t2)=some (.val (.dv (.int .i64 ((2 ^ b:Nat):Int)))):=by
 subst hz
 have e:min b 64=b:=by omega
 simp only [AP,Dj,hx,hy,En]
 rw [if_neg (by omega)]
 have h2:2 ^ b <= 4611686018427387904:=(Nat.pow_le_pow_right (by decide) hb:2 ^ b <= 2 ^ 62)
 have h3:(1:Int) * 2 ^ b=((2 ^ b:Nat):Int):=by rw [Int.one_mul];norm_cast
 simp only [Int.toNat_natCast,IntKind.bits,e,Option.map_some]
 rw [h3]
 generalize 2 ^ b=q at *
 rw [wrap_i64 (by omega) (by omega)]
theorem vQ {k:IntKind} {a:Nat} {z:Int} (b:Nat) {t2:TypeId} (hx:S.ev x=.dv (.int .i64 (a:Int)):=by (simp only [St.look,St.ev,lk,AA,AO,Ah,Ag,reduceIte,Nat.reduceAdd,Nat.reduceEqDiff,Nat.reduceMul]<;>rfl)) (hy:S.ev y=.dv (.int k z):=by (simp only [St.look,St.ev,lk,AA,AO,Ah,Ag,reduceIte,Nat.reduceAdd,Nat.reduceEqDiff,Nat.reduceMul]<;>rfl)) (hz:z=(b:Int):=by (first | rfl | omega)) (hb:b <= 62:=by (first | omega | (simp only [Int.toNat_natCast,List.length_map,List.length_append,List.length_cons,List.length_nil,List.length_take,List.length_drop,List.length_set,List.length_replicate,Nat.zero_add,Nat.mul_one]<;>omega) | (simp<;>omega))):AP P S (.binOp .shr t x y t2)=some (.val (.dv (.int .i64 ((a / 2 ^ b:Nat):Int)))):=by
 subst hz
 exact zO hx hy hb
theorem Ka {n:Int} (h1:0 <= n) (h2:n < 18446744073709551616):IntKind.u64.wrap n=n:=by
 have e:IntKind.u64.wrap n=n % 18446744073709551616:=by
  simp only [IntKind.wrap,IntKind.bits,IntKind.signed]
  rfl
 rw [e];omega
theorem Qs {a b:Nat} {t2:TypeId} (hx:S.ev x=.dv (.int .u64 (a:Int)):=by (simp only [St.look,St.ev,lk,AA,AO,Ah,Ag,reduceIte,Nat.reduceAdd,Nat.reduceEqDiff,Nat.reduceMul]<;>rfl)) (hy:S.ev y=.dv (.int .u64 (b:Int)):=by (simp only [St.look,St.ev,lk,AA,AO,Ah,Ag,reduceIte,Nat.reduceAdd,Nat.reduceEqDiff,Nat.reduceMul]<;>rfl)) (ha:a < 18446744073709551616:=by (first | omega | (simp only [Int.toNat_natCast,List.length_map,List.length_append,List.length_cons,List.length_nil,List.length_take,List.length_drop,List.length_set,List.length_replicate,Nat.zero_add,Nat.mul_one]<;>omega) | (simp<;>omega))) (hb:b < 18446744073709551616:=by (first | omega | (simp only [Int.toNat_natCast,List.length_map,List.length_append,List.length_cons,List.length_nil,List.length_take,List.length_drop,List.length_set,List.length_replicate,Nat.zero_add,Nat.mul_one]<;>omega) | (simp<;>omega))):AP P S (.binOp .and t x y t2)=some (.val (.dv (.int .u64 ((a &&& b:Nat):Int)))):=by
 simp only [AP,Dj,hx,hy,DU,if_true,Option.map_some]
 have e':((BitVec.ofInt IntKind.u64.bits (a:Int) &&& BitVec.ofInt IntKind.u64.bits (b:Int)).toNat:Int)=((a &&& b:Nat):Int):=congrArg Int.ofNat (bv_and (by omega) (by omega))
 have:a &&& b <= a:=Nat.and_le_left
 rw [e',Ka (by omega) (by omega)]
theorem OD {a b:Nat} {t2:TypeId} (hx:S.ev x=.dv (.int .u64 (a:Int)):=by (simp only [St.look,St.ev,lk,AA,AO,Ah,Ag,reduceIte,Nat.reduceAdd,Nat.reduceEqDiff,Nat.reduceMul]<;>rfl)) (hy:S.ev y=.dv (.int .u64 (b:Int)):=by (simp only [St.look,St.ev,lk,AA,AO,Ah,Ag,reduceIte,Nat.reduceAdd,Nat.reduceEqDiff,Nat.reduceMul]<;>rfl)) (h:a+b < 18446744073709551616:=by (first | omega | (simp only [Int.toNat_natCast,List.length_map,List.length_append,List.length_cons,List.length_nil,List.length_take,List.length_drop,List.length_set,List.length_replicate,Nat.zero_add,Nat.mul_one]<;>omega) | (simp<;>omega))):AP P S (.binOp .add t x y t2)=some (.val (.dv (.int .u64 ((a+b:Nat):Int)))):=by
 simp only [AP,Dj,hx,hy,DU,if_true,Option.map_some]
 rw [show (a:Int)+(b:Int)=((a+b:Nat):Int) from by omega,Ka (by omega) (by omega)]
theorem OC {a b:Nat} {k:IntKind} {t2:TypeId} (hx:S.ev x=.dv (.int .u64 (a:Int)):=by (simp only [St.look,St.ev,lk,AA,AO,Ah,Ag,reduceIte,Nat.reduceAdd,Nat.reduceEqDiff,Nat.reduceMul]<;>rfl)) (hy:S.ev y=.dv (.int k (b:Int)):=by (simp only [St.look,St.ev,lk,AA,AO,Ah,Ag,reduceIte,Nat.reduceAdd,Nat.reduceEqDiff,Nat.reduceMul]<;>rfl)) (hb:b <= 63:=by (first | omega | (simp only [Int.toNat_natCast,List.length_map,List.length_append,List.length_cons,List.length_nil,List.length_take,List.length_drop,List.length_set,List.length_replicate,Nat.zero_add,Nat.mul_one]<;>omega) | (simp<;>omega))):AP P S (.binOp .shr t x y t2)=some (.val (.dv (.int .u64 ((a / 2 ^ b:Nat):Int)))):=by
 have e:min b 64=b:=by omega
 simp only [AP,Dj,hx,hy,En]
 rw [if_neg (by omega)]
 simp only [Int.toNat_natCast,IntKind.bits,e,Option.map_some]
 have:((a:Int).fdiv (2 ^ b))=((a / 2 ^ b:Nat):Int):=by
  rw [Int.fdiv_eq_ediv_of_nonneg _ (by exact_mod_cast Nat.zero_le _)]
  push_cast
  rfl
 rw [this]
end
end Go.Ab
set_option linter.unusedSimpArgs false
namespace Go.Ab
open Go.RowKit
section
variable {cx:Cx} {P:Program} {N:Nat} {ops:Array Oper} {rest:List Oper} {l:List (Nat × SV)} {m:List (Nat × Nat × Option Au)} {K:St -> Prop}
 {d:Nat} {ty:TypeId} {p:String} {af:Array Edge} {gd:Option (Nat × Bool)}
end
end Go.Ab
set_option linter.unusedSimpArgs false
namespace Go.Ab
open Go.RowKit
section
variable {P:Program} {S:St} {x y:Operand} {t src dst e:TypeId} {k:IntKind}
theorem zP {st:ByteArray} {i:Nat} {b:UInt8} (hs:F5 P t=true) (hb:st.data.toList[i]?=some b)
  (hx:S.ev x=.dv (.str st):=by (simp only [St.look,St.ev,lk,AA,AO,Ah,Ag,reduceIte,Nat.reduceAdd,Nat.reduceEqDiff,Nat.reduceMul]<;>rfl)) (hy:S.ev y=.dv (.int k (i:Int)):=by (simp only [St.look,St.ev,lk,AA,AO,Ah,Ag,reduceIte,Nat.reduceAdd,Nat.reduceEqDiff,Nat.reduceMul]<;>rfl)) :
  AP P S (.index t x y)=some (.val (.dv (.int .u8 b.toNat))):=by
 simp only [AP,PW,hx,hy]
 rw [if_pos ⟨hs,Int.natCast_nonneg i⟩,Int.toNat_natCast,hb];rfl
end
section
variable {cx:Cx} {P:Program} {N:Nat} {ops:Array Oper} {rest:List Oper} {l:List (Nat × SV)} {m:List (Nat × Nat × Option Au)} {K:St -> Prop}
 {d:Nat} {ty:TypeId} {p:String} {af:Array Edge} {gd:Option (Nat × Bool)}
end
end Go.Ab
namespace Go.Ab
open Go.RowKit
abbrev Tx:=List UInt8
abbrev bs (l:Tx):ByteArray:=⟨l.toArray⟩
theorem MF {s:ByteArray} {l:Tx} (h:s.data.toList=l):s=bs l:=by
 subst h;cases s;rfl
theorem Pt (s:ByteArray):bs s.data.toList=s:=(MF rfl).symm
theorem xU {a b:Tx}:bs a=bs b ↔ a=b:=⟨fun h=>by have:=congrArg (fun s:ByteArray=>s.data.toList) h;simpa using this,fun h=>by rw [h]⟩
theorem xW (a b:Tx):(bs a ++ bs b:ByteArray)=bs (a ++ b):=MF (by simp [bs])
theorem FD (a:Tx):(bs a).size=a.length:=by simp [bs,ByteArray.size]
theorem U4 (a:Tx):(bs a).toList=a:=by rw [ByteArray.toList_eq]
theorem xV (a:Tx) (i j:Nat):(bs a).extract i j=bs ((a.take j).drop i):=MF (by simp [bs,ByteArray.data_extract,List.extract_eq_drop_take,List.drop_take])
section
variable {P:Program} {S:St} {x y:Operand} {t src dst e t2:TypeId} {k:IntKind} {ob:Option Au}
theorem Wq {a b:Tx} (hx:S.ev x=.dv (.str (bs a)):=by (simp only [St.look,St.ev,lk,AA,AO,Ah,Ag,reduceIte,Nat.reduceAdd,Nat.reduceEqDiff,Nat.reduceMul]<;>rfl)) (hy:S.ev y=.dv (.str (bs b)):=by (simp only [St.look,St.ev,lk,AA,AO,Ah,Ag,reduceIte,Nat.reduceAdd,Nat.reduceEqDiff,Nat.reduceMul]<;>rfl)) (h:(a.length:Int)+b.length <= 9223372036854775807:=by (first | omega | (simp<;>omega))) :
  AP P S (.binOp .add t x y t2)=some (.val (.dv (.str (bs (a ++ b))))):=by
 simp only [AP,Dj,hx,hy,Ip,Option.map_some]
 rw [if_neg (by rw [FD,FD];omega),xW];rfl
theorem Qq {a b:Tx} (hx:S.ev x=.dv (.str (bs a)):=by (simp only [St.look,St.ev,lk,AA,AO,Ah,Ag,reduceIte,Nat.reduceAdd,Nat.reduceEqDiff,Nat.reduceMul]<;>rfl)) (hy:S.ev y=.dv (.str (bs b)):=by (simp only [St.look,St.ev,lk,AA,AO,Ah,Ag,reduceIte,Nat.reduceAdd,Nat.reduceEqDiff,Nat.reduceMul]<;>rfl)):AP P S (.binOp .eql t x y t2)=some (.val (.dv (.bool (a == b)))):=by
 simp only [AP,Dj,hx,hy,Ip,Option.map_some,U4]
theorem DY {a b:Tx} (hx:S.ev x=.dv (.str (bs a)):=by (simp only [St.look,St.ev,lk,AA,AO,Ah,Ag,reduceIte,Nat.reduceAdd,Nat.reduceEqDiff,Nat.reduceMul]<;>rfl)) (hy:S.ev y=.dv (.str (bs b)):=by (simp only [St.look,St.ev,lk,AA,AO,Ah,Ag,reduceIte,Nat.reduceAdd,Nat.reduceEqDiff,Nat.reduceMul]<;>rfl)):AP P S (.binOp .neq t x y t2)=some (.val (.dv (.bool (!(a == b))))):=by
 simp only [AP,Dj,hx,hy,Ip,Option.map_some,U4]
theorem EH {a:Tx} (hl:F5 P t=true) (hx:S.look x=(.dv (.str (bs a)),ob):=by (simp only [St.look,St.ev,lk,AA,AO,Ah,Ag,reduceIte,Nat.reduceAdd,Nat.reduceEqDiff,Nat.reduceMul]<;>rfl)):AP P S (.call { callee:=.builtin .len,args:=#[x],argTypes:=#[t] })=some (.val (.dv (.int .i64 (a.length:Int)))):=by
 have:=vR (P:=P) hl hx
 rwa [FD] at this
theorem jW {a:Tx} (i:Nat) {b:UInt8} (hs:F5 P t=true) (hb:a[i]?=some b) (hx:S.ev x=.dv (.str (bs a)):=by (simp only [St.look,St.ev,lk,AA,AO,Ah,Ag,reduceIte,Nat.reduceAdd,Nat.reduceEqDiff,Nat.reduceMul]<;>rfl)) (hy:S.ev y=.dv (.int k (i:Int)):=by (simp only [St.look,St.ev,lk,AA,AO,Ah,Ag,reduceIte,Nat.reduceAdd,Nat.reduceEqDiff,Nat.reduceMul]<;>rfl)):AP P S (.index t x y)=some (.val (.dv (.int .u8 b.toNat))):=zP hs hb hx hy
theorem Fz {a:Tx} {lo hi:Option Operand} (i j:Nat) (hs:F5 P t=true) (hij:i <= j) (hj:j <= a.length) (hx:S.look x=(.dv (.str (bs a)),ob):=by (simp only [St.look,St.ev,lk,AA,AO,Ah,Ag,reduceIte,Nat.reduceAdd,Nat.reduceEqDiff,Nat.reduceMul]<;>rfl))
  (ha:numOf 0 (lo.map S.ev)=some (i:Int):=by (simp only [numOf,Option.map_some,Option.map_none,St.look,St.ev,lk,AA,AO,Ah,Ag,reduceIte,Nat.reduceAdd,Nat.reduceEqDiff,Nat.reduceMul]<;>rfl))
  (hb:numOf (bs a).size (hi.map S.ev)=some (j:Int):=by (simp only [numOf,Option.map_some,Option.map_none,FD,St.look,St.ev,lk,AA,AO,Ah,Ag,reduceIte,Nat.reduceAdd,Nat.reduceEqDiff,Nat.reduceMul]<;>rfl)) :
  AP P S (.slice t x lo hi none)=some (.val (.dv (.str (bs ((a.take j).drop i))))):=by
 rw [<- xV]
 exact vT hs hx ha hb (by omega) (by omega) (by rw [FD];omega) rfl
end
end Go.Ab
