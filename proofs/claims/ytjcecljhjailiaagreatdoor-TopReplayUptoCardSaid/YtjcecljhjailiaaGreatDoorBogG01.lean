/- Ab0, Ab1, Ab2, Ab3, Ab4, Ab5. -/
import Derived.WalkKit
import Derived.WalkSpells
import Derived.WalkLawsBesides
namespace Go.Ab
def Lc:List Int:=[1,10,100,1000,10000,100000,1000000,10000000,100000000,1000000000,10000000000,100000000000,1000000000000,10000000000000,100000000000000,1000000000000000,10000000000000000,100000000000000000,1000000000000000000,10000000000000000000]
def FC:List (Nat × List (Value -> Prop)):=[(0,[fun v=>v=.iface 210 (.agg #[.pointer (some ⟨9,103,none⟩)])]),(1,[fun v=>∃ m,v=.int .i64 m]),(2,Lc.map fun n v=>v=Value.int .u64 n),(3,[fun v=>v=.nilIface \/ ∃ t p,v=.iface t p]),(4,[fun v=>v=.nilIface \/ ∃ t p,v=.iface t p])]
end Go.Ab
namespace Go.Ab
open Go.RowKit
inductive DV where
 | bool (b:Bool)
 | int (k:IntKind) (n:Int)
 | str (s:ByteArray)
 | list (l:List DV)
 | agg (cs:List DV)
 | Cy (cs:List DV)
 | CU
 | fn (f:FuncId) (pre caps:List DV)
 | Hw
 | iface (t:TypeId) (d:DV)
 | nilIface
 deriving Inhabited
def DV.cells:DV -> List DV
 | .agg cs=>cs
 | d=>[d]
def flat (l:List DV):List DV:=l.flatMap DV.cells
inductive SV where
 | dead
 | dv (d:DV)
 | Bh
 | emp (b:Bool)
 | sl (t g off n:Nat)
 | pt (t g off:Nat)
 | agg (cs:List SV)
 | Em (cs:List SV)
 deriving Inhabited
structure Au where
 cells:List SV
 C8:Nat
 elem:TypeId
 st:Nat
 row:Bool
def ED (s:Nat):Prop:=s=0 \/ 3 <= s
instance (s:Nat):Decidable (ED s):=by unfold ED;infer_instance
theorem zL:ED 0:=.inl rfl
structure St where
 F:Nat -> SV
 M:Nat -> Nat × Option Au
def upd {α:Type} (f:Nat -> α) (i:Nat) (v:α):Nat -> α:=fun j=>if j=i then v else f j
theorem upd_same {α:Type} (f:Nat -> α) (i:Nat) (v:α):upd f i v i=v:=by simp [upd]
theorem upd_ne {α:Type} (f:Nat -> α) (i j:Nat) (v:α) (h:j ≠ i):upd f i v j=f j:=by simp [upd,h]
inductive Bn (w:World) (X:Nat -> Prop):DV -> Value -> Prop
 | bool (b:Bool):Bn w X (.bool b) (.bool b)
 | int (k:IntKind) (n:Int):Bn w X (.int k n) (.int k n)
 | str (s:ByteArray):Bn w X (.str s) (.string s)
 | CU:Bn w X .CU (.pointer none)
 | Hw:Bn w X .Hw .nilFunc
 | nilIface:Bn w X .nilIface .nilIface
 | iface (t:TypeId) (d:DV) (v:Value):Bn w X d v -> Bn w X (.iface t d) (.iface t v)
 | Cq (a:Option Addr) (cap:Nat):Bn w X (.list []) (.slice a 0 cap)
 | list (l:List DV) (b off cap C8:Nat) (u:Nat -> Value):¬ X b -> b < w.heap.size -> l.length <= cap -> (∀ d ∈ l,d.cells.length=C8) →
   (∀ j c,(flat l)[j]?=some c -> w.cell? ⟨b,off+j,none⟩=some (u j)) →
   (∀ j c,(flat l)[j]?=some c -> Bn w X c (u j)) -> Bn w X (.list l) (.slice (some ⟨b,off,none⟩) l.length cap)
 | agg (cs:List DV) (vs:Array Value):vs.size=cs.length →
   (∀ j c,cs[j]?=some c -> Bn w X c (vs.getD j undef)) -> Bn w X (.agg cs) (.agg vs)
 | Cy (cs:List DV) (b off:Nat) (u:Nat -> Value):¬ X b -> b < w.heap.size →
   (∀ j c,cs[j]?=some c -> w.cell? ⟨b,off+j,none⟩=some (u j)) →
   (∀ j c,cs[j]?=some c -> Bn w X c (u j)) -> Bn w X (.Cy cs) (.pointer (some ⟨b,off,none⟩))
 | fn (f:FuncId) (pre caps:List DV) (vp vc:Array Value):vp.size=pre.length -> vc.size=caps.length →
   (∀ j c,pre[j]?=some c -> Bn w X c (vp.getD j undef)) →
   (∀ j c,caps[j]?=some c -> Bn w X c (vc.getD j undef)) -> Bn w X (.fn f pre caps) (.func (.func f) vp vc)
theorem cell_of_heap {w w':World} {b o:Nat} (h:w'.heap[b]?=w.heap[b]?):w'.cell? ⟨b,o,none⟩=w.cell? ⟨b,o,none⟩:=by
 simp [World.cell?,h]
theorem Bn.mono {w w':World} {X X':Nat -> Prop} (hs:w.heap.size <= w'.heap.size)
  (hk:∀ b,b < w.heap.size -> ¬ X b -> w'.heap[b]?=w.heap[b]? /\ ¬ X' b) {d:DV} {v:Value} (h:Bn w X d v):Bn w' X' d v:=by
 induction h with
 | bool b=>exact .bool b
 | int k n=>exact .int k n
 | str s=>exact .str s
 | CU=>exact .CU
 | Hw=>exact .Hw
 | nilIface=>exact .nilIface
 | iface t d v _ ih=>exact .iface t d v ih
 | Cq a cap=>exact .Cq a cap
 | list l b off cap C8 u hx hb hcap he hc _ ih =>
  obtain ⟨h1,h2⟩:=hk b hb hx
  exact .list l b off cap C8 u h2 (Nat.lt_of_lt_of_le hb hs) hcap he (fun j c hj=>by rw [cell_of_heap h1];exact hc j c hj) ih
 | agg cs vs hsz _ ih=>exact .agg cs vs hsz ih
 | Cy cs b off u hx hb hc _ ih =>
  obtain ⟨h1,h2⟩:=hk b hb hx
  exact .Cy cs b off u h2 (Nat.lt_of_lt_of_le hb hs) (fun j c hj=>by rw [cell_of_heap h1];exact hc j c hj) ih
 | fn f pre caps vp vc h1 h2 _ _ ih1 ih2=>exact .fn f pre caps vp vc h1 h2 ih1 ih2
theorem Bn.weaken {w:World} {X X':Nat -> Prop} (hX:∀ b,X' b -> X b) {d:DV} {v:Value} (h:Bn w X d v):Bn w X' d v :=
 h.mono (Nat.le_refl _) (fun b _ hb=>⟨rfl,fun h'=>hb (hX b h')⟩)
mutual
def AJ (w:World) (M:Nat -> Nat × Option Au) (μ:Nat -> Option (Nat × Nat)) (X:Nat -> Prop):SV -> Value -> Prop
 | .dead,_=>True
 | .dv d,v=>Bn w X d v
 | .Bh,v=>v=.slice none 0 0
 | .emp b,v=>∃ a cap,v=.slice a 0 cap /\ a.isNone=b
 | .sl t g off n,v=>(v.oneCell'=true /\ g <= (M t).1) /\ ∀ blk,M t=(g,some blk) →
   match μ t with
   | none=>v=.slice none 0 0 /\ n=0 /\ off=0
   | some (b,cap)=>v=.slice (some ⟨b,off * blk.C8,none⟩) n (cap - off) /\ off+n <= cap
 | .pt t g off,v=>(v.oneCell'=true /\ g <= (M t).1) /\ ∀ blk,M t=(g,some blk) -> ∃ b cap,μ t=some (b,cap) /\ v=.pointer (some ⟨b,off,none⟩)
 | .agg cs,v=>∃ vs:List Value,v=.agg vs.toArray /\ Ac w M μ X cs vs
 | .Em cs,v=>∃ vs:List Value,v=.tuple vs.toArray /\ Ac w M μ X cs vs
def Ac (w:World) (M:Nat -> Nat × Option Au) (μ:Nat -> Option (Nat × Nat)) (X:Nat -> Prop):List SV -> List Value -> Prop
 | [],[]=>True
 | c :: cs,v :: vs=>AJ w M μ X c v /\ Ac w M μ X cs vs
 | _,_=>False
end
def Own (M:Nat -> Nat × Option Au) (μ:Nat -> Option (Nat × Nat)) (b:Nat):Prop :=
 ∃ t g blk cap,M t=(g,some blk) /\ ED blk.st /\ μ t=some (b,cap)
def Bt (w:World) (M:Nat -> Nat × Option Au) (μ:Nat -> Option (Nat × Nat)) (X:Nat -> Prop) (t:Nat) (blk:Au):Prop :=
 match μ t with
 | none=>blk.cells=[] /\ blk.row=true
 | some (b,cap)=>∃ cur,w.heap[b]?=some (.cells cur blk.elem (0,0)) /\ blk.cells.length <= cur.size ∧
   (∀ (j:Nat) c u,blk.cells[j]?=some c -> cur[j]?=some u -> AJ w M μ X c u) ∧
   (blk.row=true -> cur.size=cap * blk.C8 /\ cap <= maxLen) /\ (blk.row=false -> blk.cells.length=cur.size)
structure Cx where
 P:Program
 w0:World
 n:Nat
 Wr:Nat -> Prop
 X0:Nat -> Prop
 loc:Nat -> Option (Nat × Nat):=fun _=>none
 KC:Option Nat:=none
 dq:List Deferred:=[]
 fin:Act -> World -> Prop:=fun _ _=>False
structure Dg (Wr:Nat -> Prop) (w w':World):Prop where
 os:w'.os=w.os
 tape:w'.tape=w.tape
 output:w'.output=w.output
 size:w.heap.size <= w'.heap.size
 block:∀ k,k < w.heap.size -> ¬ Wr k -> w'.heap[k]?=w.heap[k]?
theorem Dg.refl (Wr:Nat -> Prop) (w:World):Dg Wr w w:=⟨rfl,rfl,rfl,Nat.le_refl _,fun _ _ _=>rfl⟩
theorem Dg.trans {Wr:Nat -> Prop} {a b c:World} (h:Dg Wr a b) (k:Dg Wr b c):Dg Wr a c :=
 ⟨k.os.trans h.os,k.tape.trans h.tape,k.output.trans h.output,Nat.le_trans h.size k.size,fun i hi hw=>(k.block i (Nat.lt_of_lt_of_le hi h.size) hw).trans (h.block i hi hw)⟩
theorem Dg.then {Wr y9:Nat -> Prop} {a b c:World} (h:Dg Wr a b) (k:Dg y9 b c) (hw:∀ i,i < a.heap.size -> ¬ Wr i -> ¬ y9 i):Dg Wr a c :=
 ⟨k.os.trans h.os,k.tape.trans h.tape,k.output.trans h.output,Nat.le_trans h.size k.size,fun i hi hi'=>(k.block i (Nat.lt_of_lt_of_le hi h.size) (hw i hi hi')).trans (h.block i hi hi')⟩
def XX (cx:Cx) (M:Nat -> Nat × Option Au) (μ:Nat -> Option (Nat × Nat)) (b:Nat):Prop:=Own M μ b \/ cx.X0 b
structure BJ (cx:Cx) (S:St) (a:Act) (w:World) (μ:Nat -> Option (Nat × Nat)):Prop where
 blk:∀ t g blk,S.M t=(g,some blk) -> Bt w S.M μ (XX cx S.M μ) t blk
 slot:∀ i,AJ w S.M μ (XX cx S.M μ) (S.F i) (a.tmps.getD i undef)
 place:∀ t g blk b cap,S.M t=(g,some blk) -> μ t=some (b,cap) -> (cx.w0.heap.size <= b \/ cx.Wr b) /\ b < w.heap.size
 uniq:∀ t g blk t' g' Aj b cap cap',t ≠ t' -> S.M t=(g,some blk) -> S.M t'=(g',some Aj) -> ED blk.st -> μ t=some (b,cap) -> μ t'=some (b,cap') -> Aj.st=2 /\ Aj.cells.length <= blk.cells.length
 Ei:∀ t g blk,S.M t=(g,some blk) -> 3 <= blk.st -> μ t=cx.loc (blk.st - 3)
 below:Dg cx.Wr cx.w0 w
 size:a.tmps.size=cx.n
 defers:a.defers=cx.dq
def Laid (w:World):Prop:=∀ p ∈ FC,(∃ cur t,w.heap[p.1]?=some (.cells cur t (0,0)) /\ cur.size=p.2.length) /\ ∀ (j:Nat) C,p.2[j]?=some C -> ∃ v,w.cell? ⟨p.1,j,none⟩=some v /\ C v
def Td (g:Nat):Prop:=∃ p ∈ FC,p.1=g
theorem Laid.lt {w:World} (h:Laid w) {g:Nat} (hg:Td g):g < w.heap.size:=by
 obtain ⟨p,hp,rfl⟩:=hg
 obtain ⟨⟨cur,t,hc,_⟩,_⟩:=h p hp
 exact (Array.getElem?_eq_some_iff.1 hc).1
theorem Laid.keep {w w':World} (h:Laid w) (hk:∀ g,Td g -> w'.heap[g]?=w.heap[g]?):Laid w':=by
 intro p hp
 have e:=hk p.1 ⟨p,hp,rfl⟩
 refine ⟨by rw [e];exact (h p hp).1,fun j C hC=>?_⟩
 rw [cell_of_heap e]
 exact (h p hp).2 j C hC
def Cx.Good (cx:Cx):Prop:=(∀ b,cx.X0 b -> b < cx.w0.heap.size /\ ¬ cx.Wr b) /\ Laid cx.w0 /\ ∀ g,Td g -> ¬ cx.X0 g /\ ¬ cx.Wr g
theorem BJ.laid {cx:Cx} (hg:cx.Good) {S:St} {a:Act} {w:World} {μ:Nat -> Option (Nat × Nat)} (h:BJ cx S a w μ):Laid w /\ ∀ g,Td g -> ¬ XX cx S.M μ g:=by
 refine ⟨hg.2.1.keep fun g hk=>h.below.block g (hg.2.1.lt hk) (hg.2.2 g hk).2,fun g hk hx=>?_⟩
 rcases hx with ⟨t,g',blk,cap,e1,_,e3⟩ | hx
 ·rcases (h.place t g' blk g cap e1 e3).1 with h1 | h1
  ·have:=hg.2.1.lt hk;omega
  ·exact (hg.2.2 g hk).2 h1
 ·exact (hg.2.2 g hk).1 hx
def JQ (cx:Cx) (S:St) (a:Act) (w:World):Prop:=∃ μ,BJ cx S a w μ
end Go.Ab
namespace Go.Ab
open Go.RowKit
mutual
theorem AJ.mono {w w':World} {M M':Nat -> Nat × Option Au} {μ μ':Nat -> Option (Nat × Nat)} {X X':Nat -> Prop}
  (hs:w.heap.size <= w'.heap.size) (hk:∀ b,b < w.heap.size -> ¬ X b -> w'.heap[b]?=w.heap[b]? /\ ¬ X' b)
  (hM:∀ t,(M t).1 <= (M' t).1)
  (hB:∀ t g Aj,M' t=(g,some Aj) -> g <= (M t).1 -> ∃ blk,M t=(g,some blk) /\ μ' t=μ t /\ Aj.C8=blk.C8) :
  ∀ (c:SV) (v:Value),AJ w M μ X c v -> AJ w' M' μ' X' c v
 | .dead,_,_=>trivial
 | .dv _,_,h=>by
  simp only [AJ] at h ⊢
  exact h.mono hs hk
 | .Bh,_,h=>by
  simp only [AJ] at h ⊢
  exact h
 | .emp b,v,h=>by
  simp only [AJ] at h ⊢
  exact h
 | .sl t g off n,v,h=>by
  simp only [AJ] at h ⊢
  refine ⟨⟨h.1.1,Nat.le_trans h.1.2 (hM t)⟩,fun Aj hb'=>?_⟩
  obtain ⟨blk,hb,hmu,yP⟩:=hB t g Aj hb' h.1.2
  have:=h.2 blk hb
  rw [hmu,yP]
  exact this
 | .pt t g off,v,h=>by
  simp only [AJ] at h ⊢
  refine ⟨⟨h.1.1,Nat.le_trans h.1.2 (hM t)⟩,fun Aj hb'=>?_⟩
  obtain ⟨blk,hb,hmu,yP⟩:=hB t g Aj hb' h.1.2
  have:=h.2 blk hb
  rw [hmu]
  exact this
 | .agg cs,v,h=>by
  simp only [AJ] at h ⊢
  obtain ⟨vs,rfl,hv⟩:=h
  exact ⟨vs,rfl,Ac.mono hs hk hM hB cs vs hv⟩
 | .Em cs,v,h=>by
  simp only [AJ] at h ⊢
  obtain ⟨vs,rfl,hv⟩:=h
  exact ⟨vs,rfl,Ac.mono hs hk hM hB cs vs hv⟩
theorem Ac.mono {w w':World} {M M':Nat -> Nat × Option Au} {μ μ':Nat -> Option (Nat × Nat)} {X X':Nat -> Prop}
  (hs:w.heap.size <= w'.heap.size) (hk:∀ b,b < w.heap.size -> ¬ X b -> w'.heap[b]?=w.heap[b]? /\ ¬ X' b)
  (hM:∀ t,(M t).1 <= (M' t).1)
  (hB:∀ t g Aj,M' t=(g,some Aj) -> g <= (M t).1 -> ∃ blk,M t=(g,some blk) /\ μ' t=μ t /\ Aj.C8=blk.C8) :
  ∀ (cs:List SV) (vs:List Value),Ac w M μ X cs vs -> Ac w' M' μ' X' cs vs
 | [],[],_=>trivial
 | [],_ :: _,h=>by simp only [Ac] at h
 | _ :: _,[],h=>by simp only [Ac] at h
 | c :: cs,v :: vs,h=>by
  simp only [Ac] at h ⊢
  exact ⟨AJ.mono hs hk hM hB c v h.1,Ac.mono hs hk hM hB cs vs h.2⟩
end
theorem Ac.length {w:World} {M:Nat -> Nat × Option Au} {μ:Nat -> Option (Nat × Nat)} {X:Nat -> Prop} :
  ∀ {cs:List SV} {vs:List Value},Ac w M μ X cs vs -> vs.length=cs.length
 | [],[],_=>rfl
 | [],_ :: _,h=>by simp only [Ac] at h
 | _ :: _,[],h=>by simp only [Ac] at h
 | _ :: cs,_ :: vs,h=>by
  simp only [Ac] at h
  simp [Ac.length h.2]
theorem Ac.get {w:World} {M:Nat -> Nat × Option Au} {μ:Nat -> Option (Nat × Nat)} {X:Nat -> Prop} :
  ∀ {cs:List SV} {vs:List Value},Ac w M μ X cs vs -> ∀ (j:Nat) c v,cs[j]?=some c -> vs[j]?=some v -> AJ w M μ X c v
 | [],_,_,j,c,v,hc,_=>by simp at hc
 | _ :: _,[],h,_,_,_,_,_=>by simp only [Ac] at h
 | c0 :: cs,v0 :: vs,h,j,c,v,hc,hv=>by
  simp only [Ac] at h
  cases j with
  | zero =>
   simp at hc hv
   subst hc;subst hv
   exact h.1
  | succ j=>exact Ac.get h.2 j c v (by simpa using hc) (by simpa using hv)
theorem Ac.mk {w:World} {M:Nat -> Nat × Option Au} {μ:Nat -> Option (Nat × Nat)} {X:Nat -> Prop} :
  ∀ {cs:List SV} {vs:List Value},vs.length=cs.length -> (∀ (j:Nat) c v,cs[j]?=some c -> vs[j]?=some v -> AJ w M μ X c v) -> Ac w M μ X cs vs
 | [],[],_,_=>trivial
 | [],_ :: _,h,_=>by simp at h
 | _ :: _,[],h,_=>by simp at h
 | c0 :: cs,v0 :: vs,hl,h=>by
  simp only [Ac]
  refine ⟨h 0 c0 v0 rfl rfl,Ac.mk (by simpa using hl) fun j c v hc hv=>h (j+1) c v (by simpa using hc) (by simpa using hv)⟩
theorem BJ.set {cx:Cx} {S:St} {a:Act} {w:World} {μ:Nat -> Option (Nat × Nat)} (h:BJ cx S a w μ) {d:Nat} (hd:d < cx.n) {r:SV} {v:Value}
  (hr:AJ w S.M μ (XX cx S.M μ) r v):BJ cx { S with F:=upd S.F d r } (a.put (some d) v) w μ where
 blk:=h.blk
 slot:=fun i=>by
  show AJ w S.M μ (XX cx S.M μ) (upd S.F d r i) _
  by_cases hi:i=d
  ·subst hi
   rw [upd_same]
   have hsz:i < a.tmps.size:=by rw [h.size];exact hd
   simpa [Act.put,Array.getElem?_setIfInBounds_self_of_lt hsz] using hr
  ·rw [upd_ne _ _ _ _ hi]
   have:=h.slot i
   simpa [Act.put,Array.getElem?_setIfInBounds_ne (Ne.symm hi)] using this
 place:=h.place
 uniq:=h.uniq
 Ei:=h.Ei
 below:=h.below
 size:=by simpa [Act.put] using h.size
 defers:=h.defers
theorem Bt.mono {w w':World} {M M':Nat -> Nat × Option Au} {μ μ':Nat -> Option (Nat × Nat)} {X X':Nat -> Prop}
  (hs:w.heap.size <= w'.heap.size) (hk:∀ b,b < w.heap.size -> ¬ X b -> w'.heap[b]?=w.heap[b]? /\ ¬ X' b)
  (hM:∀ t,(M t).1 <= (M' t).1)
  (hB:∀ t g Aj,M' t=(g,some Aj) -> g <= (M t).1 -> ∃ blk,M t=(g,some blk) /\ μ' t=μ t /\ Aj.C8=blk.C8)
  {t:Nat} {blk:Au} (ht:μ' t=μ t) (hh:∀ b cap,μ t=some (b,cap) -> w'.heap[b]?=w.heap[b]?) {st:Nat} (h:Bt w M μ X t blk):Bt w' M' μ' X' t { blk with st:=st }:=by
 unfold Bt at *
 rw [ht]
 cases hm:μ t with
 | none=>rw [hm] at h;exact h
 | some p =>
  obtain ⟨b,cap⟩:=p
  rw [hm] at h
  obtain ⟨cur,h1,h2,h3,h4,h5⟩:=h
  exact ⟨cur,by rw [hh b cap hm];exact h1,h2,fun j c u hj hu=>AJ.mono hs hk hM hB c u (h3 j c u hj hu),h4,h5⟩
theorem BJ.grow {cx:Cx} {S:St} {a:Act} {w w':World} {μ:Nat -> Option (Nat × Nat)} (h:BJ cx S a w μ) (hb:Below w.heap.size w w'):BJ cx S a w' μ:=by
 have hk:∀ b,b < w.heap.size -> ¬ XX cx S.M μ b -> w'.heap[b]?=w.heap[b]? /\ ¬ XX cx S.M μ b:=fun b hlt hx=>⟨hb.block b hlt,hx⟩
 have hB:∀ t g Aj,S.M t=(g,some Aj) -> g <= (S.M t).1 -> ∃ blk,S.M t=(g,some blk) /\ μ t=μ t /\ Aj.C8=blk.C8:=fun t g Aj e _=>⟨Aj,e,rfl,rfl⟩
 exact {
  blk:=fun t g blk e=>(h.blk t g blk e).mono (st:=blk.st) hb.size hk (fun _=>Nat.le_refl _) hB rfl (fun b cap hm=>hb.block b (h.place t g blk b cap e hm).2)
  slot:=fun i=>AJ.mono hb.size hk (fun _=>Nat.le_refl _) hB _ _ (h.slot i)
  place:=fun t g blk b cap e hm=>⟨(h.place t g blk b cap e hm).1,Nat.lt_of_lt_of_le (h.place t g blk b cap e hm).2 hb.size⟩
  uniq:=h.uniq
  Ei:=h.Ei
  below:=h.below.then (y9:=fun _=>False) ⟨hb.os,hb.tape,hb.output,hb.size,fun k hk _=>hb.block k hk⟩ (fun _ _ _ h=>h)
  size:=h.size
  defers:=h.defers }
theorem BJ.create {cx:Cx} {S:St} {a:Act} {w:World} {μ:Nat -> Option (Nat × Nat)} (h:BJ cx S a w μ) (t:Nat) (blk:Au) (cur:Array Value) (cap:Nat)
  (wB:blk.st < 3) (hlen:blk.cells.length <= cur.size) (hc:∀ (j:Nat) c u,blk.cells[j]?=some c -> cur[j]?=some u -> AJ w S.M μ (XX cx S.M μ) c u)
  (hrow:blk.row=true -> cur.size=cap * blk.C8 /\ cap <= maxLen) (qI:blk.row=false -> blk.cells.length=cur.size) :
  BJ cx { S with M:=upd S.M t ((S.M t).1+1,some blk) } a (w.alloc (.cells cur blk.elem)) (upd μ t (some (w.heap.size,cap))):=by
 have hsz:w.heap.size <= (w.alloc (.cells cur blk.elem)).heap.size:=by simp
 have hheap:∀ b,b < w.heap.size -> (w.alloc (.cells cur blk.elem)).heap[b]?=w.heap[b]?:=fun b hlt=>Below.heap_alloc _ _ _ hlt
 have hown:∀ b,b < w.heap.size -> Own (upd S.M t ((S.M t).1+1,some blk)) (upd μ t (some (w.heap.size,cap))) b -> Own S.M μ b:=by
  rintro b hlt ⟨t',g',Aj,cap',e1,e2,e3⟩
  by_cases ht:t'=t
  ·subst ht
   rw [upd_same] at e3
   simp at e3
   omega
  ·rw [upd_ne _ _ _ _ ht] at e1 e3
   exact ⟨t',g',Aj,cap',e1,e2,e3⟩
 have hk:∀ b,b < w.heap.size -> ¬ XX cx S.M μ b -> (w.alloc (.cells cur blk.elem)).heap[b]?=w.heap[b]? /\ ¬ XX cx (upd S.M t ((S.M t).1+1,some blk)) (upd μ t (some (w.heap.size,cap))) b :=
  fun b hlt hx=>⟨hheap b hlt,fun ho=>hx (ho.imp (hown b hlt) id)⟩
 have hM:∀ t',(S.M t').1 <= (upd S.M t ((S.M t).1+1,some blk) t').1:=fun t'=>by
  by_cases ht:t'=t
  ·subst ht;rw [upd_same];exact Nat.le_succ _
  ·rw [upd_ne _ _ _ _ ht];exact Nat.le_refl _
 have hB:∀ t' g Aj,upd S.M t ((S.M t).1+1,some blk) t'=(g,some Aj) -> g <= (S.M t').1 →
   ∃ blk,S.M t'=(g,some blk) /\ upd μ t (some (w.heap.size,cap)) t'=μ t' /\ Aj.C8=blk.C8:=fun t' g Aj e hg=>by
  by_cases ht:t'=t
  ·subst ht;rw [upd_same] at e;simp at e;omega
  ·rw [upd_ne _ _ _ _ ht] at e ⊢;exact ⟨Aj,e,rfl,rfl⟩
 have V6:=h.place
 refine { blk:=?_,slot:=?_,place:=?_,uniq:=?_,Ei:=?Ei,below:=?_,size:=h.size,defers:=h.defers }
 case Ei =>
  intro t' g' Aj e h3
  by_cases ht:t'=t
  ·subst ht
   simp only [upd_same,Prod.mk.injEq,Option.some.injEq] at e
   obtain ⟨_,rfl⟩:=e
   omega
  ·show upd μ t _ t'=_
   rw [upd_ne _ _ _ _ ht]
   simp only [upd_ne _ _ _ _ ht] at e
   exact h.Ei t' g' Aj e h3
 ·intro t' g Aj e
  by_cases ht:t'=t
  ·subst ht
   simp only [upd_same,Prod.mk.injEq,Option.some.injEq] at e
   obtain ⟨_,rfl⟩:=e
   unfold Bt
   rw [upd_same]
   refine ⟨cur,heap_alloc_new w _,hlen,fun j c u hj hu=>?_,hrow,qI⟩
   exact AJ.mono hsz hk hM hB c u (hc j c u hj hu)
  ·have e':=e
   simp only [upd_ne _ _ _ _ ht] at e'
   refine (h.blk t' g Aj e').mono (st:=Aj.st) hsz hk hM hB (upd_ne _ _ _ _ ht) (fun b cap' hm=>hheap b (V6 t' g Aj b cap' e' hm).2)
 ·exact fun i=>AJ.mono hsz hk hM hB _ _ (h.slot i)
 ·intro t' g Aj b cap' e hm
  by_cases ht:t'=t
  ·subst ht
   rw [upd_same] at hm
   simp only [Option.some.injEq,Prod.mk.injEq] at hm
   obtain ⟨rfl,rfl⟩:=hm
   exact ⟨.inl h.below.size,by simp⟩
  ·simp only [upd_ne _ _ _ _ ht] at e hm
   have:=V6 t' g Aj b cap' e hm
   exact ⟨this.1,Nat.lt_of_lt_of_le this.2 hsz⟩
 ·intro t1 g1 b1 t2 g2 b2 b c1 c2 hne e1 e2 s1 m1 m2
  by_cases h1:t1=t
  ·subst h1
   have h2:t2 ≠ t1:=Ne.symm hne
   rw [upd_same] at m1
   simp only [Option.some.injEq,Prod.mk.injEq] at m1
   simp only [upd_ne _ _ _ _ h2] at e2 m2
   have:=(V6 t2 g2 b2 b c2 e2 m2).2
   omega
  ·by_cases h2:t2=t
   ·subst h2
    simp only [upd_ne _ _ _ _ h1] at e1 m1
    rw [upd_same] at m2
    have:=(V6 t1 g1 b1 b c1 e1 m1).2
    simp only [Option.some.injEq,Prod.mk.injEq] at m2
    omega
   ·simp only [upd_ne _ _ _ _ h1] at e1 m1
    simp only [upd_ne _ _ _ _ h2] at e2 m2
    exact h.uniq t1 g1 b1 t2 g2 b2 b c1 c2 hne e1 e2 s1 m1 m2
 ·exact h.below.trans ⟨rfl,rfl,rfl,hsz,fun k hk' _=>hheap k hk'⟩
theorem BJ.lower {cx:Cx} {S:St} {a:Act} {w:World} {μ:Nat -> Option (Nat × Nat)} (h:BJ cx S a w μ) {t g:Nat} {blk:Au} (e:S.M t=(g,some blk)) {st:Nat} (hst:st=1 \/ st=2) (hst':ED blk.st \/ blk.st=st) :
  BJ cx { S with M:=upd S.M t (g,some { blk with st:=st }) } a w μ:=by
 have hown:∀ b,Own (upd S.M t (g,some { blk with st:=st })) μ b -> Own S.M μ b:=by
  rintro b ⟨t',g',Aj,cap',e1,e2,e3⟩
  by_cases ht:t'=t
  ·subst ht
   simp only [upd_same,Prod.mk.injEq,Option.some.injEq] at e1
   obtain ⟨_,rfl⟩:=e1
   simp only [ED] at e2
   omega
  ·rw [upd_ne _ _ _ _ ht] at e1
   exact ⟨t',g',Aj,cap',e1,e2,e3⟩
 have hk:∀ b,b < w.heap.size -> ¬ XX cx S.M μ b -> w.heap[b]?=w.heap[b]? /\ ¬ XX cx (upd S.M t (g,some { blk with st:=st })) μ b:=fun b _ hx=>⟨rfl,fun ho=>hx (ho.imp (hown b) id)⟩
 have hM:∀ t',(S.M t').1 <= (upd S.M t (g,some { blk with st:=st }) t').1:=fun t'=>by
  by_cases ht:t'=t
  ·subst ht;rw [upd_same,e];exact Nat.le_refl _
  ·rw [upd_ne _ _ _ _ ht];exact Nat.le_refl _
 have hB:∀ t' g' Aj,upd S.M t (g,some { blk with st:=st }) t'=(g',some Aj) -> g' <= (S.M t').1 →
   ∃ blk,S.M t'=(g',some blk) /\ μ t'=μ t' /\ Aj.C8=blk.C8:=fun t' g' Aj e' _=>by
  by_cases ht:t'=t
  ·subst ht
   simp only [upd_same,Prod.mk.injEq,Option.some.injEq] at e'
   obtain ⟨rfl,rfl⟩:=e'
   exact ⟨blk,e,rfl,rfl⟩
  ·rw [upd_ne _ _ _ _ ht] at e';exact ⟨Aj,e',rfl,rfl⟩
 refine { blk:=?_,slot:=?_,place:=?_,uniq:=?_,Ei:=?Ei,below:=h.below,size:=h.size,defers:=h.defers }
 case Ei =>
  intro t' g' Aj e' h3
  by_cases ht:t'=t
  ·subst ht
   simp only [upd_same,Prod.mk.injEq,Option.some.injEq] at e'
   obtain ⟨_,rfl⟩:=e'
   simp only at h3
   omega
  ·simp only [upd_ne _ _ _ _ ht] at e'
   exact h.Ei t' g' Aj e' h3
 ·intro t' g' Aj e'
  by_cases ht:t'=t
  ·subst ht
   simp only [upd_same,Prod.mk.injEq,Option.some.injEq] at e'
   obtain ⟨rfl,rfl⟩:=e'
   exact (h.blk _ _ _ e).mono (Nat.le_refl _) hk hM hB rfl (fun _ _ _=>rfl)
  ·simp only [upd_ne _ _ _ _ ht] at e'
   exact (h.blk _ _ _ e').mono (st:=Aj.st) (Nat.le_refl _) hk hM hB rfl (fun _ _ _=>rfl)
 ·exact fun i=>AJ.mono (Nat.le_refl _) hk hM hB _ _ (h.slot i)
 ·intro t' g' Aj b cap' e' hm
  by_cases ht:t'=t
  ·subst ht
   exact h.place _ _ _ _ _ e hm
  ·simp only [upd_ne _ _ _ _ ht] at e'
   exact h.place _ _ _ _ _ e' hm
 ·intro t1 g1 b1 t2 g2 b2 b c1 c2 hne e1 e2 s1 m1 m2
  by_cases h1:t1=t
  ·subst h1
   simp only [upd_same,Prod.mk.injEq,Option.some.injEq] at e1
   obtain ⟨_,rfl⟩:=e1
   simp only [ED] at s1
   omega
  ·simp only [upd_ne _ _ _ _ h1] at e1
   by_cases h2:t2=t
   ·subst h2
    simp only [upd_same,Prod.mk.injEq,Option.some.injEq] at e2
    obtain ⟨_,rfl⟩:=e2
    have:=h.uniq t1 g1 b1 t2 g blk b c1 c2 hne e1 e s1 m1 m2
    exact ⟨by simp only [ED] at hst' ⊢;omega,this.2⟩
   ·simp only [upd_ne _ _ _ _ h2] at e2
    exact h.uniq t1 g1 b1 t2 g2 b2 b c1 c2 hne e1 e2 s1 m1 m2
theorem BJ.Zf {cx:Cx} {S:St} {a:Act} {w:World} {μ:Nat -> Option (Nat × Nat)} (h:BJ cx S a w μ) {src g b cap:Nat} {blk:Au} {cur:Array Value} (dst:Nat)
  (e:S.M src=(g,some blk)) (hst:ED blk.st) (hrow:blk.row=true) (hm:μ src=some (b,cap)) (hh:w.heap[b]?=some (.cells cur blk.elem (0,0)))
  (news:List SV) (nv:List Value) (hl:nv.length=news.length) (hnews:∀ (j:Nat) c u,news[j]?=some c -> nv[j]?=some u -> AJ w S.M μ (XX cx S.M μ) c u)
  (hfit:blk.cells.length+nv.length <= cur.size) :
  BJ cx { S with M:=upd (upd S.M src (g,some { blk with st:=2 })) dst ((S.M dst).1+1,some { blk with cells:=blk.cells ++ news,st:=0 }) } a
   (w.setRow b (cur.toList.take blk.cells.length ++ nv ++ cur.toList.drop (blk.cells.length+nv.length)).toArray) (upd μ dst (some (b,cap))):=by
 have hX:Own S.M μ b:=⟨src,g,blk,cap,e,hst,hm⟩
 generalize aZ:(cur.toList.take blk.cells.length ++ nv ++ cur.toList.drop (blk.cells.length+nv.length)).toArray=cur'
 have hsz':cur'.size=cur.size:=by subst aZ;simp;omega
 have hpre:∀ j,j < blk.cells.length -> cur'[j]?=cur[j]?:=fun j hj=>by
  subst aZ
  simp only [List.getElem?_toArray,List.append_assoc]
  rw [List.getElem?_append_left (by simp;omega),List.getElem?_take_of_lt hj]
  simp
 have hnew:∀ j,j < nv.length -> cur'[blk.cells.length+j]?=nv[j]?:=fun j hj=>by
  subst aZ
  simp only [List.getElem?_toArray,List.append_assoc]
  rw [List.getElem?_append_right (by simp;omega)]
  have:blk.cells.length+j - (cur.toList.take blk.cells.length).length=j:=by simp;omega
  rw [this,List.getElem?_append_left hj]
 clear aZ
 have hheap:(w.setRow b cur').heap[b]?=some (.cells cur' blk.elem (0,0)):=setRow_heap w b cur cur' blk.elem (0,0) hh
 have hoth:∀ b',b' ≠ b -> (w.setRow b cur').heap[b']?=w.heap[b']?:=fun b' hb'=>setRow_other w b b' cur' hb'
 generalize hM':upd (upd S.M src (g,some { blk with st:=2 })) dst ((S.M dst).1+1,some { blk with cells:=blk.cells ++ news,st:=0 })=M'
 have hMd:M' dst=((S.M dst).1+1,some { blk with cells:=blk.cells ++ news,st:=0 }):=by subst hM';rw [upd_same]
 have hMs:src ≠ dst -> M' src=(g,some { blk with st:=2 }):=fun hne=>by subst hM';rw [upd_ne _ _ _ _ hne,upd_same]
 have gZ:∀ t,t ≠ dst -> t ≠ src -> M' t=S.M t:=fun t h1 h2=>by subst hM';rw [upd_ne _ _ _ _ h1,upd_ne _ _ _ _ h2]
 have hmo:∀ t,t ≠ dst -> upd μ dst (some (b,cap)) t=μ t:=fun t h1=>upd_ne _ _ _ _ h1
 have hmd:upd μ dst (some (b,cap)) dst=some (b,cap):=upd_same _ _ _
 have hown:∀ b',Own M' (upd μ dst (some (b,cap))) b' -> Own S.M μ b':=by
  rintro b' ⟨t,g',Aj,cap',e1,e2,e3⟩
  by_cases h1:t=dst
  ·subst h1;rw [hmd] at e3;simp only [Option.some.injEq,Prod.mk.injEq] at e3;rw [<- e3.1];exact hX
  ·by_cases h2:t=src
   ·subst h2;rw [hMs h1] at e1;simp only [Prod.mk.injEq,Option.some.injEq] at e1;rw [<- e1.2] at e2;simp [ED] at e2
   ·rw [gZ t h1 h2] at e1;rw [hmo t h1] at e3;exact ⟨t,g',Aj,cap',e1,e2,e3⟩
 have hs:w.heap.size <= (w.setRow b cur').heap.size:=by simp
 have hk:∀ b',b' < w.heap.size -> ¬ XX cx S.M μ b' -> (w.setRow b cur').heap[b']?=w.heap[b']? /\ ¬ XX cx M' (upd μ dst (some (b,cap))) b' :=
  fun b' _ hx=>⟨hoth b' (fun e=>hx (.inl (e ▸ hX))),fun ho=>hx (ho.imp (hown b') id)⟩
 have hM:∀ t,(S.M t).1 <= (M' t).1:=fun t=>by
  by_cases h1:t=dst
  ·subst h1;rw [hMd];exact Nat.le_succ _
  ·by_cases h2:t=src
   ·subst h2;rw [hMs h1,e];exact Nat.le_refl _
   ·rw [gZ t h1 h2];exact Nat.le_refl _
 have hB:∀ t g' Aj,M' t=(g',some Aj) -> g' <= (S.M t).1 -> ∃ blk,S.M t=(g',some blk) /\ upd μ dst (some (b,cap)) t=μ t /\ Aj.C8=blk.C8:=fun t g' Aj e' hg=>by
  by_cases h1:t=dst
  ·subst h1;rw [hMd] at e';simp only [Prod.mk.injEq] at e';omega
  ·by_cases h2:t=src
   ·subst h2
    rw [hMs h1] at e'
    simp only [Prod.mk.injEq,Option.some.injEq] at e'
    obtain ⟨rfl,rfl⟩:=e'
    exact ⟨blk,e,hmo t h1,rfl⟩
   ·rw [gZ t h1 h2] at e'
    exact ⟨Aj,e',hmo t h1,rfl⟩
 have hsrc:=h.blk src g blk e
 unfold Bt at hsrc
 rw [hm] at hsrc
 obtain ⟨cur0,q1,q2,q3,q4,q5⟩:=hsrc
 rw [hh] at q1
 simp only [Option.some.injEq,Obj.cells.injEq,and_true] at q1
 subst q1
 refine { blk:=?_,slot:=?_,place:=?_,uniq:=?_,Ei:=?Ei,below:=?_,size:=h.size,defers:=h.defers }
 case Ei =>
  intro t g' Aj e' h3
  change M' t=_ at e'
  by_cases h1:t=dst
  ·subst h1;rw [hMd] at e';simp only [Prod.mk.injEq,Option.some.injEq] at e';rw [<- e'.2] at h3;simp at h3
  ·show upd μ dst (some (b,cap)) t=_
   rw [hmo t h1]
   by_cases h2:t=src
   ·subst h2;rw [hMs h1] at e';simp only [Prod.mk.injEq,Option.some.injEq] at e';rw [<- e'.2] at h3;simp at h3
   ·rw [gZ t h1 h2] at e';exact h.Ei t g' Aj e' h3
 ·intro t g' Aj e'
  change M' t=_ at e'
  show Bt _ M' _ (XX cx M' _) t Aj
  by_cases h1:t=dst
  ·subst h1
   rw [hMd] at e'
   simp only [Prod.mk.injEq,Option.some.injEq] at e'
   obtain ⟨_,rfl⟩:=e'
   unfold Bt
   rw [hmd]
   refine ⟨cur',hheap,?_,?_,?_,?_⟩
   ·simp only [List.length_append];omega
   ·intro j c u hc hu
    by_cases hj:j < blk.cells.length
    ·rw [hpre j hj] at hu
     simp only [List.getElem?_append_left hj] at hc
     exact AJ.mono hs hk hM hB c u (q3 j c u hc hu)
    ·simp only [List.getElem?_append_right (Nat.le_of_not_lt hj)] at hc
     have hjl:j - blk.cells.length < nv.length:=by
      have:=(List.getElem?_eq_some_iff.1 hc).1
      omega
     have:=hnew (j - blk.cells.length) hjl
     rw [show blk.cells.length+(j - blk.cells.length)=j by omega,hu] at this
     exact AJ.mono hs hk hM hB c u (hnews _ c u hc this.symm)
   ·intro _;rw [hsz'];exact q4 hrow
   ·intro hf;simp only [hrow] at hf;cases hf
  ·by_cases h2:t=src
   ·subst h2
    rw [hMs h1] at e'
    simp only [Prod.mk.injEq,Option.some.injEq] at e'
    obtain ⟨_,rfl⟩:=e'
    unfold Bt
    rw [hmo t h1,hm]
    refine ⟨cur',hheap,by simp only;omega,?_,?_,?_⟩
    ·intro j c u hc hu
     have hj:j < blk.cells.length:=(List.getElem?_eq_some_iff.1 hc).1
     rw [hpre j hj] at hu
     exact AJ.mono hs hk hM hB c u (q3 j c u hc hu)
    ·intro _;rw [hsz'];exact q4 hrow
    ·intro hf;simp only [hrow] at hf;cases hf
   ·rw [gZ t h1 h2] at e'
    have ho:=h.blk t g' Aj e'
    unfold Bt at ho ⊢
    rw [hmo t h1]
    cases hmt:μ t with
    | none=>rw [hmt] at ho;exact ho
    | some p =>
     obtain ⟨b',cap'⟩:=p
     rw [hmt] at ho
     obtain ⟨c0,r1,r2,r3,r4,r5⟩:=ho
     by_cases hb:b'=b
     ·subst hb
      have hu:=h.uniq src g blk t g' Aj b' cap cap' (Ne.symm h2) e e' hst hm hmt
      rw [hh] at r1
      simp only [Option.some.injEq,Obj.cells.injEq,and_true] at r1
      obtain ⟨rfl,hel⟩:=r1
      refine ⟨cur',by rw [hheap,hel],by omega,?_,?_,?_⟩
      ·intro j c u hc hu'
       have hj:j < Aj.cells.length:=(List.getElem?_eq_some_iff.1 hc).1
       rw [hpre j (by omega)] at hu'
       exact AJ.mono hs hk hM hB c u (r3 j c u hc hu')
      ·intro hf;rw [hsz'];exact r4 hf
      ·intro hf;rw [hsz'];exact r5 hf
     ·exact ⟨c0,by rw [hoth b' hb];exact r1,r2,fun j c u hc hu=>AJ.mono hs hk hM hB c u (r3 j c u hc hu),r4,r5⟩
 ·exact fun i=>AJ.mono hs hk hM hB _ _ (h.slot i)
 ·intro t g' Aj b' cap' e' hm'
  change M' t=_ at e'
  rw [show (w.setRow b cur').heap.size=w.heap.size by simp]
  by_cases h1:t=dst
  ·subst h1
   rw [hmd] at hm'
   simp only [Option.some.injEq,Prod.mk.injEq] at hm'
   rw [<- hm'.1]
   exact h.place _ _ _ _ _ e hm
  ·rw [hmo t h1] at hm'
   by_cases h2:t=src
   ·subst h2;exact h.place _ _ _ _ _ e hm'
   ·rw [gZ t h1 h2] at e';exact h.place _ _ _ _ _ e' hm'
 ·intro t1 g1 b1 t2 g2 b2 b' c1 c2 hne e1 e2 s1 m1 m2
  change M' t1=_ at e1
  change M' t2=_ at e2
  by_cases h1:t1=dst
  ·subst h1
   have h2:t2 ≠ t1:=Ne.symm hne
   rw [hMd] at e1
   simp only [Prod.mk.injEq,Option.some.injEq] at e1
   obtain ⟨_,rfl⟩:=e1
   rw [hmd] at m1
   simp only [Option.some.injEq,Prod.mk.injEq] at m1
   obtain ⟨rfl,rfl⟩:=m1
   rw [hmo t2 h2] at m2
   by_cases h3:t2=src
   ·subst h3
    rw [hMs h2] at e2
    simp only [Prod.mk.injEq,Option.some.injEq] at e2
    obtain ⟨_,rfl⟩:=e2
    exact ⟨rfl,by simp⟩
   ·rw [gZ t2 h2 h3] at e2
    have:=h.uniq src g blk t2 g2 b2 b cap c2 (Ne.symm h3) e e2 hst hm m2
    exact ⟨this.1,by simp only [List.length_append];omega⟩
  ·rw [hmo t1 h1] at m1
   by_cases h3:t1=src
   ·subst h3
    rw [hMs h1] at e1
    simp only [Prod.mk.injEq,Option.some.injEq] at e1
    rw [<- e1.2] at s1
    simp [ED] at s1
   ·rw [gZ t1 h1 h3] at e1
    by_cases h2:t2=dst
    ·subst h2
     rw [hmd] at m2
     simp only [Option.some.injEq,Prod.mk.injEq] at m2
     obtain ⟨rfl,_⟩:=m2
     have:=h.uniq src g blk t1 g1 b1 b cap c1 (Ne.symm h3) e e1 hst hm m1
     unfold ED at s1
     omega
    ·rw [hmo t2 h2] at m2
     by_cases h4:t2=src
     ·subst h4
      rw [hMs h2] at e2
      simp only [Prod.mk.injEq,Option.some.injEq] at e2
      obtain ⟨_,rfl⟩:=e2
      have:=h.uniq t1 g1 b1 t2 g blk b' c1 c2 hne e1 e s1 m1 m2
      exact ⟨rfl,this.2⟩
     ·rw [gZ t2 h2 h4] at e2
      exact h.uniq t1 g1 b1 t2 g2 b2 b' c1 c2 hne e1 e2 s1 m1 m2
 ·refine h.below.then (y9:=fun k=>k=b) ⟨rfl,rfl,rfl,by simp,fun k _ hk'=>hoth k hk'⟩ ?_
  intro i hi hw hib
  have:=(h.place src g blk b cap e hm).1
  subst hib
  exact this.elim (fun h=>by omega) hw
end Go.Ab
namespace Go.Ab
open Go.RowKit
def Bd (M:Nat -> Nat × Option Au):Nat -> Nat × Option Au:=fun t =>
 match (M t).2 with
 | some b=>if b.st=2 then ((M t).1,none) else M t
 | none=>M t
def putCells {α:Type} (l:List α) (off:Nat) (news:List α):List α:=l.take off ++ news ++ l.drop (off+news.length)
theorem DN {α:Type} (l news:List α) (off:Nat) (h:off+news.length <= l.length):(putCells l off news).length=l.length:=by
 unfold putCells;simp;omega
theorem Ew {α:Type} (l news:List α) (off j:Nat) (h:off+news.length <= l.length) :
  (putCells l off news)[j]?=if j < off then l[j]? else if j < off+news.length then news[j - off]? else l[j]?:=by
 unfold putCells
 by_cases h1:j < off
 ·rw [if_pos h1,List.append_assoc,List.getElem?_append_left (by simp;omega),List.getElem?_take_of_lt h1]
 ·rw [if_neg h1,List.append_assoc,List.getElem?_append_right (by simp;omega)]
  have e1:j - (List.take off l).length=j - off:=by simp;omega
  rw [e1]
  by_cases h2:j < off+news.length
  ·rw [if_pos h2,List.getElem?_append_left (by omega)]
  ·rw [if_neg h2,List.getElem?_append_right (by omega),List.getElem?_drop]
   congr 1
   omega
theorem BJ.write {cx:Cx} {S:St} {a:Act} {w:World} {μ:Nat -> Option (Nat × Nat)} (h:BJ cx S a w μ) {t g b cap:Nat} {blk:Au} {cur:Array Value}
  (e:S.M t=(g,some blk)) (hst:ED blk.st) (hm:μ t=some (b,cap)) (hh:w.heap[b]?=some (.cells cur blk.elem (0,0)))
  (off:Nat) (news:List SV) (nv:List Value) (hl:nv.length=news.length) (hnews:∀ (j:Nat) c u,news[j]?=some c -> nv[j]?=some u -> AJ w S.M μ (XX cx S.M μ) c u)
  (hfit:off+news.length <= blk.cells.length) :
  BJ cx { S with M:=upd (Bd S.M) t (g,some { blk with cells:=putCells blk.cells off news }) } a (w.setRow b (putCells cur.toList off nv).toArray) μ:=by
 have hX:Own S.M μ b:=⟨t,g,blk,cap,e,hst,hm⟩
 have hsrc:=h.blk t g blk e
 unfold Bt at hsrc
 rw [hm] at hsrc
 obtain ⟨cur0,q1,q2,q3,q4,q5⟩:=hsrc
 rw [hh] at q1
 simp only [Option.some.injEq,Obj.cells.injEq,and_true] at q1
 subst q1
 have hcur:∀ j,(putCells cur.toList off nv).toArray[j]?=if j < off then cur[j]? else if j < off+news.length then nv[j - off]? else cur[j]?:=fun j=>by
  rw [List.getElem?_toArray,Ew _ _ _ _ (by simp;omega),hl];simp
 have hsz':(putCells cur.toList off nv).toArray.size=cur.size:=by
  rw [List.size_toArray,DN _ _ _ (by simp;omega)];simp
 generalize (putCells cur.toList off nv).toArray=cur' at *
 have hheap:(w.setRow b cur').heap[b]?=some (.cells cur' blk.elem (0,0)):=setRow_heap w b cur cur' blk.elem (0,0) hh
 have hoth:∀ b',b' ≠ b -> (w.setRow b cur').heap[b']?=w.heap[b']?:=fun b' hb'=>setRow_other w b b' cur' hb'
 generalize hM':upd (Bd S.M) t (g,some { blk with cells:=putCells blk.cells off news })=M'
 have hMt:M' t=(g,some { blk with cells:=putCells blk.cells off news }):=by subst hM';rw [upd_same]
 have gZ:∀ t',t' ≠ t -> M' t'=Bd S.M t':=fun t' h1=>by subst hM';rw [upd_ne _ _ _ _ h1]
 have hMs:∀ t' g' b',t' ≠ t -> M' t'=(g',some b') -> S.M t'=(g',some b') /\ b'.st ≠ 2:=fun t' g' b' h1 e'=>by
  rw [gZ t' h1] at e'
  unfold Bd at e'
  split at e'
  ·rename_i b'' ZG
   split at e'
   ·cases e'
   ·rename_i hne
    refine ⟨e',?_⟩
    rw [e'] at ZG
    simp only [Option.some.injEq] at ZG
    rw [ZG];exact hne
  ·rename_i hn
   rw [e'] at hn;cases hn
 have hMg:∀ t',(S.M t').1 <= (M' t').1:=fun t'=>by
  by_cases h1:t'=t
  ·subst h1;rw [hMt,e];exact Nat.le_refl _
  ·rw [gZ t' h1]
   unfold Bd
   split
   ·split<;>exact Nat.le_refl _
   ·exact Nat.le_refl _
 have hown:∀ b',Own M' μ b' -> Own S.M μ b':=by
  rintro b' ⟨t',g',Aj,cap',e1,e2,e3⟩
  by_cases h1:t'=t
  ·subst h1;exact ⟨t',g,blk,cap',e,hst,e3⟩
  ·exact ⟨t',g',Aj,cap',(hMs t' g' Aj h1 e1).1,e2,e3⟩
 have hs:w.heap.size <= (w.setRow b cur').heap.size:=by simp
 have hk:∀ b',b' < w.heap.size -> ¬ XX cx S.M μ b' -> (w.setRow b cur').heap[b']?=w.heap[b']? /\ ¬ XX cx M' μ b' :=
  fun b' _ hx=>⟨hoth b' (fun e=>hx (.inl (e ▸ hX))),fun ho=>hx (ho.imp (hown b') id)⟩
 have hB:∀ t' g' Aj,M' t'=(g',some Aj) -> g' <= (S.M t').1 -> ∃ blk,S.M t'=(g',some blk) /\ μ t'=μ t' /\ Aj.C8=blk.C8:=fun t' g' Aj e' _=>by
  by_cases h1:t'=t
  ·subst h1
   rw [hMt] at e'
   simp only [Prod.mk.injEq,Option.some.injEq] at e'
   obtain ⟨rfl,rfl⟩:=e'
   exact ⟨blk,e,rfl,rfl⟩
  ·exact ⟨Aj,(hMs t' g' Aj h1 e').1,rfl,rfl⟩
 refine { blk:=?_,slot:=?_,place:=?_,uniq:=?_,Ei:=?Ei,below:=?_,size:=h.size,defers:=h.defers }
 case Ei =>
  intro t' g' Aj e' h3
  change M' t'=_ at e'
  by_cases h1:t'=t
  ·subst h1
   rw [hMt] at e'
   simp only [Prod.mk.injEq,Option.some.injEq] at e'
   obtain ⟨_,rfl⟩:=e'
   exact h.Ei t' g blk e h3
  ·exact h.Ei t' g' Aj (hMs t' g' Aj h1 e').1 h3
 ·intro t' g' Aj e'
  change M' t'=_ at e'
  show Bt _ M' _ (XX cx M' _) t' Aj
  by_cases h1:t'=t
  ·subst h1
   rw [hMt] at e'
   simp only [Prod.mk.injEq,Option.some.injEq] at e'
   obtain ⟨_,rfl⟩:=e'
   unfold Bt
   rw [hm]
   refine ⟨cur',hheap,?_,?_,?_,?_⟩
   ·simp only [DN _ _ _ hfit];omega
   ·intro j c u hc hu
    simp only [Ew _ _ _ _ hfit] at hc
    rw [hcur] at hu
    split at hc
    ·rename_i hj;rw [if_pos hj] at hu;exact AJ.mono hs hk hMg hB c u (q3 j c u hc hu)
    ·rename_i hj
     rw [if_neg hj] at hu
     split at hc
     ·rename_i hj2;rw [if_pos hj2] at hu;exact AJ.mono hs hk hMg hB c u (hnews _ c u hc hu)
     ·rename_i hj2;rw [if_neg hj2] at hu;exact AJ.mono hs hk hMg hB c u (q3 j c u hc hu)
   ·intro hr;rw [hsz'];exact q4 hr
   ·intro hr;simp only [DN _ _ _ hfit];rw [hsz'];exact q5 hr
  ·obtain ⟨e2,hv⟩:=hMs t' g' Aj h1 e'
   have ho:=h.blk t' g' Aj e2
   unfold Bt at ho ⊢
   cases hmt:μ t' with
   | none=>rw [hmt] at ho;exact ho
   | some p =>
    obtain ⟨b',cap'⟩:=p
    rw [hmt] at ho
    obtain ⟨c0,r1,r2,r3,r4,r5⟩:=ho
    have hb:b' ≠ b:=fun hb=>by
     subst hb
     exact hv (h.uniq t g blk t' g' Aj b' cap cap' (Ne.symm h1) e e2 hst hm hmt).1
    exact ⟨c0,by rw [hoth b' hb];exact r1,r2,fun j c u hc hu=>AJ.mono hs hk hMg hB c u (r3 j c u hc hu),r4,r5⟩
 ·exact fun i=>AJ.mono hs hk hMg hB _ _ (h.slot i)
 ·intro t' g' Aj b' cap' e' hm'
  change M' t'=_ at e'
  rw [show (w.setRow b cur').heap.size=w.heap.size by simp]
  by_cases h1:t'=t
  ·subst h1;exact h.place _ _ _ _ _ e hm'
  ·exact h.place _ _ _ _ _ (hMs t' g' Aj h1 e').1 hm'
 ·intro t1 g1 b1 t2 g2 b2 b' c1 c2 hne e1 e2 s1 m1 m2
  change M' t1=_ at e1
  change M' t2=_ at e2
  have two:∃ b1',S.M t1=(g1,some b1') /\ ED b1'.st /\ b1'.cells.length=b1.cells.length:=by
   by_cases h1:t1=t
   ·subst h1
    rw [hMt] at e1
    simp only [Prod.mk.injEq,Option.some.injEq] at e1
    obtain ⟨rfl,rfl⟩:=e1
    exact ⟨blk,e,hst,(DN _ _ _ hfit).symm⟩
   ·exact ⟨b1,(hMs t1 g1 b1 h1 e1).1,s1,rfl⟩
  obtain ⟨b1',f1,f2,f3⟩:=two
  by_cases h2:t2=t
  ·subst h2
   have:=h.uniq t1 g1 b1' t2 g blk b' c1 c2 hne f1 e f2 m1 m2
   unfold ED at hst;omega
  ·have:=h.uniq t1 g1 b1' t2 g2 b2 b' c1 c2 hne f1 (hMs t2 g2 b2 h2 e2).1 f2 m1 m2
   exact absurd this.1 (hMs t2 g2 b2 h2 e2).2
 ·refine h.below.then (y9:=fun k=>k=b) ⟨rfl,rfl,rfl,by simp,fun k _ hk'=>hoth k hk'⟩ ?_
  intro i hi hw hib
  have:=(h.place t g blk b cap e hm).1
  subst hib
  exact this.elim (fun h=>by omega) hw
end Go.Ab
namespace Go.Ab
open Go.RowKit
inductive Data (ok:Nat -> Prop) (Cv:DV -> Prop) (M:Nat -> Nat × Option Au):SV -> DV -> Prop
 | dv (d:DV):Cv d -> Data ok Cv M (.dv d) d
 | Bh:Data ok Cv M .Bh (.list [])
 | emp (b:Bool):Data ok Cv M (.emp b) (.list [])
 | sl (t g off n:Nat) (blk:Au) (l:List DV) (s:Nat -> SV):M t=(g,some blk) -> ok blk.st -> l.length=n -> (∀ d ∈ l,d.cells.length=blk.C8) →
   (∀ j c,(flat l)[j]?=some c -> blk.cells[off * blk.C8+j]?=some (s j)) -> (∀ j c,(flat l)[j]?=some c -> Data ok Cv M (s j) c) -> Data ok Cv M (.sl t g off n) (.list l)
 | pt (t g off:Nat) (blk:Au) (cs:List DV) (s:Nat -> SV):M t=(g,some blk) -> ok blk.st →
   (∀ j c,cs[j]?=some c -> blk.cells[off+j]?=some (s j)) -> (∀ j c,cs[j]?=some c -> Data ok Cv M (s j) c) -> Data ok Cv M (.pt t g off) (.Cy cs)
 | agg (ss:List SV) (ds:List DV):ss.length=ds.length -> (∀ (j:Nat) s c,ss[j]?=some s -> ds[j]?=some c -> Data ok Cv M s c) -> Data ok Cv M (.agg ss) (.agg ds)
inductive Scalar:DV -> Prop
 | bool (b:Bool):Scalar (.bool b)
 | int (k:IntKind) (n:Int):Scalar (.int k n)
 | str (s:ByteArray):Scalar (.str s)
 | CU:Scalar .CU
 | Hw:Scalar .Hw
 | nilIface:Scalar .nilIface
 | iface (t:TypeId) (d:DV):Scalar d -> Scalar (.iface t d)
 | agg (cs:List DV):(∀ c ∈ cs,Scalar c) -> Scalar (.agg cs)
 | fn (f:FuncId) (pre caps:List DV):(∀ c ∈ pre,Scalar c) -> (∀ c ∈ caps,Scalar c) -> Scalar (.fn f pre caps)
theorem Scalar.rep {w w':World} {X X':Nat -> Prop} {d:DV} {v:Value} (h:Scalar d) (hr:Bn w X d v):Bn w' X' d v:=by
 induction h generalizing v with
 | bool b=>cases hr;exact .bool b
 | int k n=>cases hr;exact .int k n
 | str s=>cases hr;exact .str s
 | CU=>cases hr;exact .CU
 | Hw=>cases hr;exact .Hw
 | nilIface=>cases hr;exact .nilIface
 | iface t d _ ih=>cases hr with | iface _ _ v' h'=>exact .iface t d v' (ih h')
 | agg cs _ ih =>
  cases hr with
  | agg _ vs hsz hc=>exact .agg cs vs hsz fun j c hj=>ih c (List.mem_of_getElem? hj) (hc j c hj)
 | fn f pre caps _ _ ih1 ih2 =>
  cases hr with
  | fn _ _ _ vp vc h1 h2 h3 h4=>exact .fn f pre caps vp vc h1 h2 (fun j c hj=>ih1 c (List.mem_of_getElem? hj) (h3 j c hj)) fun j c hj=>ih2 c (List.mem_of_getElem? hj) (h4 j c hj)
theorem QM {w:World} {M:Nat -> Nat × Option Au} {μ:Nat -> Option (Nat × Nat)} {X:Nat -> Prop} {cs:List SV} {vs:List Value} (h:Ac w M μ X cs vs) :
  vs.length=cs.length /\ ∀ (j:Nat) c,cs[j]?=some c -> AJ w M μ X c (vs.toArray.getD j undef):=by
 refine ⟨h.length,fun j c hc=>?_⟩
 have hj:j < vs.length:=by have:=h.length;have:=(List.getElem?_eq_some_iff.1 hc).1;omega
 have:vs.toArray.getD j undef=vs[j]:=by simp [Array.getD,hj]
 rw [this]
 exact h.get j c _ hc (by simp [hj])
theorem Data.rep {cx:Cx} {S:St} {a:Act} {w:World} {μ:Nat -> Option (Nat × Nat)} (h:BJ cx S a w μ) {ok:Nat -> Prop} {Cv:DV -> Prop} {Y:Nat -> Prop}
  (hY:∀ t g blk b cap,S.M t=(g,some blk) -> ok blk.st -> μ t=some (b,cap) -> ¬ Y b)
  (hd:∀ d v,Cv d -> Bn w (XX cx S.M μ) d v -> Bn w Y d v) {s:SV} {d:DV} (hD:Data ok Cv S.M s d):∀ v,AJ w S.M μ (XX cx S.M μ) s v -> Bn w Y d v:=by
 induction hD with
 | dv d hok=>intro v hv;simp only [AJ] at hv;exact hd d v hok hv
 | Bh=>intro v hv;simp only [AJ] at hv;subst hv;exact .Cq _ _
 | emp b=>intro v hv;simp only [AJ] at hv;obtain ⟨a,cap,rfl,_⟩:=hv;exact .Cq _ _
 | sl t g off n blk l s e hst hn he hc _ ih =>
  intro v hv
  simp only [AJ] at hv
  have hv:=hv.2 blk e
  have hb:=h.blk t g blk e
  unfold Bt at hb
  cases hm:μ t with
  | none =>
   rw [hm] at hv
   simp only at hv
   obtain ⟨rfl,rfl,rfl⟩:=hv
   have:l=[]:=List.eq_nil_of_length_eq_zero hn
   subst this
   exact .Cq _ _
  | some p =>
   obtain ⟨b,cap⟩:=p
   rw [hm] at hv hb
   simp only at hv hb
   obtain ⟨rfl,hcap⟩:=hv
   obtain ⟨cur,q1,q2,q3,_,_⟩:=hb
   subst hn
   have hx:∀ j c,(flat l)[j]?=some c -> ∃ u,cur[off * blk.C8+j]?=some u:=fun j c hj=>by
    have h1:=hc j c hj
    have h2:=(List.getElem?_eq_some_iff.1 h1).1
    have h3:off * blk.C8+j < cur.size:=by omega
    exact ⟨cur[off * blk.C8+j],by simp [h3]⟩
   refine .list l b (off * blk.C8) (cap - off) blk.C8 (fun j=>cur.getD (off * blk.C8+j) undef) (hY t g blk b cap e hst hm) (h.place t g blk b cap e hm).2 (by omega) he ?_ ?_
   ·intro j c hj
    obtain ⟨u,hu⟩:=hx j c hj
    simp [World.cell?,q1,hu]
   ·intro j c hj
    obtain ⟨u,hu⟩:=hx j c hj
    have hg:cur.getD (off * blk.C8+j) undef=u:=by simp [hu]
    rw [hg]
    exact ih j c hj u (q3 _ _ u (hc j c hj) hu)
 | pt t g off blk cs s e hst hc _ ih =>
  intro v hv
  simp only [AJ] at hv
  obtain ⟨b,cap,hm,rfl⟩:=hv.2 blk e
  have hb:=h.blk t g blk e
  unfold Bt at hb
  rw [hm] at hb
  simp only at hb
  obtain ⟨cur,q1,q2,q3,_,_⟩:=hb
  have hx:∀ j c,cs[j]?=some c -> ∃ u,cur[off+j]?=some u:=fun j c hj=>by
   have h1:=hc j c hj
   have h2:=(List.getElem?_eq_some_iff.1 h1).1
   have h3:off+j < cur.size:=by omega
   exact ⟨cur[off+j],by simp [h3]⟩
  refine .Cy cs b off (fun j=>cur.getD (off+j) undef) (hY t g blk b cap e hst hm) (h.place t g blk b cap e hm).2 ?_ ?_
  ·intro j c hj
   obtain ⟨u,hu⟩:=hx j c hj
   simp [World.cell?,q1,hu]
  ·intro j c hj
   obtain ⟨u,hu⟩:=hx j c hj
   have hg:cur.getD (off+j) undef=u:=by simp [hu]
   rw [hg]
   exact ih j c hj u (q3 _ _ u (hc j c hj) hu)
 | agg ss ds hl _ ih =>
  intro v hv
  simp only [AJ] at hv
  obtain ⟨vs,rfl,hvs⟩:=hv
  obtain ⟨h1,h2⟩:=QM hvs
  refine .agg ds vs.toArray (by simp;omega) fun j c hj=>?_
  have hj':j < ss.length:=by have:=(List.getElem?_eq_some_iff.1 hj).1;omega
  exact ih j ss[j] c (by simp [hj']) hj _ (h2 j _ (by simp [hj']))
abbrev Fu:=Data (fun _=>True) (fun _=>True)
abbrev Df:=Data (fun st=>st=1) (fun _=>True)
theorem Fu.rep {cx:Cx} {S:St} {a:Act} {w:World} {μ:Nat -> Option (Nat × Nat)} (h:BJ cx S a w μ) {s:SV} {d:DV} (hD:Fu S.M s d) {v:Value}
  (hv:AJ w S.M μ (XX cx S.M μ) s v):Bn w (fun _=>False) d v :=
 Data.rep h (Y:=fun _=>False) (fun _ _ _ _ _ _ _ _ h=>h) (fun _ _ _ hr=>hr.weaken (fun _ h=>h.elim)) hD v hv
theorem Df.rep {cx:Cx} (hg:cx.Good) {S:St} {a:Act} {w:World} {μ:Nat -> Option (Nat × Nat)} (h:BJ cx S a w μ) {s:SV} {d:DV} (hD:Df S.M s d) {v:Value}
  (hv:AJ w S.M μ (XX cx S.M μ) s v):Bn w (XX cx S.M μ) d v :=
 Data.rep h (Y:=XX cx S.M μ) (fun t g blk b cap e hst hm hx=>by
  rcases hx with ⟨t',g',Aj,cap',e',hst',hm'⟩ | hx
  ·have hne:t' ≠ t:=fun ht=>by subst ht;rw [e] at e';simp only [Prod.mk.injEq,Option.some.injEq] at e';obtain ⟨_,rfl⟩:=e';unfold ED at hst';omega
   have:=(h.uniq t' g' Aj t g blk b cap' cap hne e' e hst' hm' hm).1
   omega
  ·have:=(h.place t g blk b cap e hm).1
   have h0:=hg.1 b hx
   rcases this with h1 | h1
   ·omega
   ·exact h0.2 h1) (fun _ _ _ hr=>hr) hD v hv
theorem BJ.weak {cx:Cx} {S S':St} {a:Act} {w:World} {μ:Nat -> Option (Nat × Nat)} (h:BJ cx S a w μ)
  (hF:∀ i,S'.F i=.dead \/ S'.F i=S.F i) (hM:∀ t,S'.M t=S.M t \/ S'.M t=((S.M t).1,none)):BJ cx S' a w μ:=by
 have hM1:∀ t g blk,S'.M t=(g,some blk) -> S.M t=(g,some blk):=fun t g blk e=>by
  rcases hM t with h1 | h1
  ·rw [<- h1];exact e
  ·rw [h1] at e;simp at e
 have hg:∀ t,(S.M t).1 <= (S'.M t).1:=fun t=>by
  rcases hM t with h1 | h1<;>rw [h1]<;>exact Nat.le_refl _
 have hown:∀ b,Own S'.M μ b -> Own S.M μ b:=by
  rintro b ⟨t,g,blk,cap,e1,e2,e3⟩
  exact ⟨t,g,blk,cap,hM1 t g blk e1,e2,e3⟩
 have hk:∀ b,b < w.heap.size -> ¬ XX cx S.M μ b -> w.heap[b]?=w.heap[b]? /\ ¬ XX cx S'.M μ b:=fun b _ hx=>⟨rfl,fun ho=>hx (ho.imp (hown b) id)⟩
 have hB:∀ t g Aj,S'.M t=(g,some Aj) -> g <= (S.M t).1 -> ∃ blk,S.M t=(g,some blk) /\ μ t=μ t /\ Aj.C8=blk.C8:=fun t g Aj e _=>⟨Aj,hM1 t g Aj e,rfl,rfl⟩
 exact {
  blk:=fun t g blk e=>(h.blk t g blk (hM1 t g blk e)).mono (st:=blk.st) (Nat.le_refl _) hk hg hB rfl (fun _ _ _=>rfl)
  slot:=fun i=>by
   rcases hF i with h1 | h1
   ·rw [h1];trivial
   ·rw [h1];exact AJ.mono (Nat.le_refl _) hk hg hB _ _ (h.slot i)
  place:=fun t g blk b cap e hm=>h.place t g blk b cap (hM1 t g blk e) hm
  uniq:=fun t g blk t' g' Aj b cap cap' hne e e'=>h.uniq t g blk t' g' Aj b cap cap' hne (hM1 t g blk e) (hM1 t' g' Aj e')
  Ei:=fun t g blk e h3=>h.Ei t g blk (hM1 t g blk e) h3
  below:=h.below
  size:=h.size
  defers:=h.defers }
theorem BJ.yY {cx:Cx} {S:St} {a:Act} {w:World} {μ:Nat -> Option (Nat × Nat)} (h:BJ cx S a w μ) (t C8:Nat) (elem:TypeId) :
  BJ cx { S with M:=upd S.M t ((S.M t).1+1,some ⟨[],C8,elem,0,true⟩) } a w (upd μ t none):=by
 have hown:∀ b,Own (upd S.M t ((S.M t).1+1,some ⟨[],C8,elem,0,true⟩)) (upd μ t none) b -> Own S.M μ b:=by
  rintro b ⟨t',g',Aj,cap',e1,e2,e3⟩
  by_cases ht:t'=t
  ·subst ht;rw [upd_same] at e3;cases e3
  ·rw [upd_ne _ _ _ _ ht] at e1 e3;exact ⟨t',g',Aj,cap',e1,e2,e3⟩
 have hk:∀ b,b < w.heap.size -> ¬ XX cx S.M μ b -> w.heap[b]?=w.heap[b]? /\ ¬ XX cx (upd S.M t ((S.M t).1+1,some ⟨[],C8,elem,0,true⟩)) (upd μ t none) b :=
  fun b _ hx=>⟨rfl,fun ho=>hx (ho.imp (hown b) id)⟩
 have hM:∀ t',(S.M t').1 <= (upd S.M t ((S.M t).1+1,some ⟨[],C8,elem,0,true⟩) t').1:=fun t'=>by
  by_cases ht:t'=t
  ·subst ht;rw [upd_same];exact Nat.le_succ _
  ·rw [upd_ne _ _ _ _ ht];exact Nat.le_refl _
 have hB:∀ t' g Aj,upd S.M t ((S.M t).1+1,some ⟨[],C8,elem,0,true⟩) t'=(g,some Aj) -> g <= (S.M t').1 →
   ∃ blk,S.M t'=(g,some blk) /\ upd μ t none t'=μ t' /\ Aj.C8=blk.C8:=fun t' g Aj e hg=>by
  by_cases ht:t'=t
  ·subst ht;rw [upd_same] at e;simp at e;omega
  ·rw [upd_ne _ _ _ _ ht] at e ⊢;exact ⟨Aj,e,rfl,rfl⟩
 refine { blk:=?_,slot:=?_,place:=?_,uniq:=?_,Ei:=?Ei,below:=h.below,size:=h.size,defers:=h.defers }
 case Ei =>
  intro t' g' Aj e h3
  by_cases ht:t'=t
  ·subst ht
   simp only [upd_same,Prod.mk.injEq,Option.some.injEq] at e
   obtain ⟨_,rfl⟩:=e
   simp at h3
  ·rw [upd_ne _ _ _ _ ht]
   simp only [upd_ne _ _ _ _ ht] at e
   exact h.Ei t' g' Aj e h3
 ·intro t' g Aj e
  by_cases ht:t'=t
  ·subst ht
   simp only [upd_same,Prod.mk.injEq,Option.some.injEq] at e
   obtain ⟨_,rfl⟩:=e
   unfold Bt
   rw [upd_same]
   exact ⟨rfl,rfl⟩
  ·simp only [upd_ne _ _ _ _ ht] at e
   exact (h.blk t' g Aj e).mono (st:=Aj.st) (Nat.le_refl _) hk hM hB (upd_ne _ _ _ _ ht) (fun _ _ _=>rfl)
 ·exact fun i=>AJ.mono (Nat.le_refl _) hk hM hB _ _ (h.slot i)
 ·intro t' g Aj b cap' e hm
  by_cases ht:t'=t
  ·subst ht;rw [upd_same] at hm;cases hm
  ·simp only [upd_ne _ _ _ _ ht] at e hm;exact h.place _ _ _ _ _ e hm
 ·intro t1 g1 b1 t2 g2 b2 b c1 c2 hne e1 e2 s1 m1 m2
  by_cases h1:t1=t
  ·subst h1;rw [upd_same] at m1;cases m1
  ·by_cases h2:t2=t
   ·subst h2;rw [upd_same] at m2;cases m2
   ·simp only [upd_ne _ _ _ _ h1] at e1 m1
    simp only [upd_ne _ _ _ _ h2] at e2 m2
    exact h.uniq t1 g1 b1 t2 g2 b2 b c1 c2 hne e1 e2 s1 m1 m2
end Go.Ab
namespace Go.Ab
open Go.RowKit
def Ec (P:Program) (t:TypeId):Option Nat:=(P.info? t).map (·.size)
def FL (P:Program) (t:TypeId):Option Nat:=(P.info? t).map (·.bytes)
def FB (P:Program) (t:TypeId):Option Bool:=(P.underlying t).map fun | .struct _ | .array _ _=>true | _=>false
def Cr (P:Program) (t:TypeId):Option TypeId:=match P.underlying t with | some (.slice e)=>some e | _=>none
def Hz (P:Program) (t:TypeId):Option IntKind:=match P.underlying t with | some (.int k)=>some k | _=>none
def Bp (P:Program) (s:TypeId) (f:Nat):Option Nat :=
 match P.underlying s with
 | some (.struct fs)=>match fs[f]? with
  | some fl=>match Ec P fl.type with
   | some (_+1)=>some fl.offset
   | _=>none
  | none=>none
 | _=>none
def Ag:Value -> SV
 | .bool b=>.dv (.bool b)
 | .int k n=>.dv (.int k n)
 | .string s=>.dv (.str s)
 | .slice none 0 0=>.Bh
 | .pointer none=>.dv .CU
 | .nilFunc=>.dv .Hw
 | .nilIface=>.dv .nilIface
 | _=>.dead
def Ah:Value -> SV
 | .agg cs=>.agg (cs.toList.map Ag)
 | v=>Ag v
def Co (P:Program) (t:TypeId):Option (List SV):=match P.info? t with | some i=>i.zero.map fun z=>z.cells.toList.map Ag | none=>none
section
variable {w:World} {M:Nat -> Nat × Option Au} {μ:Nat -> Option (Nat × Nat)} {X:Nat -> Prop}
theorem MW (v:Value):AJ w M μ X (Ag v) v:=by
 unfold Ag
 split<;>simp only [AJ]
 ·exact .bool _
 ·exact .int _ _
 ·exact .str _
 ·exact .CU
 ·exact .Hw
 ·exact .nilIface
theorem Hf (l:List Value):Ac w M μ X (l.map Ag) l:=by
 induction l with
 | nil=>trivial
 | cons a l ih=>simp only [List.map_cons,Ac];exact ⟨MW a,ih⟩
theorem iN (v:Value):AJ w M μ X (Ah v) v:=by
 unfold Ah
 split
 ·rename_i cs
  simp only [AJ]
  exact ⟨cs.toList,by simp,Hf _⟩
 ·exact MW v
end
def St.ev (S:St):Operand -> SV
 | .tmp t=>S.F t
 | .const v=>Ah v
 | .func f=>.dv (.fn f [] [])
 | .global _=>.dead
theorem BJ.ev {cx:Cx} {S:St} {a:Act} {w:World} {μ:Nat -> Option (Nat × Nat)} (h:BJ cx S a w μ) (x:Operand) :
  AJ w S.M μ (XX cx S.M μ) (S.ev x) (a.eval x):=by
 cases x with
 | tmp t=>exact h.slot t
 | const v=>exact iN v
 | func f=>simp only [St.ev,AJ,Act.eval];exact .fn f [] [] #[] #[] rfl rfl (fun j c hj=>by simp at hj) (fun j c hj=>by simp at hj)
 | global g=>trivial
def AO (M:Nat -> Nat × Option Au):SV -> Option Au
 | .sl t g _ _=>if (M t).1=g then (M t).2 else none
 | .pt t g _=>if (M t).1=g then (M t).2 else none
 | _=>none
theorem IC {M:Nat -> Nat × Option Au} {t g off n:Nat} {blk:Au} (h:AO M (.sl t g off n)=some blk):M t=(g,some blk):=by
 simp only [AO] at h
 split at h
 ·rename_i e;rw [<- e,<- h]
 ·cases h
theorem JN {M:Nat -> Nat × Option Au} {t g off:Nat} {blk:Au} (h:AO M (.pt t g off)=some blk):M t=(g,some blk):=by
 simp only [AO] at h
 split at h
 ·rename_i e;rw [<- e,<- h]
 ·cases h
abbrev Lk:=Operand -> SV × Option Au
def St.look (S:St):Lk:=fun x=>(S.ev x,AO S.M (S.ev x))
def Cb:SV -> Option (List SV)
 | .dv (.agg ds)=>some (ds.map .dv)
 | .dv d=>some [.dv d]
 | .Bh=>some [.Bh]
 | .emp b=>some [.emp b]
 | .sl t g o n=>some [.sl t g o n]
 | .pt t g o=>some [.pt t g o]
 | .agg cs=>some cs
 | _=>none
def DI:SV -> Bool
 | .dv (.agg _)=>false
 | .dv _=>true
 | .Bh=>true
 | .emp _=>true
 | .sl ..=>true
 | .pt ..=>true
 | _=>false
theorem TK {w:World} {X:Nat -> Prop} {d:DV} {v:Value} (h:Bn w X d v) (hd:∀ cs,d ≠ .agg cs):v.cells=#[v] /\ v.oneCell'=true:=by
 cases h<;>first | exact ⟨rfl,rfl⟩ | exact absurd rfl (hd _)
theorem ME {w:World} {M:Nat -> Nat × Option Au} {μ:Nat -> Option (Nat × Nat)} {X:Nat -> Prop} {c:SV} {v:Value} (hc:DI c=true) (h:AJ w M μ X c v):v.oneCell'=true:=by
 cases c with
 | dead=>simp [DI] at hc
 | dv d =>
  simp only [AJ] at h
  refine (TK h fun cs e=>?_).2
  subst e
  simp [DI] at hc
 | Bh=>simp only [AJ] at h;subst h;rfl
 | emp b=>simp only [AJ] at h;obtain ⟨a,cap,rfl,_⟩:=h;rfl
 | sl t g o n=>simp only [AJ] at h;exact h.1.1
 | pt t g o=>simp only [AJ] at h;exact h.1.1
 | agg cs=>simp [DI] at hc
 | Em cs=>simp [DI] at hc
theorem Ng {v:Value} (h:v.oneCell'=true):v.cells=#[v]:=by
 cases v<;>first | rfl | simp [Value.oneCell'] at h
theorem KU {w:World} {M:Nat -> Nat × Option Au} {μ:Nat -> Option (Nat × Nat)} {X:Nat -> Prop} {s:SV} {cs:List SV} {v:Value} (hc:Cb s=some cs) (h:AJ w M μ X s v) :
  Ac w M μ X cs v.cells.toList:=by
 cases s with
 | dead=>simp [Cb] at hc
 | dv d =>
  simp only [AJ] at h
  cases d with
  | agg ds =>
   simp only [Cb,Option.some.injEq] at hc
   subst hc
   cases h with
   | agg _ vs hsz hh =>
    refine Ac.mk (by simpa [Value.cells] using hsz) fun j c u hj hu=>?_
    simp only [List.getElem?_map,Option.map_eq_some_iff] at hj
    obtain ⟨d,hd,rfl⟩:=hj
    have:=hh j d hd
    simp only [Value.cells,Array.getElem?_toList] at hu
    simp only [AJ]
    simpa [hu] using this
  | _ =>
   simp only [Cb,Option.some.injEq] at hc
   subst hc
   rw [(TK h (by simp)).1]
   exact ⟨by simpa only [AJ] using h,trivial⟩
 | Bh =>
  simp only [Cb,Option.some.injEq] at hc
  subst hc
  simp only [AJ] at h
  subst h
  exact ⟨rfl,trivial⟩
 | emp b =>
  simp only [Cb,Option.some.injEq] at hc
  subst hc
  have h':=h
  simp only [AJ] at h'
  obtain ⟨a,cap,rfl,_⟩:=h'
  exact ⟨h,trivial⟩
 | sl t g o n =>
  simp only [Cb,Option.some.injEq] at hc
  subst hc
  rw [Ng (by simp only [AJ] at h;exact h.1.1)]
  exact ⟨h,trivial⟩
 | pt t g o =>
  simp only [Cb,Option.some.injEq] at hc
  subst hc
  rw [Ng (by simp only [AJ] at h;exact h.1.1)]
  exact ⟨h,trivial⟩
 | agg cs' =>
  simp only [Cb,Option.some.injEq] at hc
  subst hc
  simp only [AJ] at h
  obtain ⟨vs,rfl,hv⟩:=h
  simpa [Value.cells] using hv
 | Em cs'=>simp [Cb] at hc
def LP:List SV -> Option (List DV)
 | []=>some []
 | .dv d :: r=>match LP r with | some l=>some (d :: l) | none=>none
 | _ :: _=>none
def LQ (cs:List SV):SV:=match LP cs with | some ds=>.dv (.agg ds) | none=>.agg cs
theorem OZ:∀ (cs:List SV) (ds:List DV),LP cs=some ds -> cs=ds.map .dv
 | [],ds,h=>by simp [LP] at h;subst h;rfl
 | .dv d :: r,ds,h=>by
  simp only [LP] at h
  split at h
  ·rename_i l hl
   simp only [Option.some.injEq] at h
   subst h
   rw [OZ r l hl]
   rfl
  ·cases h
 | .dead :: _,_,h | .Bh :: _,_,h | .emp _ :: _,_,h | .sl .. :: _,_,h | .pt .. :: _,_,h | .agg _ :: _,_,h | .Em _ :: _,_,h=>by simp [LP] at h
theorem UG {w:World} {M:Nat -> Nat × Option Au} {μ:Nat -> Option (Nat × Nat)} {X:Nat -> Prop} {cs:List SV} {vs:List Value} (h:Ac w M μ X cs vs):AJ w M μ X (LQ cs) (.agg vs.toArray):=by
 unfold LQ
 split
 ·rename_i ds hd
  have e:=OZ cs ds hd
  subst e
  simp only [AJ]
  obtain ⟨h1,h2⟩:=QM h
  refine .agg ds vs.toArray (by simpa using h1) fun j c hj=>?_
  have:=h2 j (.dv c) (by simp [hj])
  simpa only [AJ] using this
 ·simp only [AJ]
  exact ⟨vs,rfl,h⟩
end Go.Ab
