/- Ab19, Ab20, Ab21, Ab22. -/
import Derived.Test.YtjcecljhjailiaaGreatDoorBogG04
set_option linter.unusedVariables false
namespace Go.Ab
open Go.RowKit
section
variable {md:Region.Mode} {ops:Array Oper}
def xM (md:Region.Mode) (ops:Array Oper) (k:Nat) (bits:Nat):Prop :=
 ∀ o,ops[k]?=some o -> ∀ L:Nat -> Bool,Clo md ops L -> (∀ e ∈ o.after,Region.binds md e=true -> L e.on=true) -> ∀ i,bits.testBit i=true -> L i=true
theorem Zz {L:Nat -> Bool} (acc:List Nat) (hacc:∀ k,L k=true -> ∀ i,(acc.getD k 0).testBit i=true -> L i=true):∀ (es:List Edge) (s:Nat),
  (∀ i,s.testBit i=true -> L i=true) -> (∀ e ∈ es,Region.binds md e=true -> L e.on=true) →
  ∀ i,(es.foldl (fun s e=>if Region.binds md e then s ||| 2 ^ e.on ||| acc.getD e.on 0 else s) s).testBit i=true -> L i=true
 | [],s,hs,_,i,h=>hs i h
 | e :: es,s,hs,he,i,h=>by
  refine Zz acc hacc es _ (fun i hi=>?_) (fun e' h'=>he e' (List.mem_cons_of_mem _ h')) i h
  replace hi:(if Region.binds md e then s ||| 2 ^ e.on ||| acc.getD e.on 0 else s).testBit i=true:=hi
  split at hi
  ·rename_i hb
   simp only [Nat.testBit_or,Bool.or_eq_true] at hi
   have hon:=he e (by simp) hb
   rcases hi with (hi | hi) | hi
   ·exact hs i hi
   ·rw [Nat.testBit_two_pow] at hi
    simp only [decide_eq_true_eq] at hi
    rw [<- hi];exact hon
   ·exact hacc _ hon i hi
  ·exact hs i hi
theorem iN:∀ (l:List Oper) (acc:List Nat),(∀ j,ops[acc.length+j]?=l[j]?) -> (∀ k,k < acc.length -> xM md ops k (acc.getD k 0)) →
  ∀ k,xM md ops k ((dX md l acc).getD k 0)
 | [],acc,hl,hacc,k=>by
  rcases Nat.lt_or_ge k acc.length with h | h
  ·exact hacc k h
  ·intro o ho L hc hp i hi
   have:(dX md [] acc).getD k 0=0:=by simp [dX,List.getElem?_eq_none h]
   rw [this] at hi
   simp at hi
 | o :: l,acc,hl,hacc,k=>by
  refine iN l _ (fun j=>?_) (fun k hk=>?_) k
  ·rw [List.length_append,List.length_singleton,Nat.add_assoc,Nat.add_comm 1 j,hl (j+1)]
   rfl
  ·rcases Nat.lt_or_ge k acc.length with h | h
   ·have:=hacc k h
    rw [show ∀ x:Nat,(acc ++ [x]).getD k 0=acc.getD k 0 by intro x;simp [List.getElem?_append_left h]]
    exact this
   ·have hk':k=acc.length:=by simp at hk;omega
    subst hk'
    rw [show ∀ x:Nat,(acc ++ [x]).getD acc.length 0=x by intro x;simp]
    intro o' ho' L hc hp i hi
    have h0:ops[acc.length]?=some o:=by simpa using hl 0
    have:o'=o:=Option.some.inj (ho'.symm.trans h0)
    subst this
    refine Zz acc (fun k hLk i hi=>?_) o'.after.toList 0 (fun i hi=>by simp at hi) (fun e he hb=>hp e (by simpa using he) hb) i hi
    rcases Nat.lt_or_ge k acc.length with h | h
    ·rcases hok:ops[k]? with _ | ok
     ·have:k < ops.size:=by
       have:=(Array.getElem?_eq_some_iff.1 h0).1;omega
      simp [this] at hok
     ·exact hacc k h ok hok L hc (hc k ok hok hLk) i hi
    ·simp [List.getElem?_eq_none h] at hi
theorem Zq:∀ (l:List Oper) (n:Nat),(∀ j,ops[n+j]?=l[j]?) -> WU md l n=true -> ∀ (i:Nat) o,n <= i -> ops[i]?=some o -> ∀ e ∈ o.after,Region.binds md e=true -> e.on < i
 | [],n,hl,_,i,o,hi,ho=>by
  have:=hl (i - n)
  rw [show n+(i - n)=i by omega,ho] at this
  simp at this
 | x :: l,n,hl,hb,i,o,hi,ho=>by
  simp only [WU,Bool.and_eq_true] at hb
  rcases Nat.eq_or_lt_of_le hi with h | h
  ·subst h
   have:=hl 0
   rw [Nat.add_zero,ho] at this
   simp at this
   subst this
   intro e he hbd
   have:=List.all_eq_true.1 hb.1 e (by simpa using he)
   simpa [hbd] using this
  ·exact Zq l (n+1) (fun j=>by rw [Nat.add_assoc,Nat.add_comm 1 j,hl (j+1)];rfl) hb.2 i o h ho
theorem gT {its:List It} (h1:WU md ops.toList 0=true) (h2:oq md ops its (dX md ops.toList [])=true):Free md ops its:=by
 refine ⟨fun i o ho=>Zq ops.toList 0 (fun j=>by simp) h1 i o (Nat.zero_le _) ho,fun i j x y a b hij hx hy ha hb=>?_⟩
 have hj:j < ops.size:=(Array.getElem?_eq_some_iff.1 hy).1
 have h3:=List.all_eq_true.1 h2 j (List.mem_range.2 hj)
 have h4:=List.all_eq_true.1 h3 i (List.mem_range.2 hij)
 simp only [hx,hy,ha,hb,Bool.or_eq_true] at h4
 rcases h4 with h4 | h4
 ·exact .inr fun L hc hp=>iN ops.toList [] (fun j=>by simp) (fun k hk=>by simp at hk) j y hy L hc hp i h4
 ·exact .inl h4
theorem WL {p q:Nat -> Bool}:∀ (l:List Nat) (i:Nat),i ∈ l -> (∀ k ∈ l,q k=true -> p k=true) -> p i=true -> q i=false -> l.countP q < l.countP p
 | [],_,h,_,_,_=>by cases h
 | a :: l,i,h,hqp,hp,hq=>by
  have hle:l.countP q <= l.countP p:=List.countP_mono_left fun k hk hqk=>hqp k (List.mem_cons_of_mem _ hk) hqk
  rcases List.mem_cons.1 h with rfl | h1
  ·rw [List.countP_cons_of_pos hp,List.countP_cons_of_neg (by simp [hq])]
   omega
  ·have ih:=WL l i h1 (fun k hk=>hqp k (List.mem_cons_of_mem _ hk)) hp hq
   rw [List.countP_cons,List.countP_cons]
   have:(if q a=true then 1 else 0) <= (if p a=true then 1 else 0):=by
    by_cases hqa:q a=true
    ·rw [if_pos hqa,if_pos (hqp a (by simp) hqa)];exact Nat.le_refl _
    ·rw [if_neg hqa];exact Nat.zero_le _
   omega
variable {cx:Cx} {its:List It} {S0:St} {Φ:St -> Prop} {Q:Exit -> Act -> World -> Prop}
theorem Vf {L L':Nat -> Bool} (h:∀ i,i < its.length -> L i=L' i):MI its S0 L=MI its S0 L':=by
 unfold MI
 congr 2
 apply List.filter_congr
 rintro ⟨it,i⟩ hp
 exact h i (List.getElem?_eq_some_iff.1 (Rb hp)).1
theorem vL (hg:cx.Good) {n:Nat} (ok:N9 Φ cx ops its S0) (fr:Free md ops its) (hQ:∀ a w,KH cx (MI its S0 fun _=>true) a w -> Q .normal a w) :
  ∀ (fuel:Nat) (listed:Array Bool) (a:Act) (w:World),listed.size=ops.size -> Clo md ops (fun k=>listed.getD k false) -> (List.range ops.size).countP (fun k=>!listed.getD k false) <= fuel →
   KH cx (MI its S0 fun k=>listed.getD k false) a w -> wpAnyIn cx.fence n cx.P md ops Q fuel listed a w:=by
 have done:∀ (listed:Array Bool) (a:Act) (w:World),listed.size=ops.size -> Region.ready md ops listed=[] -> KH cx (MI its S0 fun k=>listed.getD k false) a w -> Q .normal a w:=by
  intro listed a w hsz hr hs
  have all:∀ i,i < ops.size -> listed.getD i false=true:=by
   intro i
   induction i using Nat.strongRecOn with
   | _ i ih =>
    intro hi
    cases hl:listed.getD i false with
    | true=>rfl
    | false =>
     have:i ∈ Region.ready md ops listed:=mem_ready.2 ⟨getD_in (by omega) hl,ops[i],by simp [hi],fun e he hb=>ih e.on (fr.back i ops[i] (by simp [hi]) e he hb) (by
      have:=fr.back i ops[i] (by simp [hi]) e he hb;omega)⟩
     rw [hr] at this
     cases this
  refine hQ a w ?_
  rwa [Vf (L':=fun _=>true) fun i hi=>all i (by rw [<- ok.len];exact hi)] at hs
 intro fuel
 induction fuel with
 | zero =>
  intro listed a w hsz hc hn hs
  have hr:Region.ready md ops listed=[]:=by
   rw [List.eq_nil_iff_forall_not_mem]
   intro i hi
   obtain ⟨h1,o,ho,_⟩:=mem_ready.1 hi
   have hlt:i < ops.size:=(Array.getElem?_eq_some_iff.1 ho).1
   have:0 < (List.range ops.size).countP (fun k=>!listed.getD k false):=List.countP_pos_iff.2 ⟨i,List.mem_range.2 hlt,by simpa using getD_both h1⟩
   omega
  exact ⟨hr,done listed a w hsz hr hs⟩
 | succ fuel ih =>
  intro listed a w hsz hc hn hs
  refine ⟨fun hr=>done listed a w hsz hr hs,fun i hi=>?_⟩
  obtain ⟨h1,o,ho,hpre⟩:=mem_ready.1 hi
  have hlt:i < ops.size:=(Array.getElem?_eq_some_iff.1 ho).1
  have hit:its[i]?=some (its[i]'(by rw [ok.len];exact hlt)):=by simp [ok.len,hlt]
  have hst:=Wq ok fr hc ho hit (getD_both h1) hpre
  have hins:=aT ok fr hc ho hit (getD_both h1)
  have hset:∀ k,(listed.setIfInBounds i true).getD k false=(listed.getD k false || k == i):=fun k=>by
   by_cases hk:i=k
   ·subst hk
    have:i < listed.size:=by omega
    simp [this]
   ·rw [getD_set_ne false hk]
    simp [Ne.symm hk]
  have key:∀ a' w',KH cx ((its[i]'(by rw [ok.len];exact hlt)).e.app (MI its S0 fun k=>listed.getD k false)) a' w' -> wpAnyIn cx.fence n cx.P md ops Q fuel (listed.setIfInBounds i true) a' w':=fun a' w' h'=>by
   refine ih _ a' w' (by simpa using hsz) (fun k o' hk hl e he hb=>?_) ?_ ?_
   ·simp only [hset] at hl ⊢
    by_cases hki:k=i
    ·subst hki
     have:o'=o:=Option.some.inj (hk.symm.trans ho)
     subst this
     rw [hpre e he hb];rfl
    ·have:listed.getD k false=true:=by simpa [hki] using hl
     have h2:listed.getD e.on false=true:=hc k o' hk this e he hb
     rw [h2];rfl
   ·have:(List.range ops.size).countP (fun k=>!(listed.setIfInBounds i true).getD k false) < (List.range ops.size).countP (fun k=>!listed.getD k false):=by
     refine WL _ i (List.mem_range.2 hlt) (fun k _ hk=>?_) (by simpa using getD_both h1) ?_
     ·simp only [hset] at hk
      simp only [Bool.not_or,Bool.and_eq_true] at hk
      exact hk.1
     ·simp only [hset];simp
    omega
   ·rw [<- hins] at h'
    rwa [show (fun k=>(listed.setIfInBounds i true).getD k false)=fun k=>(listed.getD k false || k == i) from funext hset]
  unfold wpOpIn
  simp only [ho]
  rcases Lr hg hs hst with ⟨g1,g2⟩ | ⟨g1,g2⟩
  ·rw [if_pos g1]
   exact Oper.wpIn_mono (fun a' w' h'=>key a' w' h') (g2.wpIn hs n Q)
  ·rw [if_neg (by simp [g1])]
   exact ⟨fun _ _=>trivial,key _ _ g2⟩
theorem Bc.drawn {S:St} {a:Act} {w:World} {μ:Nat -> Option (Nat × Nat)} (h:Bc cx S a w μ) (n:Nat):Bc cx S a { w with drawn:=n } μ:=by
 have hk:∀ b,b < w.heap.size -> ¬ XX cx S.M μ b -> ({ w with drawn:=n }:World).heap[b]?=w.heap[b]? /\ ¬ XX cx S.M μ b:=fun b _ hx=>⟨rfl,hx⟩
 have hB:∀ t g Ay,S.M t=(g,some Ay) -> g <= (S.M t).1 -> ∃ blk,S.M t=(g,some blk) /\ μ t=μ t /\ Ay.CS=blk.CS:=fun t g Ay e _=>⟨Ay,e,rfl,rfl⟩
 exact {
  blk:=fun t g blk e=>CP.mono (w:=w) (w':={ w with drawn:=n }) (st:=blk.st) (Nat.le_refl _) hk (fun _=>Nat.le_refl _) hB rfl (fun _ _ _=>rfl) (h.blk t g blk e)
  slot:=fun i=>AO.mono (w:=w) (w':={ w with drawn:=n }) (Nat.le_refl _) hk (fun _=>Nat.le_refl _) hB _ _ (h.slot i)
  place:=h.place
  uniq:=h.uniq
  FQ:=h.FQ
  below:=⟨h.below.os,h.below.tape,h.below.output,h.below.size,h.below.block⟩
  size:=h.size
  defers:=h.defers }
theorem Zt (hg:cx.Good) (hm:cx.P.follows .mixedOrders=true) {id:Nat} {K:Exit -> St -> Prop} {S:St} (ok:N9 Φ cx ops its S) (fr:Free .any ops its) (hK:K .normal (MI its S fun _=>true)):Eu cx (.region id ops true) K S:=by
 rintro a w ⟨μ,hs⟩
 refine wpIn_region_any hm (vL hg ok fr (fun a' w' h=>.inl ⟨_,h,hK⟩) ops.size _ a _ (by simp) (fun k o _ hl=>?_) ?_ ?_)
 ·have hl':(Array.replicate ops.size false).getD k false=true:=hl
  rw [getD_replicate_false] at hl';cases hl'
 ·exact Nat.le_trans List.countP_le_length (by simp)
 ·have:MI its S (fun k=>(Array.replicate ops.size false).getD k false)=S:=by
   unfold MI
   have:(its.zipIdx.filter fun p=>(Array.replicate ops.size false).getD p.2 false)=[]:=by
    rw [List.filter_eq_nil_iff]
    intro p _
    rw [getD_replicate_false]
    simp
   rw [this]
   rfl
  rw [this]
  exact ⟨μ,hs.drawn _⟩
def Bz (cx:Cx) (ops:Array Oper):List Oper -> List It -> St -> (List It -> St -> Prop) -> Prop
 | [],its,S,K=>K its.reverse S
 | o :: l,its,S,K=>∃ it:It,(it.e.dst=o.dst /\ (∀ p ∈ it.e.ms,p.1 ∈ it.R) /\ (it.e.kv=true -> it.R ≠ [])) /\ Um cx ops it.R S o it.e /\ Bz cx ops l (it :: its) (it.e.app S) K
theorem YW (n:Nat):MI its S0 (fun k=>decide (k < n))=Gr ((its.take n).map (·.e)) S0:=by
 unfold MI
 congr 1
 have:∀ (l:List It) (m n:Nat),((l.zipIdx m).filter fun p=>decide (p.2 < m+n)).map (·.1.e)=(l.take n).map (·.e):=by
  intro l
  induction l with
  | nil=>intro m n;simp
  | cons a l ih =>
   intro m n
   rw [List.zipIdx_cons]
   cases n with
   | zero =>
    rw [List.filter_eq_nil_iff.2]
    ·simp
    ·intro p hp
     rcases List.mem_cons.1 hp with rfl | hp
     ·simp
     ·have:=List.mem_zipIdx (x:=p.1) (i:=p.2) hp
      simp;omega
   | succ n =>
    rw [List.filter_cons_of_pos (by simp)]
    have:=ih (m+1) n
    rw [show m+1+n=m+(n+1) by omega] at this
    simp [this]
 simpa using this its 0 n
theorem jd (l l':List Eff) (S:St):Gr (l ++ l') S=Gr l' (Gr l S):=by simp [Gr]
theorem Tw:∀ (l:List Oper) (pre:List Oper) (its:List It) (S:St) (K:List It -> St -> Prop),ops.toList=pre ++ l -> its.length=pre.length -> S=Gr (its.reverse.map (·.e)) S0 →
  (∀ (i:Nat) o it,pre[i]?=some o -> its.reverse[i]?=some it -> it.e.dst=o.dst /\ (∀ p ∈ it.e.ms,p.1 ∈ it.R) /\ (it.e.kv=true -> it.R ≠ []) /\ Um cx ops it.R (Gr ((its.reverse.take i).map (·.e)) S0) o it.e) →
  Bz cx ops l its S K -> ∃ yh,N9 (fun _=>True) cx ops yh S0 /\ K yh (MI yh S0 fun _=>true)
 | [],pre,its,S,K,h1,h2,h3,h4,h=>by
  refine ⟨its.reverse,⟨?_,fun i o it ho hit=>?_,fun _=>trivial⟩,?_⟩
  ·have:=congrArg List.length h1;simp at this;simp;omega
  ·rw [YW]
   obtain ⟨q1,q2,q3,q4⟩:=h4 i o it (by rw [List.append_nil] at h1;rw [<- h1];simpa using ho) hit
   exact ⟨q1,q2,q3,fun T _ t1 t2=>q4 T t1 t2⟩
  ·have e:MI its.reverse S0 (fun _=>true)=S:=by
    rw [h3,<- List.take_length (l:=its.reverse),<- YW,List.take_length]
    exact Vf fun i hi=>by simp at hi;simp [hi]
   rw [e]
   exact h
 | o :: l,pre,its,S,K,h1,h2,h3,h4,h=>by
  obtain ⟨it,⟨a1,a2,a3⟩,a4,a5⟩:=h
  refine Tw l (pre ++ [o]) (it :: its) _ K (by simp [h1]) (by simp [h2]) ?_ ?_ a5
  ·rw [List.reverse_cons,List.map_append,jd,<- h3]
   rfl
  ·intro i o' it' ho hit
   rw [List.reverse_cons] at hit ⊢
   rcases Nat.lt_or_ge i pre.length with hlt | hge
   ·rw [List.getElem?_append_left hlt] at ho
    have hl:i < its.reverse.length:=by simp;omega
    rw [List.getElem?_append_left hl] at hit
    rw [List.take_append_of_le_length (by omega)]
    exact h4 i o' it' ho hit
   ·rw [List.getElem?_append_right hge] at ho
    have hi:i - pre.length=0:=by
     have:=(List.getElem?_eq_some_iff.1 ho).1
     simp at this;omega
    rw [hi] at ho
    simp only [List.getElem?_cons_zero,Option.some.injEq] at ho
    subst ho
    rw [List.getElem?_append_right (by simp;omega)] at hit
    have hi2:i - its.reverse.length=0:=by simp;omega
    rw [hi2] at hit
    simp only [List.getElem?_cons_zero,Option.some.injEq] at hit
    subst hit
    have hi3:i=its.reverse.length:=by simp;omega
    rw [hi3,List.take_append_of_le_length (Nat.le_refl _),List.take_length,<- h3]
    exact ⟨a1,a2,a3,a4⟩
def om (md:Region.Mode) (ops:Array Oper) (m:List (Nat × Nat × Option BG)) (its:List It) (FQ:List Nat):Bool :=
 oq md ops its FQ || (wV m && (wU its && oq md ops (its.map It.SE) FQ))
end
end Go.Ab
set_option linter.unusedVariables false
namespace Go.Ab
open Go.RowKit
def lk:List (Nat × SV) -> Nat -> SV
 | [],_=>.dead
 | (k,v) :: l,i=>if i=k then v else lk l i
def AA:List (Nat × Nat × Option BG) -> Nat -> Nat × Option BG
 | [],_=>(0,none)
 | (k,v) :: l,i=>if i=k then v else AA l i
theorem FB (l:List (Nat × SV)) (d:Nat) (v:SV):upd (lk l) d v=lk ((d,v) :: l):=by
 funext i;simp [upd,lk]
theorem Ej (l:List (Nat × Nat × Option BG)) (d:Nat) (v:Nat × Option BG):upd (AA l) d v=AA ((d,v) :: l):=by
 funext i;simp [upd,AA]
theorem Bp:(fun _=>((0,none):Nat × Option BG))=AA []:=by funext i;rfl
def BF:Nat -> List DV -> List (Nat × SV)
 | _,[]=>[]
 | n,d :: ds=>(n,.dv d) :: BF (n+1) ds
theorem Bq (ds:List DV):IK ds=lk (BF 0 ds):=by
 have:∀ (ds:List DV) (n i:Nat),lk (BF n ds) i=if n <= i then IK ds (i - n) else .dead:=by
  intro ds
  induction ds with
  | nil=>intro n i;simp [BF,lk,IK]
  | cons d ds ih =>
   intro n i
   simp only [BF,lk,ih]
   by_cases h:i=n
   ·subst h;simp [IK]
   ·by_cases h2:n <= i
    ·have:n+1 <= i:=by omega
     have e:i - n=(i - (n+1))+1:=by omega
     simp only [h,if_false,this,if_true,h2,e,IK,List.getElem?_cons_succ]
    ·have:¬ n+1 <= i:=by omega
     simp [h,this,h2]
 funext i
 rw [this]
 simp
def Od (e:Nat × Option BG):Nat × Option BG :=
 match e.2 with
 | some b=>if b.st=2 then (e.1,none) else e
 | none=>e
def Px:List (Nat × Nat × Option BG) -> List (Nat × Nat × Option BG)
 | []=>[]
 | (k,v) :: l=>(k,Od v) :: Px l
theorem FV (l:List (Nat × Nat × Option BG)):C9 (AA l)=AA (Px l):=by
 funext i
 induction l with
 | nil=>rfl
 | cons p l ih =>
  obtain ⟨k,v⟩:=p
  by_cases h:i=k
  ·subst h
   simp only [C9,AA,Px,if_true]
   obtain ⟨g,b⟩:=v
   cases b<;>rfl
  ·have e1:AA ((k,v) :: l) i=AA l i:=by simp [AA,h]
   have e2:AA (Px ((k,v) :: l)) i=AA (Px l) i:=by simp [AA,Px,h]
   rw [e2,<- ih]
   unfold C9
   rw [e1]
def LU:SV -> List Nat
 | .sl t _ _ _=>[t]
 | .pt t _ _=>[t]
 | _=>[]
def deref:Op -> List Operand
 | .fieldAddr _ x _=>[x]
 | .indexAddr _ x _=>[x]
 | .load _ x=>[x]
 | .slice _ x _ _ _=>[x]
 | .nilCheck x=>[x]
 | .store _ x _=>[x]
 | .convert _ _ x=>[x]
 | .call c=>match c.callee with
  | .builtin .append=>c.args.toList
  | .builtin .len=>c.args.toList
  | _=>[]
 | _=>[]
def Dz (S:St) (op:Op):List Nat:=(deref op).flatMap fun x=>LU (S.ev x)
def Dn (dst:Option Nat):Out -> List Nat
 | .val _=>[]
 | .mk _ _=>dst.toList
 | .app t _ _=>dst.toList ++ t.toList
 | .put t _=>[t]
def DT (n:Nat) (S:St) (dst:Option Nat):Out -> Option Eff
 | .val r=>match dst with
  | some d=>if d < n then some ⟨some d,r,false,[]⟩ else none
  | none=>some ⟨none,.dead,false,[]⟩
 | .mk blk k=>match dst with
  | some d=>if d < n then some ⟨some d,if blk.row then .sl d ((S.M d).1+1) 0 k else .pt d ((S.M d).1+1) 0,false,[(d,(S.M d).1+1,some blk)]⟩ else none
  | none=>none
 | .app t blk k=>match dst with
  | some d=>if d < n then
    match t with
    | none=>some ⟨some d,.sl d ((S.M d).1+1) 0 k,false,[(d,(S.M d).1+1,some blk)]⟩
    | some t=>match (S.M t).2 with
     | some b=>if Dv b.st then some ⟨some d,.sl d ((S.M d).1+1) 0 k,false,[(t,(S.M t).1,some { b with st:=2 }),(d,(S.M d).1+1,some blk)]⟩ else none
     | none=>none
   else none
  | none=>none
 | .put t blk=>match dst with
  | some _=>none
  | none=>match (S.M t).2 with
   | some b=>if Dv b.st then some ⟨none,.dead,true,[(t,(S.M t).1,some blk)]⟩ else none
   | none=>none
theorem Ip {n:Nat} {S:St} {dst:Option Nat} {out:Out} {e:Eff} (h:DT n S dst out=some e):S.apply n dst out=some (e.app S):=by
 cases out with
 | val r =>
  cases dst with
  | none=>simp only [DT,Option.some.injEq] at h;subst h;rfl
  | some d =>
   simp only [DT] at h
   split at h
   ·rename_i hd;simp only [Option.some.injEq] at h;subst h;simp [St.apply,hd,Eff.app,Dl]
   ·cases h
 | mk blk k =>
  cases dst with
  | none=>simp [DT] at h
  | some d =>
   simp only [DT] at h
   split at h
   ·rename_i hd;simp only [Option.some.injEq] at h;subst h;simp [St.apply,hd,Eff.app,Dl]
   ·cases h
 | app t blk k =>
  cases dst with
  | none=>simp [DT] at h
  | some d =>
   simp only [DT] at h
   split at h
   ·rename_i hd
    cases t with
    | none=>simp only [Option.some.injEq] at h;subst h;simp [St.apply,hd,Eff.app,Dl]
    | some t =>
     simp only at h
     split at h
     ·rename_i b hb
      split at h
      ·rename_i hst
       simp only [Option.some.injEq] at h;subst h;simp [St.apply,hd,Eff.app,Dl,hb,hst]
      ·cases h
     ·cases h
   ·cases h
 | put t blk =>
  cases dst with
  | some d=>simp [DT] at h
  | none =>
   simp only [DT] at h
   split at h
   ·rename_i b hb
    split at h
    ·rename_i hst
     simp only [Option.some.injEq] at h;subst h;simp [St.apply,Eff.app,Dl,hb,hst]
    ·cases h
   ·cases h
theorem vD {n:Nat} {S:St} {dst:Option Nat} {out:Out} {e:Eff} (h:DT n S dst out=some e):e.dst=dst /\ (∀ p ∈ e.ms,p.1 ∈ Dn dst out) /\ (e.kv=true -> Dn dst out ≠ []):=by
 cases out with
 | val r=>cases dst<;>simp only [DT] at h<;>(try split at h)<;>(first | (simp only [Option.some.injEq] at h;subst h;simp;done) | cases h)
 | mk blk k=>cases dst<;>simp only [DT] at h<;>(try split at h)<;>(first | (simp only [Option.some.injEq] at h;subst h;simp [Dn];done) | cases h)
 | app t blk k =>
  cases dst with
  | none=>simp [DT] at h
  | some d =>
   simp only [DT] at h
   split at h
   ·cases t with
    | none=>simp only [Option.some.injEq] at h;subst h;simp [Dn]
    | some t =>
     simp only at h
     split at h
     ·split at h
      ·simp only [Option.some.injEq] at h;subst h;simp [Dn]
      ·cases h
     ·cases h
   ·cases h
 | put t blk =>
  cases dst with
  | some d=>simp [DT] at h
  | none =>
   simp only [DT] at h
   split at h
   ·split at h
    ·simp only [Option.some.injEq] at h;subst h;simp [Dn]
    ·cases h
   ·cases h
theorem jv {n:Nat} {S T:St} {dst:Option Nat} {out:Out} (h:∀ t ∈ Dn dst out,T.M t=S.M t):DT n T dst out=DT n S dst out:=by
 cases out with
 | val r=>rfl
 | mk blk k =>
  cases dst with
  | none=>rfl
  | some d=>have:=h d (by simp [Dn]);simp only [DT,this]
 | app t blk k =>
  cases dst with
  | none=>rfl
  | some d =>
   have h1:=h d (by simp [Dn])
   cases t with
   | none=>simp only [DT,h1]
   | some t=>have h2:=h t (by simp [Dn]);simp only [DT,h1,h2]
 | put t blk =>
  cases dst with
  | some d=>rfl
  | none=>have h1:=h t (by simp [Dn]);simp only [DT,h1]
theorem Zn {M M':Nat -> Nat × Option BG} {s:SV} (h:∀ t ∈ LU s,M' t=M t):AV M' s=AV M s:=by
 cases s with
 | sl t g o n=>simp only [AV,h t (by simp [LU])]
 | pt t g o=>simp only [AV,h t (by simp [LU])]
 | _=>rfl
theorem Yp {P:Program} {S T:St} {op:Op} (h1:∀ x ∈ op.operands,T.ev x=S.ev x) (h2:∀ x ∈ deref op,AV T.M (S.ev x)=AV S.M (S.ev x)):AZ P T op=AZ P S op:=by
 have kS:∀ x ∈ deref op,T.ev x=S.ev x -> T.look x=S.look x:=fun x hx he=>by
  unfold St.look
  rw [he,h2 x hx]
 cases op with
 | move x=>simp only [AZ,h1 x (by simp [Op.operands])]
 | assign x=>simp only [AZ,h1 x (by simp [Op.operands])]
 | pick c x y=>simp only [AZ,h1 c (by simp [Op.operands]),h1 x (by simp [Op.operands]),h1 y (by simp [Op.operands])]
 | binOp op t x y t'=>simp only [AZ,h1 x (by simp [Op.operands]),h1 y (by simp [Op.operands])]
 | unOp op t x=>simp only [AZ,h1 x (by simp [Op.operands])]
 | convert s d x=>simp only [AZ,h1 x (by simp [Op.operands]),kS x (by simp [deref]) (h1 x (by simp [Op.operands]))]
 | index t x y=>simp only [AZ,h1 x (by simp [Op.operands]),h1 y (by simp [Op.operands])]
 | extract x i=>simp only [AZ,h1 x (by simp [Op.operands])]
 | fieldAddr s x f=>simp only [AZ,kS x (by simp [deref]) (h1 x (by simp [Op.operands]))]
 | indexAddr t x y=>simp only [AZ,kS x (by simp [deref]) (h1 x (by simp [Op.operands])),h1 y (by simp [Op.operands])]
 | load t x=>simp only [AZ,kS x (by simp [deref]) (h1 x (by simp [Op.operands]))]
 | nilCheck x=>simp only [AZ,kS x (by simp [deref]) (h1 x (by simp [Op.operands]))]
 | slice t x lo hi mx =>
  have e:∀ z:Option Operand,(∀ y,z=some y -> y ∈ (Op.slice t x lo hi mx).operands) -> z.map T.ev=z.map S.ev:=fun z hz=>by
   cases z with
   | none=>rfl
   | some y=>simp [h1 y (hz y rfl)]
  simp only [AZ,kS x (by simp [deref]) (h1 x (by simp [Op.operands]))]
  rw [e lo (fun y hy=>by subst hy;simp [Op.operands]),e hi (fun y hy=>by subst hy;simp [Op.operands]),e mx (fun y hy=>by subst hy;simp [Op.operands])]
 | build t ps =>
  simp only [AZ]
  rw [List.map_congr_left (g:=fun p:Nat × Operand=>(p.1,S.ev p.2)) fun p hp=>by
   rw [h1 p.2 (by simp only [Op.operands,List.mem_toArray,List.mem_map];exact ⟨p,hp,rfl⟩)]]
 | alloc t=>rfl
 | box t x=>simp only [AZ,h1 x (by simp [Op.operands])]
 | makeSlice t l c=>simp only [AZ,h1 l (by simp [Op.operands]),h1 c (by simp [Op.operands])]
 | buildSlice t n ps =>
  simp only [AZ]
  rw [List.map_congr_left (g:=fun p:Nat × Operand=>(p.1,S.ev p.2)) fun p hp=>by
   rw [h1 p.2 (by simp only [Op.operands,List.mem_toArray,List.mem_map];exact ⟨p,hp,rfl⟩)]]
 | store t x v=>simp only [AZ,kS x (by simp [deref]) (h1 x (by simp [Op.operands])),h1 v (by simp [Op.operands])]
 | call c =>
  obtain ⟨callee,args,ts⟩:=c
  simp only [AZ,Hw]
  have ha:∀ x ∈ args.toList,T.ev x=S.ev x:=fun x hx=>h1 x (by simp [Op.operands,Call.operands];exact .inr (by simpa using hx))
  cases callee with
  | builtin b =>
   simp only
   generalize hl:args.toList=l at ha
   unfold Ee
   split
   ·rename_i s x t tx _
    rw [kS s (by simp [deref,hl]) (ha s (by simp)),kS x (by simp [deref,hl]) (ha x (by simp))]
   ·rename_i x t _
    rw [kS x (by simp [deref,hl]) (ha x (by simp))]
   ·rename_i x y
    rw [ha x (by simp),ha y (by simp)]
   ·rename_i x y
    rw [ha x (by simp),ha y (by simp)]
   ·rfl
  | _=>rfl
 | _=>rfl
theorem jO {ops:Array Oper} {o:Oper} {t:Nat} (h:Operand.tmp t ∈ o.op.operands):t ∈ o.looksAt ops :=
 List.mem_append_left _ (List.mem_filterMap.2 ⟨.tmp t,by simpa using h,rfl⟩)
theorem Tj {S T:St} {ops:Array Oper} {o:Oper} (h:∀ s ∈ o.looksAt ops,T.F s=S.F s):∀ x ∈ o.op.operands,T.ev x=S.ev x:=fun x hx=>by
 cases x with
 | tmp t=>exact h t (jO hx)
 | _=>rfl
section
variable {cx:Cx} {ops:Array Oper} {S:St} {o:Oper}
theorem Ve {out:Out} {e:Eff} (h:AZ cx.P S o.op=some out) (he:DT cx.n S o.dst out=some e) (T:St) (h1:∀ s ∈ o.looksAt ops,T.F s=S.F s) (h2:∀ t ∈ Dz S o.op ++ Dn o.dst out,T.M t=S.M t):Step cx T o (e.app T):=by
 refine .out out ?_ (Ip ?_)
 ·rw [Yp (Tj h1) fun x hx=>?_]
  ·exact h
  ·exact Zn fun t ht=>h2 t (List.mem_append_left _ (List.mem_flatMap.2 ⟨x,hx,ht⟩))
 ·rw [jv fun t ht=>h2 t (List.mem_append_right _ ht)]
  exact he
theorem cO {out:Out} {e:Eff} (hgd:o.guard=none) (h:AZ cx.P S o.op=some out) (he:DT cx.n S o.dst out=some e):Um cx ops (Dz S o.op ++ Dn o.dst out) S o e:=by
 intro T h1 h2
 unfold GStep
 rw [hgd]
 exact Ve h he T h1 h2
theorem Ja {j t:Nat} {want:Bool} (hgd:o.guard=some (j,want)) (ht:GD ops j=some t):t ∈ o.looksAt ops:=by
 unfold Oper.looksAt
 refine List.mem_append_right _ ?_
 rw [hgd]
 unfold GD at ht
 simp [ht]
theorem XZ {out:Out} {e:Eff} {j t:Nat} {want:Bool} (hgd:o.guard=some (j,want)) (ht:GD ops j=some t) (hb:S.F t=.dv (.bool want)) (h:AZ cx.P S o.op=some out) (he:DT cx.n S o.dst out=some e) :
  Um cx ops (Dz S o.op ++ Dn o.dst out) S o e:=by
 intro T h1 h2
 unfold GStep
 rw [hgd]
 exact ⟨t,ht,.inl ⟨by rw [h1 t (Ja hgd ht)];exact hb,Ve h he T h1 h2⟩⟩
theorem ZL {j t:Nat} {want:Bool} (hgd:o.guard=some (j,want)) (ht:GD ops j=some t) (hb:Ul want (S.F t)):Um cx ops [] S o ⟨o.dst,.FR [],false,[]⟩:=by
 intro T h1 h2
 unfold GStep
 rw [hgd]
 refine ⟨t,ht,.inr ⟨by rw [h1 t (Ja hgd ht)];exact hb,?_⟩⟩
 cases o.dst<;>rfl
def L8 (R:List Nat) (M:Nat -> Nat × Option BG):Nat -> Nat × Option BG:=fun t=>if R.contains t then M t else ((M t).1,none)
theorem Data.VY {ok:Nat -> Prop} {Db:DV -> Prop} {M M':Nat -> Nat × Option BG} (hM:∀ t g blk,M t=(g,some blk) -> M' t=(g,some blk)) {s:SV} {d:DV} (h:Data ok Db M s d):Data ok Db M' s d:=by
 induction h with
 | dv d hd=>exact .dv d hd
 | Bw=>exact .Bw
 | emp b=>exact .emp b
 | sl t g off n blk l s e hst hn he hc _ ih=>exact .sl t g off n blk l s (hM _ _ _ e) hst hn he hc ih
 | pt t g off blk cs s e hst hc _ ih=>exact .pt t g off blk cs s (hM _ _ _ e) hst hc ih
 | agg ss ds hl _ ih=>exact .agg ss ds hl ih
theorem Cm.VY {ok:Nat -> Prop} {Db:DV -> Prop} {M M':Nat -> Nat × Option BG} (hM:∀ t g blk,M t=(g,some blk) -> M' t=(g,some blk)):∀ {ss:List SV} {ds:List DV},Cm (Data ok Db M) ss ds -> Cm (Data ok Db M') ss ds
 | [],[],_=>trivial
 | _ :: _,_ :: _,h=>⟨h.1.VY hM,Cm.VY hM h.2⟩
 | [],_ :: _,h=>h.elim
 | _ :: _,[],h=>h.elim
theorem yB {R:List Nat} {M M':Nat -> Nat × Option BG} (h:∀ t ∈ R,M' t=M t):∀ t g blk,L8 R M t=(g,some blk) -> M' t=(g,some blk):=fun t g blk e=>by
 unfold L8 at e
 split at e
 ·rename_i hc
  rw [h t (by simpa using hc)];exact e
 ·simp at e
def IZ (d:Nat):Nat -> List R1 -> List Nat
 | _,[]=>[]
 | j,.dv _ :: rs=>IZ d (j+1) rs
 | j,.row .. :: rs=>(d+1000 * j) :: IZ d (j+1) rs
def JQ (d:Nat):Rv -> List Nat
 | .one r=>IZ d 0 [r]
 | .many rs=>IZ d 0 rs
def IG (d:Nat):Nat -> List R1 -> (Nat -> Nat × Option BG) -> List (Nat × Nat × Option BG)
 | _,[],_=>[]
 | j,.dv _ :: rs,M=>IG d (j+1) rs M
 | j,.row CS elem n cs :: rs,M=>(d+1000 * j,(M (d+1000 * j)).1+1,some ⟨cs.map .dv,CS,elem,0,true⟩) :: IG d (j+1) rs (upd M (d+1000 * j) ((M (d+1000 * j)).1+1,some ⟨cs.map .dv,CS,elem,0,true⟩))
theorem XJ (d:Nat):∀ (rs:List R1) (j:Nat) (M T:Nat -> Nat × Option BG),(∀ t ∈ IZ d j rs,T t=M t) -> (DN d j rs T).1=(DN d j rs M).1 /\ (DN d j rs T).2=Dl T (IG d j rs M)
 | [],j,M,T,h=>⟨rfl,rfl⟩
 | .dv x :: rs,j,M,T,h=>by
  obtain ⟨h1,h2⟩:=XJ d rs (j+1) M T h
  exact ⟨by simp only [DN,h1],by simp only [DN,IG,h2]⟩
 | .row CS elem n cs :: rs,j,M,T,h=>by
  have h0:=h (d+1000 * j) (by simp [IZ])
  have:=XJ d rs (j+1) (upd M (d+1000 * j) ((M (d+1000 * j)).1+1,some ⟨cs.map .dv,CS,elem,0,true⟩)) (upd T (d+1000 * j) ((M (d+1000 * j)).1+1,some ⟨cs.map .dv,CS,elem,0,true⟩)) (fun t ht=>by
   by_cases e:t=d+1000 * j
   ·subst e;rw [upd_same,upd_same]
   ·rw [upd_ne _ _ _ _ e,upd_ne _ _ _ _ e];exact h t (by simp [IZ,ht]))
  refine ⟨?_,?_⟩
  ·simp only [DN,h0,this.1]
  ·simp only [DN,IG,h0,Dl,this.2]
def OP (d:Nat) (M:Nat -> Nat × Option BG):Rv -> List (Nat × Nat × Option BG)
 | .one r=>IG d 0 [r] M
 | .many rs=>IG d 0 rs M
theorem yF (d:Nat) (res:Rv) (M T:Nat -> Nat × Option BG) (h:∀ t ∈ JQ d res,T t=M t):(ER d T res).1=(ER d M res).1 /\ (ER d T res).2=Dl T (OP d M res):=by
 cases res with
 | one r=>have:=XJ d [r] 0 M T h;exact ⟨by simp only [ER,this.1],this.2⟩
 | many rs=>have:=XJ d rs 0 M T h;exact ⟨by simp only [ER,this.1],this.2⟩
theorem KZ (d:Nat):∀ (rs:List R1) (j:Nat) (M:Nat -> Nat × Option BG),∀ p ∈ IG d j rs M,p.1 ∈ IZ d j rs
 | [],_,_,p,h=>by cases h
 | .dv x :: rs,j,M,p,h=>KZ d rs (j+1) M p h
 | .row CS elem n cs :: rs,j,M,p,h=>by
  rcases List.mem_cons.1 h with rfl | h
  ·simp [IZ]
  ·exact List.mem_cons_of_mem _ (KZ d rs (j+1) _ p h)
def CU (d:Nat) (S:St) (res:Rv):Eff:=⟨some d,(ER d S.M res).1,false,OP d S.M res⟩
theorem Sg {n d:Nat} {S T:St} {res:Rv} (hd:d < n) (h:∀ t ∈ JQ d res,T.M t=S.M t):T.F9 n (some d) res=some ((CU d S res).app T):=by
 have:=yF d res S.M T.M h
 simp [St.F9,hd,this.1,this.2,CU,Eff.app]
theorem aS {d:Nat} (hdst:o.dst=some d) (hdn:d < cx.n) {f':Operand} {args:Array Operand} {ts:Array TypeId} (ho:o.op=.call { callee:=.value f',args:=args,argTypes:=ts }) {f:FuncId} {pre ds caps:List DV} (hf:S.ev f'=.dv (.fn f pre caps))
  {R:List Nat} {res:Rv} (hc:(Cm (GQ (L8 R S.M)) (args.toList.map S.ev) ds /\ AR cx.P f (pre ++ ds ++ caps) res) \/ (Cm (EC (L8 R S.M)) (args.toList.map S.ev) ds /\ GR cx.P f (pre ++ ds ++ caps) res))
  (T:St) (h1:∀ s ∈ o.looksAt ops,T.F s=S.F s) (h2:∀ t ∈ R ++ JQ d res,T.M t=S.M t):Step cx T o ((CU d S res).app T):=by
 have hev:=Tj h1
 have hf':T.ev f'=.dv (.fn f pre caps):=by
  rw [hev f' (by rw [ho];simp [Op.operands,Call.operands])];exact hf
 have ha:args.toList.map T.ev=args.toList.map S.ev:=List.map_congr_left fun x hx=>hev x (by rw [ho];simp [Op.operands,Call.operands];exact .inr (by simpa using hx))
 have hr:T.F9 cx.n o.dst res=some ((CU d S res).app T):=by
  rw [hdst];exact Sg hdn fun t ht=>h2 t (List.mem_append_right _ ht)
 have hM:=yB (R:=R) (M:=S.M) (M':=T.M) fun t ht=>h2 t (List.mem_append_left _ ht)
 rcases hc with ⟨c1,c2⟩ | ⟨c1,c2⟩
 ·exact .qM f' args ts f pre caps ds res ho hf' (by rw [ha];exact c1.VY hM) c2 hr
 ·exact .qN f' args ts f pre caps ds res ho hf' (by rw [ha];exact c1.VY hM) c2 hr
end
section
variable {cx:Cx} {ops:Array Oper}
theorem nI:∀ {m:List (Nat × Nat × Option BG)},wV m=true -> aI (AA m)
 | [],_,t,g,b,e=>by simp [AA] at e
 | (k,v) :: m,h,t,g,b,e=>by
  simp only [wV,List.all_cons,Bool.and_eq_true] at h
  simp only [AA] at e
  split at e
  ·have h1:=h.1
   rw [e] at h1
   simpa using h1
  ·exact nI (m:=m) (by simpa [wV] using h.2) t g b e
theorem RL (hg:cx.Good) (hm:cx.P.follows .mixedOrders=true) {id:Nat} {K:Exit -> St -> Prop} {F:Nat -> SV} {m:List (Nat × Nat × Option BG)} (hb:WU .any ops.toList 0=true)
  (h:Bz cx ops ops.toList [] ⟨F,AA m⟩ fun its S'=>om .any ops m its (dX .any ops.toList [])=true /\ K .normal S'):Eu cx (.region id ops true) K ⟨F,AA m⟩:=by
 obtain ⟨its,h1,h2,h3⟩:=Tw (S0:=⟨F,AA m⟩) ops.toList [] [] ⟨F,AA m⟩ _ (by simp) rfl rfl (fun i o it ho=>by simp at ho) h
 simp only [om,Bool.or_eq_true,Bool.and_eq_true] at h2
 rcases h2 with h2 | ⟨h2,h4,h5⟩
 ·exact Zt hg hm h1 (gT hb h2) h3
 ·have h0:=nI h2
  refine Zt hg hm (h1.SE h0 h4) (gT hb h5) ?_
  rw [(O9 h0 h4 _).1]
  exact h3
end
end Go.Ab
set_option linter.unusedVariables false
namespace Go.Ab
open Go.RowKit
def isLive (M:Nat -> Nat × Option BG) (t g:Nat):Prop:=(M t).1=g /\ (M t).2.isSome=true
mutual
def Aa (τ:Nat -> Option Nat) (M M':Nat -> Nat × Option BG):SV -> SV -> Prop
 | .dead,_=>True
 | .dv d,.dv d'=>d=d'
 | .dv d,.Bw=>Data (fun st=>st=1) (fun _=>True) M .Bw d
 | .dv d,.sl t g o n=>Data (fun st=>st=1) (fun _=>True) M (.sl t g o n) d
 | .dv d,.pt t g o=>Data (fun st=>st=1) (fun _=>True) M (.pt t g o) d
 | .dv d,.agg cs=>Data (fun st=>st=1) (fun _=>True) M (.agg cs) d
 | .dv d,.emp b=>Data (fun st=>st=1) (fun _=>True) M (.emp b) d
 | .Bw,.Bw=>True
 | .emp b',.emp b=>b'=b
 | .sl t' g' o' n',.sl t g o n=>τ t'=some t /\ isLive M t g /\ isLive M' t' g' /\ o'=o /\ n'=n
 | .sl t' g' o' n',.Bw=>τ t'=none /\ isLive M' t' g' /\ o'=0 /\ n'=0
 | .pt t' g' o',.pt t g o=>τ t'=some t /\ isLive M t g /\ isLive M' t' g' /\ o'=o
 | .agg cs',.agg cs=>Ae τ M M' cs' cs
 | .agg cs',.dv (.agg ds)=>cs'=ds.map .dv
 | .FR cs',.FR cs=>Ae τ M M' cs' cs
 | _,_=>False
def Ae (τ:Nat -> Option Nat) (M M':Nat -> Nat × Option BG):List SV -> List SV -> Prop
 | [],[]=>True
 | c :: cs,d :: ds=>Aa τ M M' c d /\ Ae τ M M' cs ds
 | _,_=>False
end
def Al (τ:Nat -> Option Nat) (M M':Nat -> Nat × Option BG) (t':Nat) (b':BG):Prop :=
 match τ t' with
 | none=>(b'.cells=[] /\ b'.row=true) /\ b'.st < 3
 | some t=>∃ b,(M t).2=some b /\ b'.CS=b.CS /\ b'.elem=b.elem /\ b'.st=b.st /\ b'.row=b.row /\ Ae τ M M' b'.cells b.cells
def Ck (τ:Nat -> Option Nat) (S:St) (M':Nat -> Nat × Option BG):List (Nat × SV) -> Prop
 | []=>True
 | (k,v) :: l=>Aa τ S.M M' v (S.F k) /\ Ck τ S M' l
def CV (τ:Nat -> Option Nat) (S:St) (M':Nat -> Nat × Option BG):List (Nat × Nat × Option BG) -> Prop
 | []=>True
 | (k,_,some b) :: l=>Al τ S.M M' k b /\ CV τ S M' l
 | (_,_,none) :: l=>CV τ S M' l
section
variable {cx:Cx} {S S':St} {a:Act} {w:World} {μ:Nat -> Option (Nat × Nat)}
theorem HV {τ:Nat -> Option Nat} {M M':Nat -> Nat × Option BG}:∀ {cs ds:List SV},Ae τ M M' cs ds -> cs.length=ds.length
 | [],[],_=>rfl
 | _ :: cs,_ :: ds,h=>by simp only [Ae] at h;simp [HV h.2]
 | [],_ :: _,h=>by simp only [Ae] at h
 | _ :: _,[],h=>by simp only [Ae] at h
def Bt (τ:Nat -> Option Nat) (μ:Nat -> Option (Nat × Nat)):Nat -> Option (Nat × Nat):=fun t=>match τ t with | some t=>μ t | none=>none
mutual
theorem YS (hg:cx.Good) (h:Bc cx S a w μ) {τ:Nat -> Option Nat} {M':Nat -> Nat × Option BG} (hM:∀ t' g' b' t,M' t'=(g',some b') -> τ t'=some t -> ∃ b,(S.M t).2=some b /\ b'.CS=b.CS)
  {X':Nat -> Prop} (hX:∀ b,X' b -> XX cx S.M μ b):∀ (s' s:SV) (v:Value),Aa τ S.M M' s' s -> AO w S.M μ (XX cx S.M μ) s v -> AO w M' (Bt τ μ) X' s' v
 | .dead,_,_,_,_=>trivial
 | .dv d,.dv d',v,e,hv=>by simp only [Aa] at e;subst e;simp only [AO] at hv ⊢;exact hv.weaken hX
 | .dv d,.Bw,v,e,hv=>by simp only [Aa] at e;simp only [AO];exact (EC.rep hg h e hv).weaken hX
 | .dv d,.sl t g o n,v,e,hv=>by simp only [Aa] at e;simp only [AO];exact (EC.rep hg h e hv).weaken hX
 | .dv d,.pt t g o,v,e,hv=>by simp only [Aa] at e;simp only [AO];exact (EC.rep hg h e hv).weaken hX
 | .dv d,.agg cs,v,e,hv=>by simp only [Aa] at e;simp only [AO];exact (EC.rep hg h e hv).weaken hX
 | .dv d,.emp b,v,e,hv=>by simp only [Aa] at e;simp only [AO];exact (EC.rep hg h e hv).weaken hX
 | .Bw,.Bw,v,_,hv=>by simpa only [AO] using hv
 | .emp b',.emp b,v,e,hv=>by simp only [Aa] at e;subst e;simpa only [AO] using hv
 | .sl t' g' o' n',.sl t g o n,v,e,hv=>by
  simp only [Aa] at e
  obtain ⟨e1,⟨e2,e3⟩,⟨e4,e5⟩,rfl,rfl⟩:=e
  simp only [AO] at hv ⊢
  refine ⟨⟨hv.1.1,by omega⟩,fun b' hb'=>?_⟩
  obtain ⟨b,hb⟩:=Option.isSome_iff_exists.1 e3
  have hMt:S.M t=(g,some b):=by rw [<- e2,<- hb]
  have:=hv.2 b hMt
  obtain ⟨b2,q1,q2⟩:=hM t' g' b' t hb' e1
  have:b2=b:=by rw [hb] at q1;exact (Option.some.inj q1).symm
  subst this
  have hrel:Bt τ μ t'=μ t:=by simp [Bt,e1]
  rw [hrel,q2]
  assumption
 | .sl t' g' o' n',.Bw,v,e,hv=>by
  simp only [Aa] at e
  obtain ⟨e1,⟨e4,e5⟩,rfl,rfl⟩:=e
  simp only [AO] at hv ⊢
  subst hv
  refine ⟨⟨rfl,by omega⟩,fun b' hb'=>?_⟩
  have hrel:Bt τ μ t'=none:=by simp [Bt,e1]
  rw [hrel]
  exact ⟨rfl,trivial,trivial⟩
 | .pt t' g' o',.pt t g o,v,e,hv=>by
  simp only [Aa] at e
  obtain ⟨e1,⟨e2,e3⟩,⟨e4,e5⟩,rfl⟩:=e
  simp only [AO] at hv ⊢
  refine ⟨⟨hv.1.1,by omega⟩,fun b' hb'=>?_⟩
  obtain ⟨b,hb⟩:=Option.isSome_iff_exists.1 e3
  have hMt:S.M t=(g,some b):=by rw [<- e2,<- hb]
  have hrel:Bt τ μ t'=μ t:=by simp [Bt,e1]
  rw [hrel]
  exact hv.2 b hMt
 | .agg cs',.agg cs,v,e,hv=>by
  simp only [Aa] at e
  simp only [AO] at hv ⊢
  obtain ⟨vs,rfl,hv⟩:=hv
  exact ⟨vs,rfl,H9 hg h hM hX cs' cs vs e hv⟩
 | .agg cs',.dv (.agg ds),v,e,hv=>by
  simp only [Aa] at e
  subst e
  simp only [AO] at hv ⊢
  cases hv with
  | agg _ vs hsz hc =>
   refine ⟨vs.toList,by simp,Ao.mk (by simpa using hsz) fun j c u hj hu=>?_⟩
   simp only [List.getElem?_map,Option.map_eq_some_iff] at hj
   obtain ⟨d,hd,rfl⟩:=hj
   simp only [AO]
   have:=hc j d hd
   have e:vs.getD j undef=u:=by
    simp only [Array.getElem?_toList] at hu
    simp [hu]
   rw [e] at this
   exact this.weaken hX
 | .FR cs',.FR cs,v,e,hv=>by
  simp only [Aa] at e
  simp only [AO] at hv ⊢
  obtain ⟨vs,rfl,hv⟩:=hv
  exact ⟨vs,rfl,H9 hg h hM hX cs' cs vs e hv⟩
 | .dv _,.dead,_,e,_ | .dv _,.FR _,_,e,_ | .Bw,.emp _,_,e,_ | .emp _,.dead,_,e,_ | .emp _,.dv _,_,e,_ | .emp _,.Bw,_,e,_ | .emp _,.sl ..,_,e,_ | .emp _,.pt ..,_,e,_ | .emp _,.agg _,_,e,_ | .emp _,.FR _,_,e,_ | .sl ..,.emp _,_,e,_ | .pt ..,.emp _,_,e,_ | .agg _,.emp _,_,e,_ | .FR _,.emp _,_,e,_ | .Bw,.dead,_,e,_ | .Bw,.dv _,_,e,_ | .Bw,.sl ..,_,e,_ | .Bw,.pt ..,_,e,_ | .Bw,.agg _,_,e,_ | .Bw,.FR _,_,e,_
 | .sl ..,.dead,_,e,_ | .sl ..,.dv _,_,e,_ | .sl ..,.pt ..,_,e,_ | .sl ..,.agg _,_,e,_ | .sl ..,.FR _,_,e,_
 | .pt ..,.dead,_,e,_ | .pt ..,.dv _,_,e,_ | .pt ..,.Bw,_,e,_ | .pt ..,.sl ..,_,e,_ | .pt ..,.agg _,_,e,_ | .pt ..,.FR _,_,e,_
 | .agg _,.dead,_,e,_ | .agg _,.Bw,_,e,_ | .agg _,.sl ..,_,e,_ | .agg _,.pt ..,_,e,_ | .agg _,.FR _,_,e,_
 | .FR _,.dead,_,e,_ | .FR _,.dv _,_,e,_ | .FR _,.Bw,_,e,_ | .FR _,.sl ..,_,e,_ | .FR _,.pt ..,_,e,_ | .FR _,.agg _,_,e,_=>by simp only [Aa] at e
 | .agg _,.dv (.bool _),_,e,_ | .agg _,.dv (.int _ _),_,e,_ | .agg _,.dv (.str _),_,e,_ | .agg _,.dv (.list _),_,e,_ | .agg _,.dv (.DU _),_,e,_ | .agg _,.dv .DI,_,e,_
 | .agg _,.dv (.fn ..),_,e,_ | .agg _,.dv .J6,_,e,_ | .agg _,.dv (.iface ..),_,e,_ | .agg _,.dv .nilIface,_,e,_=>by simp only [Aa] at e
theorem H9 (hg:cx.Good) (h:Bc cx S a w μ) {τ:Nat -> Option Nat} {M':Nat -> Nat × Option BG} (hM:∀ t' g' b' t,M' t'=(g',some b') -> τ t'=some t -> ∃ b,(S.M t).2=some b /\ b'.CS=b.CS)
  {X':Nat -> Prop} (hX:∀ b,X' b -> XX cx S.M μ b):∀ (cs' cs:List SV) (vs:List Value),Ae τ S.M M' cs' cs -> Ao w S.M μ (XX cx S.M μ) cs vs -> Ao w M' (Bt τ μ) X' cs' vs
 | [],[],[],_,_=>trivial
 | c' :: cs',c :: cs,v :: vs,e,hv=>by
  simp only [Ae] at e
  simp only [Ao] at hv ⊢
  exact ⟨YS hg h hM hX c' c v e.1 hv.1,H9 hg h hM hX cs' cs vs e.2 hv.2⟩
 | [],[],_ :: _,_,hv=>by simp only [Ao] at hv
 | [],_ :: _,_,e,_=>by simp only [Ae] at e
 | _ :: _,[],_,e,_=>by simp only [Ae] at e
 | _ :: _,_ :: _,[],_,hv=>by simp only [Ao] at hv
end
theorem Me {τ:Nat -> Option Nat} {M M':Nat -> Nat × Option BG} (hM:∀ t' g' b',M' t'=(g',some b') -> Al τ M M' t' b'):∀ t' g' b' t,M' t'=(g',some b') -> τ t'=some t -> ∃ b,(M t).2=some b /\ b'.CS=b.CS:=fun t' g' b' t e h=>by
 have hbl:=hM t' g' b' e
 unfold Al at hbl
 rw [h] at hbl
 obtain ⟨b2,q1,q2,_⟩:=hbl
 exact ⟨b2,q1,q2⟩
theorem Pp (hg:cx.Good) (h:Bc cx S a w μ) {τ:Nat -> Option Nat} (hF:∀ i,Aa τ S.M S'.M (S'.F i) (S.F i)) (hM:∀ t' g' b',S'.M t'=(g',some b') -> Al τ S.M S'.M t' b')
  (hinj:∀ t1 t2 t,τ t1=some t -> τ t2=some t -> t1=t2):Bc cx S' a w (Bt τ μ):=by
 have old:∀ t' g' b' b cap,S'.M t'=(g',some b') -> Bt τ μ t'=some (b,cap) -> ∃ t g blk,τ t'=some t /\ S.M t=(g,some blk) /\ μ t=some (b,cap) /\ b'.CS=blk.CS /\ b'.elem=blk.elem /\ b'.st=blk.st /\ b'.row=blk.row /\ Ae τ S.M S'.M b'.cells blk.cells:=by
  intro t' g' b' b cap e hm
  have hb:=hM t' g' b' e
  unfold Al at hb
  unfold Bt at hm
  cases Uy:τ t' with
  | none=>rw [Uy] at hm;cases hm
  | some t =>
   rw [Uy] at hm hb
   obtain ⟨blk,q1,q2⟩:=hb
   exact ⟨t,(S.M t).1,blk,rfl,by rw [<- q1],hm,q2⟩
 have hX:∀ b,XX cx S'.M (Bt τ μ) b -> XX cx S.M μ b:=by
  rintro b (⟨t',g',b',cap,e1,e2,e3⟩ | hx)
  ·obtain ⟨t,g,blk,q1,q2,q3,q4,q5,q6,_⟩:=old t' g' b' b cap e1 e3
   exact .inl ⟨t,g,blk,cap,q2,by rw [<- q6];exact e2,q3⟩
  ·exact .inr hx
 refine ⟨fun t' g' b' e=>?_,fun i=>YS hg h (Me hM) hX _ _ _ (hF i) (h.slot i),fun t' g' b' b cap e hm=>?_,fun t1 g1 b1 t2 g2 b2 b c1 c2 hne e1 e2 hst m1 m2=>?_,fun t' g' b' e h3=>?FQ,h.below,h.size,h.defers⟩
 case FQ =>
  have hb:=hM t' g' b' e
  unfold Al at hb
  cases Uy:τ t' with
  | none=>rw [Uy] at hb;have:=hb.2;omega
  | some t =>
   rw [Uy] at hb
   obtain ⟨blk,q1,q2,q3,q4,q5,q6⟩:=hb
   have:=h.FQ t (S.M t).1 blk (by rw [<- q1]) (by omega)
   simp only [Bt,Uy,this,q4]
 ·have hb:=hM t' g' b' e
  unfold CP
  cases hm:Bt τ μ t' with
  | none =>
   unfold Al at hb
   unfold Bt at hm
   cases Uy:τ t' with
   | none=>rw [Uy] at hb;exact hb.1
   | some t =>
    rw [Uy] at hb hm
    obtain ⟨blk,q1,q2,q3,q4,q5,q6⟩:=hb
    have:=h.blk t (S.M t).1 blk (by rw [<- q1])
    unfold CP at this
    have hm:μ t=none:=hm
    rw [hm] at this
    have hl:=HV q6
    rw [this.1] at hl
    exact ⟨List.eq_nil_of_length_eq_zero hl,by rw [q5];exact this.2⟩
  | some p =>
   obtain ⟨b,cap⟩:=p
   obtain ⟨t,g,blk,q1,q2,q3,q4,q5,q6,q7,q8⟩:=old t' g' b' b cap e hm
   have:=h.blk t g blk q2
   unfold CP at this
   rw [q3] at this
   obtain ⟨cur,r1,r2,r3,r4,r5⟩:=this
   have hl:=HV q8
   refine ⟨cur,by rw [q5];exact r1,by omega,?_,fun hr=>by rw [q4];exact r4 (by rw [<- q7];exact hr),fun hr=>by rw [hl];exact r5 (by rw [<- q7];exact hr)⟩
   have hall:Ao w S.M μ (XX cx S.M μ) blk.cells (cur.toList.take blk.cells.length):=Ao.mk (by simp;omega) fun j c u hj hu=>by
    rw [List.getElem?_take] at hu
    split at hu
    ·exact r3 j c u hj (by simpa using hu)
    ·cases hu
   have h2:=H9 hg h (Me hM) hX _ _ _ q8 hall
   intro j c u hj hu
   refine h2.get j c u hj ?_
   rw [List.getElem?_take]
   have:=(List.getElem?_eq_some_iff.1 hj).1
   rw [if_pos (by omega)]
   simpa using hu
 ·obtain ⟨t,g,blk,q1,q2,q3,_⟩:=old t' g' b' b cap e hm
  exact h.place t g blk b cap q2 q3
 ·obtain ⟨t,g,blk,q1,q2,q3,q4,q5,q6,q7,q8⟩:=old t1 g1 b1 b c1 e1 m1
  obtain ⟨t',g',Ay,q1',q2',q3',q4',q5',q6',q7',q8'⟩:=old t2 g2 b2 b c2 e2 m2
  have hne':t ≠ t':=fun hh=>hne (hinj t1 t2 t q1 (hh ▸ q1'))
  have:=h.uniq t g blk t' g' Ay b c1 c2 hne' q2 q2' (by rw [<- q6];exact hst) q3 q3'
  rw [q6',HV q8',HV q8]
  exact this
def Ac:List (Nat × Nat) -> Nat -> Option Nat
 | [],_=>none
 | (k,v) :: l,i=>if i=k then some v else Ac l i
theorem LQ:∀ {l:List (Nat × Nat)} {i v:Nat},Ac l i=some v -> (i,v) ∈ l
 | (k,u) :: l,i,v,h=>by
  simp only [Ac] at h
  split at h
  ·rename_i e;simp only [Option.some.injEq] at h;subst e;subst h;simp
  ·exact List.mem_cons_of_mem _ (LQ h)
theorem SG {l:List (Nat × Nat)} (h:(l.map (·.2)).Nodup):∀ t1 t2 t,Ac l t1=some t -> Ac l t2=some t -> t1=t2:=by
 intro t1 t2 t h1 h2
 have m1:=LQ h1
 have m2:=LQ h2
 clear h1 h2
 induction l with
 | nil=>cases m1
 | cons p l ih =>
  simp only [List.map_cons,List.nodup_cons] at h
  rcases List.mem_cons.1 m1 with e1 | e1<;>rcases List.mem_cons.1 m2 with e2 | e2
  ·rw [<- e1] at e2;simpa using e2.symm
  ·exact absurd (List.mem_map.2 ⟨_,e2,by rw [<- e1]⟩) h.1
  ·exact absurd (List.mem_map.2 ⟨_,e1,by rw [<- e2]⟩) h.1
  ·exact ih h.2 e1 e2
theorem YE {τ:Nat -> Option Nat} {S:St} {M':Nat -> Nat × Option BG}:∀ {l:List (Nat × SV)},Ck τ S M' l -> ∀ i,Aa τ S.M M' (lk l i) (S.F i)
 | [],_,i=>by simp only [lk,Aa]
 | (k,v) :: l,h,i=>by
  simp only [Ck] at h
  simp only [lk]
  split
  ·rename_i e;subst e;exact h.1
  ·exact YE h.2 i
theorem Rw {τ:Nat -> Option Nat} {S:St} {M':Nat -> Nat × Option BG}:∀ {m:List (Nat × Nat × Option BG)},CV τ S M' m -> ∀ t' g' b',AA m t'=(g',some b') -> Al τ S.M M' t' b'
 | [],_,t',g',b',e=>by simp [AA] at e
 | (k,g,ob) :: m,h,t',g',b',e=>by
  simp only [AA] at e
  split at e
  ·rename_i hk
   subst hk
   simp only [Prod.mk.injEq] at e
   obtain ⟨rfl,rfl⟩:=e
   simp only [CV] at h
   exact h.1
  ·cases ob with
   | none=>exact Rw (by simpa only [CV] using h) t' g' b' e
   | some b=>exact Rw (by simp only [CV] at h;exact h.2) t' g' b' e
theorem Le.tell (hg:cx.Good) (τ:List (Nat × Nat)) {l:List (Nat × SV)} {m:List (Nat × Nat × Option BG)} (hF:Ck (Ac τ) S (AA m) l) (hM:CV (Ac τ) S (AA m) m) (Uy:(τ.map (·.2)).Nodup):Le cx S ⟨lk l,AA m⟩:=by
 rintro a w ⟨μ,h⟩
 exact ⟨_,Pp (S':=⟨lk l,AA m⟩) hg h (YE hF) (Rw hM) (SG Uy)⟩
theorem Eu.split {c:Code} {K:Exit -> St -> Prop} {l:List (Nat × SV)} {m:List (Nat × Nat × Option BG)} {t:Nat} (h0:lk l t=.dv (.list [])) (h:∀ b,Eu cx c K ⟨lk ((t,.emp b) :: l),AA m⟩):Eu cx c K ⟨lk l,AA m⟩:=by
 rintro a w ⟨μ,hs⟩
 have hv:=hs.slot t
 rw [show (⟨lk l,AA m⟩:St).F t=.dv (.list []) from h0] at hv
 simp only [AO] at hv
 have he:∃ ad cap,a.tmps.getD t undef=.slice ad 0 cap:=by
  generalize a.tmps.getD t undef=v at hv
  cases hv with
  | Dp ad cap=>exact ⟨ad,cap,rfl⟩
  | list _ b off cap CS u h1 h2 h3 h4 h5 h6=>exact ⟨_,cap,rfl⟩
 obtain ⟨ad,cap,he⟩:=he
 refine h ad.isNone a w ⟨μ,⟨hs.blk,fun i=>?_,hs.place,hs.uniq,hs.FQ,hs.below,hs.size,hs.defers⟩⟩
 show AO w (AA m) μ _ (lk ((t,.emp ad.isNone) :: l) i) _
 simp only [lk]
 split
 ·rename_i e
  subst e
  rw [he]
  simp only [AO]
  exact ⟨ad,cap,rfl,rfl⟩
 ·exact hs.slot i
theorem Le.freeze {t g:Nat} {b:BG} (h0:S.M t=(g,some b)) (hst:Dv b.st \/ b.st=1):Le cx S ⟨S.F,upd S.M t (g,some { b with st:=1 })⟩:=by
 rintro a w ⟨μ,h⟩
 exact ⟨μ,Ri h [t] S.M _ h (by simp [WE,h0,hst])⟩
end
end Go.Ab
set_option linter.unusedVariables false
namespace Go.Ab
open Go.RowKit
def Ho (ops:Array Oper) (S:St):Option (Nat × Bool) -> Prop
 | none=>True
 | some (j,want)=>∃ s,GD ops j=some s /\ S.F s=.dv (.bool want)
section
variable {cx:Cx} {P:Program} {N:Nat} {ops:Array Oper} {rest:List Oper} {l:List (Nat × SV)} {m m':List (Nat × Nat × Option BG)} {K:St -> Prop} {KD:List It -> St -> Prop} {its:List It}
 {d g k t gt j s:Nat} {op:Op} {ty:TypeId} {p:String} {af:Array Edge} {r:SV} {blk b:BG} {R:List Nat} {want c:Bool} {gd:Option (Nat × Bool)}
theorem MV (hd:d < N) (S:St):DT N S (some d) (.val r)=some ⟨some d,r,false,[]⟩:=by simp [DT,hd]
theorem Ky:(⟨some d,r,false,[]⟩:Eff).app ⟨lk l,AA m⟩=⟨lk ((d,r) :: l),AA m⟩:=by simp [Eff.app,Dl,FB]
theorem pY (hd:d < N) (hb:blk.row=false) (hg:(AA m d).1=g):DT N ⟨lk l,AA m⟩ (some d) (.mk blk k)=some ⟨some d,.pt d (g+1) 0,false,[(d,g+1,some blk)]⟩:=by simp [DT,hd,hb,hg]
theorem gY (hd:d < N) (hb:blk.row=true) (hg:(AA m d).1=g):DT N ⟨lk l,AA m⟩ (some d) (.mk blk k)=some ⟨some d,.sl d (g+1) 0 k,false,[(d,g+1,some blk)]⟩:=by simp [DT,hd,hb,hg]
theorem Mg {v:SV}:(⟨some d,v,false,[(t,g,some blk)]⟩:Eff).app ⟨lk l,AA m⟩=⟨lk ((d,v) :: l),AA ((t,g,some blk) :: m)⟩:=by simp [Eff.app,Dl,FB,Ej]
theorem ZV (hd:d < N) (hg:(AA m d).1=g):DT N ⟨lk l,AA m⟩ (some d) (.app none blk k)=some ⟨some d,.sl d (g+1) 0 k,false,[(d,g+1,some blk)]⟩:=by simp [DT,hd,hg]
theorem ZU (hd:d < N) (hg:(AA m d).1=g) (ht:AA m t=(gt,some b)) (hb:Dv b.st):DT N ⟨lk l,AA m⟩ (some d) (.app (some t) blk k)=some ⟨some d,.sl d (g+1) 0 k,false,[(t,gt,some { b with st:=2 }),(d,g+1,some blk)]⟩:=by simp [DT,hd,hg,ht,hb]
theorem iI {v:SV} {b1 b2:BG} {t1 g1 t2 g2:Nat}:(⟨some d,v,false,[(t1,g1,some b1),(t2,g2,some b2)]⟩:Eff).app ⟨lk l,AA m⟩=⟨lk ((d,v) :: l),AA ((t2,g2,some b2) :: (t1,g1,some b1) :: m)⟩:=by simp [Eff.app,Dl,FB,Ej]
theorem gZ (ht:AA m t=(gt,some b)) (hb:Dv b.st):DT N ⟨lk l,AA m⟩ none (.put t blk)=some ⟨none,.dead,true,[(t,gt,some blk)]⟩:=by simp [DT,ht,hb]
theorem iJ (hv:Px m=m'):(⟨none,.dead,true,[(t,gt,some blk)]⟩:Eff).app ⟨lk l,AA m⟩=⟨lk l,AA ((t,gt,some blk) :: m')⟩:=by simp [Eff.app,Dl,Ej,FV,hv]
theorem Gq {S S':St} {o:Oper} (hgd:Ho ops S o.guard) (h:Step cx S o S'):GStep cx ops S o S':=by
 unfold GStep
 unfold Ho at hgd
 split
 ·exact h
 ·rename_i j want e
  rw [e] at hgd
  obtain ⟨s,h1,h2⟩:=hgd
  exact ⟨s,h1,.inl ⟨h2,h⟩⟩
theorem Io {S S':St} {o:Oper} {out:Out} {e:Eff} (hP:cx.P=P) (hn:cx.n=N) (hgd:Ho ops S o.guard) (h:AZ P S o.op=some out) (he:DT N S o.dst out=some e) (hS:e.app S=S') (k:Chain cx ops rest S' K):Chain cx ops (o :: rest) S K:=by
 subst hP;subst hn;subst hS
 exact ⟨_,Gq hgd (.out out h (Ip he)),k⟩
theorem EL (hP:cx.P=P) (hn:cx.n=N) (hd:d < N) (hgd:Ho ops ⟨lk l,AA m⟩ gd) (h:AZ P ⟨lk l,AA m⟩ op=some (.val r)) (k:Chain cx ops rest ⟨lk ((d,r) :: l),AA m⟩ K):Chain cx ops (⟨some d,op,ty,p,af,gd⟩ :: rest) ⟨lk l,AA m⟩ K :=
 Io hP hn hgd h (MV hd _) Ky k
theorem c_pt (hP:cx.P=P) (hn:cx.n=N) (hd:d < N) (hgd:Ho ops ⟨lk l,AA m⟩ gd) (h:AZ P ⟨lk l,AA m⟩ op=some (.mk blk k)) (hb:blk.row=false) (hg:(AA m d).1=g) (kk:Chain cx ops rest ⟨lk ((d,.pt d (g+1) 0) :: l),AA ((d,g+1,some blk) :: m)⟩ K) :
  Chain cx ops (⟨some d,op,ty,p,af,gd⟩ :: rest) ⟨lk l,AA m⟩ K:=Io hP hn hgd h (pY hd hb hg) Mg kk
theorem Zf (hP:cx.P=P) (hn:cx.n=N) (hd:d < N) (hgd:Ho ops ⟨lk l,AA m⟩ gd) (h:AZ P ⟨lk l,AA m⟩ op=some (.mk blk k)) (hb:blk.row=true) (hg:(AA m d).1=g) (kk:Chain cx ops rest ⟨lk ((d,.sl d (g+1) 0 k) :: l),AA ((d,g+1,some blk) :: m)⟩ K) :
  Chain cx ops (⟨some d,op,ty,p,af,gd⟩ :: rest) ⟨lk l,AA m⟩ K:=Io hP hn hgd h (gY hd hb hg) Mg kk
theorem U5 (hP:cx.P=P) (hn:cx.n=N) (hd:d < N) (hgd:Ho ops ⟨lk l,AA m⟩ gd) (h:AZ P ⟨lk l,AA m⟩ op=some (.app none blk k)) (hg:(AA m d).1=g) (kk:Chain cx ops rest ⟨lk ((d,.sl d (g+1) 0 k) :: l),AA ((d,g+1,some blk) :: m)⟩ K) :
  Chain cx ops (⟨some d,op,ty,p,af,gd⟩ :: rest) ⟨lk l,AA m⟩ K:=Io hP hn hgd h (ZV hd hg) Mg kk
theorem iC (hP:cx.P=P) (hn:cx.n=N) (hd:d < N) (hgd:Ho ops ⟨lk l,AA m⟩ gd) (h:AZ P ⟨lk l,AA m⟩ op=some (.app (some t) blk k)) (hg:(AA m d).1=g) (ht:AA m t=(gt,some b)) (hb:Dv b.st)
  (kk:Chain cx ops rest ⟨lk ((d,.sl d (g+1) 0 k) :: l),AA ((d,g+1,some blk) :: (t,gt,some { b with st:=2 }) :: m)⟩ K) :
  Chain cx ops (⟨some d,op,ty,p,af,gd⟩ :: rest) ⟨lk l,AA m⟩ K:=Io hP hn hgd h (ZU hd hg ht hb) iI kk
theorem Xp (hP:cx.P=P) (hn:cx.n=N) (hd:d < N) (hgd:Ho ops ⟨lk l,AA m⟩ gd) (h:AZ P ⟨lk l,AA m⟩ op=some (.app (some t) blk k)) (hg:(AA m d).1=g) (ht:AA m t=(gt,some b)) (hb:b.st=0)
  (kk:Chain cx ops rest ⟨lk ((d,.sl d (g+1) 0 k) :: l),AA ((d,g+1,some blk) :: (t,gt,some { b with st:=2 }) :: m)⟩ K) :
  Chain cx ops (⟨some d,op,ty,p,af,gd⟩ :: rest) ⟨lk l,AA m⟩ K:=iC hP hn hd hgd h hg ht (.inl hb) kk
theorem A0F (hP:cx.P=P) (hn:cx.n=N) (hgd:Ho ops ⟨lk l,AA m⟩ gd) (h:AZ P ⟨lk l,AA m⟩ op=some (.put t blk)) (ht:AA m t=(gt,some b)) (hb:Dv b.st) (hv:Px m=m')
  (kk:Chain cx ops rest ⟨lk l,AA ((t,gt,some blk) :: m')⟩ K):Chain cx ops (⟨none,op,ty,p,af,gd⟩ :: rest) ⟨lk l,AA m⟩ K:=Io hP hn hgd h (gZ ht hb) (iJ hv) kk
theorem c_split (hP:cx.P=P) (hn:cx.n=N) (hd:d < N) (hgd:Ho ops ⟨lk l,AA m⟩ gd) (h:AZ P ⟨lk l,AA m⟩ op=some (.val (.dv (.bool c)))) (k1:c=true -> Chain cx ops rest ⟨lk ((d,.dv (.bool true)) :: l),AA m⟩ K) (k2:c=false -> Chain cx ops rest ⟨lk ((d,.dv (.bool false)) :: l),AA m⟩ K) :
  Chain cx ops (⟨some d,op,ty,p,af,gd⟩ :: rest) ⟨lk l,AA m⟩ K :=
 EL hP hn hd hgd h (by cases c with | true=>exact k1 rfl | false=>exact k2 rfl)
theorem vk (hj:GD ops j=some s) (hb:Ul want (lk l s)) (k:Chain cx ops rest ⟨lk ((d,.FR []) :: l),AA m⟩ K):Chain cx ops (⟨some d,op,ty,p,af,some (j,want)⟩ :: rest) ⟨lk l,AA m⟩ K:=by
 refine ⟨_,?_,k⟩
 unfold GStep
 refine ⟨s,hj,.inr ⟨hb,?_⟩⟩
 simp only [St.skip,FB]
def jZ (m:List (Nat × Nat × Option BG)):List Nat -> Option (List (Nat × Nat × Option BG))
 | []=>some m
 | t :: ts=>match AA m t with
  | (g,some b)=>if Dv b.st \/ b.st=1 then jZ ((t,g,some { b with st:=1 }) :: m) ts else none
  | _=>none
theorem gQ:∀ {ts:List Nat} {m m':List (Nat × Nat × Option BG)},jZ m ts=some m' -> WE (AA m) ts=some (AA m')
 | [],m,m',h=>by simp only [jZ,Option.some.injEq] at h;subst h;rfl
 | t :: ts,m,m',h=>by
  simp only [jZ] at h
  simp only [WE]
  split at h
  ·rename_i g b e
   split at h
   ·rename_i hb
    simp only [e,hb,if_true,Ej]
    exact gQ h
   ·cases h
  ·cases h
theorem c_fn {f:FuncId} {pre caps:Array Operand} {ps cs:List DV} {ts us:List Nat} (hP:cx.P=P) (hn:cx.n=N) (hd:d < N) (hgd:Ho ops ⟨lk l,AA m⟩ gd) (h1:Hg (pre.toList.map (St.look ⟨lk l,AA m⟩))=some (ps,ts)) (h2:Hg (caps.toList.map (St.look ⟨lk l,AA m⟩))=some (cs,us))
  (h3:jZ m (ts ++ us)=some m') (k:Chain cx ops rest ⟨lk ((d,.dv (.fn f ps cs)) :: l),AA m'⟩ K):Chain cx ops (⟨some d,.makeFunc (.func f) pre caps,ty,p,af,gd⟩ :: rest) ⟨lk l,AA m⟩ K:=by
 subst hn
 refine ⟨_,Gq hgd (.fn f pre caps rfl ?_),k⟩
 simp only [St.Rq,h1,h2,gQ h3,hd,if_true,FB]
theorem Nj (hP:cx.P=P) (hn:cx.n=N) (hd:d < N) {f':Operand} {args:Array Operand} {ts:Array TypeId} {f:FuncId} {pre ds caps:List DV} {S S':St} (hgd:Ho ops S gd) (hf:S.ev f'=.dv (.fn f pre caps)) {res:Rv}
  (hc:(Cm (GQ S.M) (args.toList.map S.ev) ds /\ AR P f (pre ++ ds ++ caps) res) \/ (Cm (EC S.M) (args.toList.map S.ev) ds /\ GR P f (pre ++ ds ++ caps) res)) (hS:(CU d S res).app S=S') (k:Chain cx ops rest S' K) :
  Chain cx ops (⟨some d,.call { callee:=.value f',args:=args,argTypes:=ts },ty,p,af,gd⟩ :: rest) S K:=by
 subst hP;subst hn;subst hS
 refine ⟨_,Gq hgd ?_,k⟩
 have hr:S.F9 cx.n (some d) res=some ((CU d S res).app S):=Sg hd fun _ _=>rfl
 rcases hc with ⟨h1,h2⟩ | ⟨h1,h2⟩
 ·exact .qM f' args ts f pre caps ds res rfl hf h1 h2 hr
 ·exact .qN f' args ts f pre caps ds res rfl hf h1 h2 hr
theorem WJ {S S':St} {o:Oper} {out:Out} {e:Eff} (hP:cx.P=P) (hn:cx.n=N) (hgd:Ho ops S o.guard) (h:AZ P S o.op=some out) (he:DT N S o.dst out=some e) (hR:Dz S o.op ++ Dn o.dst out=R) (hS:e.app S=S') (k:Bz cx ops rest (⟨R,e⟩ :: its) S' KD):Bz cx ops (o :: rest) its S KD:=by
 subst hP;subst hn;subst hS;subst hR
 obtain ⟨e1,e2,e3⟩:=vD he
 refine ⟨⟨_,e⟩,⟨e1,fun p hp=>List.mem_append_right _ (e2 p hp),fun hk=>by simpa using fun _=>e3 hk⟩,?_,k⟩
 cases hgu:o.guard with
 | none=>exact cO hgu h he
 | some q =>
  obtain ⟨j,want⟩:=q
  rw [hgu] at hgd
  obtain ⟨s,h1,h2⟩:=hgd
  exact XZ hgu h1 h2 h he
theorem A0A {S S':St} {o:Oper} (hgd:o.guard=some (j,want)) (hj:GD ops j=some s) (hb:Ul want (S.F s)) (hS:(⟨o.dst,.FR [],false,[]⟩:Eff).app S=S') (k:Bz cx ops rest (⟨[],⟨o.dst,.FR [],false,[]⟩⟩ :: its) S' KD):Bz cx ops (o :: rest) its S KD:=by
 subst hS
 exact ⟨⟨[],_⟩,⟨rfl,fun p hp=>by simp at hp,fun hk=>by simp at hk⟩,ZL hgd hj hb,k⟩
theorem qH {S S':St} (hP:cx.P=P) (hn:cx.n=N) (hd:d < N) (hgd:Ho ops S gd) {f':Operand} {args:Array Operand} {ts:Array TypeId} {f:FuncId} {pre ds caps:List DV} (hf:S.ev f'=.dv (.fn f pre caps)) {res:Rv}
  (hc:(Cm (GQ (L8 R S.M)) (args.toList.map S.ev) ds /\ AR P f (pre ++ ds ++ caps) res) \/ (Cm (EC (L8 R S.M)) (args.toList.map S.ev) ds /\ GR P f (pre ++ ds ++ caps) res)) (hS:(CU d S res).app S=S')
  (k:Bz cx ops rest (⟨R ++ JQ d res,CU d S res⟩ :: its) S' KD):Bz cx ops (⟨some d,.call { callee:=.value f',args:=args,argTypes:=ts },ty,p,af,gd⟩ :: rest) its S KD:=by
 subst hP;subst hn;subst hS
 refine ⟨⟨_,_⟩,⟨rfl,fun p hp=>List.mem_append_right _ ?_,fun hk=>by simp [CU] at hk⟩,?_,k⟩
 ·cases res with
  | one r=>exact KZ d [r] 0 _ p hp
  | many rs=>exact KZ d rs 0 _ p hp
 ·intro T h1 h2
  have hst:=aS (cx:=cx) (ops:=ops) (o:=⟨some d,.call { callee:=.value f',args:=args,argTypes:=ts },ty,p,af,gd⟩) rfl hd rfl hf hc T h1 h2
  unfold GStep
  cases gd with
  | none=>exact hst
  | some q =>
   obtain ⟨j,want⟩:=q
   obtain ⟨s,h3,h4⟩:=hgd
   refine ⟨s,h3,.inl ⟨?_,hst⟩⟩
   rw [h1 s (Ja rfl h3)]
   exact h4
theorem xE (hP:cx.P=P) (hn:cx.n=N) (hd:d < N) (hgd:Ho ops ⟨lk l,AA m⟩ gd) (h:AZ P ⟨lk l,AA m⟩ op=some (.val r)) (hR:Dz ⟨lk l,AA m⟩ op=R) (k:Bz cx ops rest (⟨R ++ [],⟨some d,r,false,[]⟩⟩ :: its) ⟨lk ((d,r) :: l),AA m⟩ KD):Bz cx ops (⟨some d,op,ty,p,af,gd⟩ :: rest) its ⟨lk l,AA m⟩ KD :=
 WJ hP hn hgd h (MV hd _) (by simp only [hR,Dn]) Ky k
theorem d_pt (hP:cx.P=P) (hn:cx.n=N) (hd:d < N) (hgd:Ho ops ⟨lk l,AA m⟩ gd) (h:AZ P ⟨lk l,AA m⟩ op=some (.mk blk k)) (hb:blk.row=false) (hg:(AA m d).1=g) (hR:Dz ⟨lk l,AA m⟩ op=R) (kk:Bz cx ops rest (⟨R ++ [d],⟨some d,.pt d (g+1) 0,false,[(d,g+1,some blk)]⟩⟩ :: its) ⟨lk ((d,.pt d (g+1) 0) :: l),AA ((d,g+1,some blk) :: m)⟩ KD) :
  Bz cx ops (⟨some d,op,ty,p,af,gd⟩ :: rest) its ⟨lk l,AA m⟩ KD:=WJ hP hn hgd h (pY hd hb hg) (by simp only [hR,Dn,Option.toList]) Mg kk
theorem A4B (hP:cx.P=P) (hn:cx.n=N) (hd:d < N) (hgd:Ho ops ⟨lk l,AA m⟩ gd) (h:AZ P ⟨lk l,AA m⟩ op=some (.mk blk k)) (hb:blk.row=true) (hg:(AA m d).1=g) (hR:Dz ⟨lk l,AA m⟩ op=R) (kk:Bz cx ops rest (⟨R ++ [d],⟨some d,.sl d (g+1) 0 k,false,[(d,g+1,some blk)]⟩⟩ :: its) ⟨lk ((d,.sl d (g+1) 0 k) :: l),AA ((d,g+1,some blk) :: m)⟩ KD) :
  Bz cx ops (⟨some d,op,ty,p,af,gd⟩ :: rest) its ⟨lk l,AA m⟩ KD:=WJ hP hn hgd h (gY hd hb hg) (by simp only [hR,Dn,Option.toList]) Mg kk
theorem A0C (hP:cx.P=P) (hn:cx.n=N) (hd:d < N) (hgd:Ho ops ⟨lk l,AA m⟩ gd) (h:AZ P ⟨lk l,AA m⟩ op=some (.app none blk k)) (hg:(AA m d).1=g) (hR:Dz ⟨lk l,AA m⟩ op=R) (kk:Bz cx ops rest (⟨R ++ [d],⟨some d,.sl d (g+1) 0 k,false,[(d,g+1,some blk)]⟩⟩ :: its) ⟨lk ((d,.sl d (g+1) 0 k) :: l),AA ((d,g+1,some blk) :: m)⟩ KD) :
  Bz cx ops (⟨some d,op,ty,p,af,gd⟩ :: rest) its ⟨lk l,AA m⟩ KD:=WJ hP hn hgd h (ZV hd hg) (by simp only [hR,Dn,Option.toList,List.append_nil]) Mg kk
theorem vQ (hP:cx.P=P) (hn:cx.n=N) (hd:d < N) (hgd:Ho ops ⟨lk l,AA m⟩ gd) (h:AZ P ⟨lk l,AA m⟩ op=some (.app (some t) blk k)) (hg:(AA m d).1=g) (ht:AA m t=(gt,some b)) (hb:Dv b.st) (hR:Dz ⟨lk l,AA m⟩ op=R)
  (kk:Bz cx ops rest (⟨R ++ [d,t],⟨some d,.sl d (g+1) 0 k,false,[(t,gt,some { b with st:=2 }),(d,g+1,some blk)]⟩⟩ :: its) ⟨lk ((d,.sl d (g+1) 0 k) :: l),AA ((d,g+1,some blk) :: (t,gt,some { b with st:=2 }) :: m)⟩ KD) :
  Bz cx ops (⟨some d,op,ty,p,af,gd⟩ :: rest) its ⟨lk l,AA m⟩ KD:=WJ hP hn hgd h (ZU hd hg ht hb) (by simp only [hR,Dn,Option.toList,List.cons_append,List.nil_append]) iI kk
theorem A0B (hP:cx.P=P) (hn:cx.n=N) (hgd:Ho ops ⟨lk l,AA m⟩ gd) (h:AZ P ⟨lk l,AA m⟩ op=some (.put t blk)) (ht:AA m t=(gt,some b)) (hb:Dv b.st) (hv:Px m=m') (hR:Dz ⟨lk l,AA m⟩ op=R)
  (kk:Bz cx ops rest (⟨R ++ [t],⟨none,.dead,true,[(t,gt,some blk)]⟩⟩ :: its) ⟨lk l,AA ((t,gt,some blk) :: m')⟩ KD):Bz cx ops (⟨none,op,ty,p,af,gd⟩ :: rest) its ⟨lk l,AA m⟩ KD:=WJ hP hn hgd h (gZ ht hb) (by simp only [hR,Dn]) (iJ hv) kk
theorem vM (hP:cx.P=P) (hn:cx.n=N) (hd:d < N) (hgd:Ho ops ⟨lk l,AA m⟩ gd) (h:AZ P ⟨lk l,AA m⟩ op=some (.val (.dv (.bool c)))) (hR:Dz ⟨lk l,AA m⟩ op=R)
  (k1:c=true -> Bz cx ops rest (⟨R ++ [],⟨some d,.dv (.bool true),false,[]⟩⟩ :: its) ⟨lk ((d,.dv (.bool true)) :: l),AA m⟩ KD) (k2:c=false -> Bz cx ops rest (⟨R ++ [],⟨some d,.dv (.bool false),false,[]⟩⟩ :: its) ⟨lk ((d,.dv (.bool false)) :: l),AA m⟩ KD) :
  Bz cx ops (⟨some d,op,ty,p,af,gd⟩ :: rest) its ⟨lk l,AA m⟩ KD :=
 xE hP hn hd hgd h hR (by cases c with | true=>exact k1 rfl | false=>exact k2 rfl)
theorem vN (hj:GD ops j=some s) (hb:Ul want (lk l s)) (k:Bz cx ops rest (⟨[],⟨some d,.FR [],false,[]⟩⟩ :: its) ⟨lk ((d,.FR []) :: l),AA m⟩ KD):Bz cx ops (⟨some d,op,ty,p,af,some (j,want)⟩ :: rest) its ⟨lk l,AA m⟩ KD :=
 A0A rfl hj hb Ky k
theorem EA (hg:cx.Good) {id:Nat} {lo:List Oper} {K:Exit -> St -> Prop} {S:St} (h:Chain cx lo.toArray lo S fun S'=>K .normal S'):Eu cx (.region id lo.toArray false) K S:=dV hg h
end
end Go.Ab
