/- Ab19, Ab20, Ab21, Ab22. -/
import Derived.Test.YtjcecljhjailiaaGreatDoorBogG04
set_option linter.unusedVariables false
namespace Go.Ab
open Go.RowKit
section
variable {md:Region.Mode} {ops:Array Oper}
def uM (md:Region.Mode) (ops:Array Oper) (k:Nat) (bits:Nat):Prop :=
 ∀ o,ops[k]?=some o -> ∀ L:Nat -> Bool,yS md ops L -> (∀ e ∈ o.after,Region.binds md e=true -> L e.on=true) -> ∀ i,bits.testBit i=true -> L i=true
theorem YG {L:Nat -> Bool} (acc:List Nat) (hacc:∀ k,L k=true -> ∀ i,(acc.getD k 0).testBit i=true -> L i=true):∀ (es:List Edge) (s:Nat),
  (∀ i,s.testBit i=true -> L i=true) -> (∀ e ∈ es,Region.binds md e=true -> L e.on=true) →
  ∀ i,(es.foldl (fun s e=>if Region.binds md e then s ||| 2 ^ e.on ||| acc.getD e.on 0 else s) s).testBit i=true -> L i=true
 | [],s,hs,_,i,h=>hs i h
 | e :: es,s,hs,he,i,h=>by
  refine YG acc hacc es _ (fun i hi=>?_) (fun e' h'=>he e' (List.mem_cons_of_mem _ h')) i h
  replace hi:(if Region.binds md e then s ||| 2 ^ e.on ||| acc.getD e.on 0 else s).testBit i=true:=hi
  split at hi
  ·rename_i hb
   simp only [Nat.testBit_or,Bool.or_eq_true] at hi
   have hon:=he e (by simp) hb
   rcases hi with (hi | hi) | hi
   ·exact hs i hi
   ·rw [Nat.testBit_two_pow] at hi
    simp only [decide_eq_true_eq] at hi
    rw [<- hi];exact hon
   ·exact hacc _ hon i hi
  ·exact hs i hi
theorem dB:∀ (l:List Oper) (acc:List Nat),(∀ j,ops[acc.length+j]?=l[j]?) -> (∀ k,k < acc.length -> uM md ops k (acc.getD k 0)) →
  ∀ k,uM md ops k ((Zg md l acc).getD k 0)
 | [],acc,hl,hacc,k=>by
  rcases Nat.lt_or_ge k acc.length with h | h
  ·exact hacc k h
  ·intro o ho L hc hp i hi
   have:(Zg md [] acc).getD k 0=0:=by simp [Zg,List.getElem?_eq_none h]
   rw [this] at hi
   simp at hi
 | o :: l,acc,hl,hacc,k=>by
  refine dB l _ (fun j=>?_) (fun k hk=>?_) k
  ·rw [List.length_append,List.length_singleton,Nat.add_assoc,Nat.add_comm 1 j,hl (j+1)]
   rfl
  ·rcases Nat.lt_or_ge k acc.length with h | h
   ·have:=hacc k h
    rw [show ∀ x:Nat,(acc ++ [x]).getD k 0=acc.getD k 0 by intro x;simp [List.getElem?_append_left h]]
    exact this
   ·have hk':k=acc.length:=by simp at hk;omega
    subst hk'
    rw [show ∀ x:Nat,(acc ++ [x]).getD acc.length 0=x by intro x;simp]
    intro o' ho' L hc hp i hi
    have h0:ops[acc.length]?=some o:=by simpa using hl 0
    have:o'=o:=Option.some.inj (ho'.symm.trans h0)
    subst this
    refine YG acc (fun k hLk i hi=>?_) o'.after.toList 0 (fun i hi=>by simp at hi) (fun e he hb=>hp e (by simpa using he) hb) i hi
    rcases Nat.lt_or_ge k acc.length with h | h
    ·rcases hok:ops[k]? with _ | ok
     ·have:k < ops.size:=by
       have:=(Array.getElem?_eq_some_iff.1 h0).1;omega
      simp [this] at hok
     ·exact hacc k h ok hok L hc (hc k ok hok hLk) i hi
    ·simp [List.getElem?_eq_none h] at hi
theorem Y8:∀ (l:List Oper) (n:Nat),(∀ j,ops[n+j]?=l[j]?) -> U8 md l n=true -> ∀ (i:Nat) o,n <= i -> ops[i]?=some o -> ∀ e ∈ o.after,Region.binds md e=true -> e.on < i
 | [],n,hl,_,i,o,hi,ho=>by
  have:=hl (i - n)
  rw [show n+(i - n)=i by omega,ho] at this
  simp at this
 | x :: l,n,hl,hb,i,o,hi,ho=>by
  simp only [U8,Bool.and_eq_true] at hb
  rcases Nat.eq_or_lt_of_le hi with h | h
  ·subst h
   have:=hl 0
   rw [Nat.add_zero,ho] at this
   simp at this
   subst this
   intro e he hbd
   have:=List.all_eq_true.1 hb.1 e (by simpa using he)
   simpa [hbd] using this
  ·exact Y8 l (n+1) (fun j=>by rw [Nat.add_assoc,Nat.add_comm 1 j,hl (j+1)];rfl) hb.2 i o h ho
theorem ay {its:List It} (h1:U8 md ops.toList 0=true) (h2:kg md ops its (Zg md ops.toList [])=true):Free md ops its:=by
 refine ⟨fun i o ho=>Y8 ops.toList 0 (fun j=>by simp) h1 i o (Nat.zero_le _) ho,fun i j x y a b hij hx hy ha hb=>?_⟩
 have hj:j < ops.size:=(Array.getElem?_eq_some_iff.1 hy).1
 have h3:=List.all_eq_true.1 h2 j (List.mem_range.2 hj)
 have h4:=List.all_eq_true.1 h3 i (List.mem_range.2 hij)
 simp only [hx,hy,ha,hb,Bool.or_eq_true] at h4
 rcases h4 with h4 | h4
 ·exact .inr fun L hc hp=>dB ops.toList [] (fun j=>by simp) (fun k hk=>by simp at hk) j y hy L hc hp i h4
 ·exact .inl h4
theorem Tz {p q:Nat -> Bool}:∀ (l:List Nat) (i:Nat),i ∈ l -> (∀ k ∈ l,q k=true -> p k=true) -> p i=true -> q i=false -> l.countP q < l.countP p
 | [],_,h,_,_,_=>by cases h
 | a :: l,i,h,hqp,hp,hq=>by
  have hle:l.countP q <= l.countP p:=List.countP_mono_left fun k hk hqk=>hqp k (List.mem_cons_of_mem _ hk) hqk
  rcases List.mem_cons.1 h with rfl | h1
  ·rw [List.countP_cons_of_pos hp,List.countP_cons_of_neg (by simp [hq])]
   omega
  ·have ih:=Tz l i h1 (fun k hk=>hqp k (List.mem_cons_of_mem _ hk)) hp hq
   rw [List.countP_cons,List.countP_cons]
   have:(if q a=true then 1 else 0) <= (if p a=true then 1 else 0):=by
    by_cases hqa:q a=true
    ·rw [if_pos hqa,if_pos (hqp a (by simp) hqa)];exact Nat.le_refl _
    ·rw [if_neg hqa];exact Nat.zero_le _
   omega
variable {cx:Cx} {its:List It} {S0:St} {Φ:St -> Prop} {Q:Exit -> Act -> World -> Prop}
theorem Sy {L L':Nat -> Bool} (h:∀ i,i < its.length -> L i=L' i):Kc its S0 L=Kc its S0 L':=by
 unfold Kc
 congr 2
 apply List.filter_congr
 rintro ⟨it,i⟩ hp
 exact h i (List.getElem?_eq_some_iff.1 (Pb hp)).1
theorem rA (hg:cx.Good) {n:Nat} (ok:LU Φ cx ops its S0) (fr:Free md ops its) (hQ:∀ a w,JQ cx (Kc its S0 fun _=>true) a w -> Q .normal a w) :
  ∀ (fuel:Nat) (listed:Array Bool) (a:Act) (w:World),listed.size=ops.size -> yS md ops (fun k=>listed.getD k false) -> (List.range ops.size).countP (fun k=>!listed.getD k false) <= fuel →
   JQ cx (Kc its S0 fun k=>listed.getD k false) a w -> wpAnyIn cx.fence n cx.P md ops Q fuel listed a w:=by
 have done:∀ (listed:Array Bool) (a:Act) (w:World),listed.size=ops.size -> Region.ready md ops listed=[] -> JQ cx (Kc its S0 fun k=>listed.getD k false) a w -> Q .normal a w:=by
  intro listed a w hsz hr hs
  have all:∀ i,i < ops.size -> listed.getD i false=true:=by
   intro i
   induction i using Nat.strongRecOn with
   | _ i ih =>
    intro hi
    cases hl:listed.getD i false with
    | true=>rfl
    | false =>
     have:i ∈ Region.ready md ops listed:=mem_ready.2 ⟨getD_in (by omega) hl,ops[i],by simp [hi],fun e he hb=>ih e.on (fr.back i ops[i] (by simp [hi]) e he hb) (by
      have:=fr.back i ops[i] (by simp [hi]) e he hb;omega)⟩
     rw [hr] at this
     cases this
  refine hQ a w ?_
  rwa [Sy (L':=fun _=>true) fun i hi=>all i (by rw [<- ok.len];exact hi)] at hs
 intro fuel
 induction fuel with
 | zero =>
  intro listed a w hsz hc hn hs
  have hr:Region.ready md ops listed=[]:=by
   rw [List.eq_nil_iff_forall_not_mem]
   intro i hi
   obtain ⟨h1,o,ho,_⟩:=mem_ready.1 hi
   have hlt:i < ops.size:=(Array.getElem?_eq_some_iff.1 ho).1
   have:0 < (List.range ops.size).countP (fun k=>!listed.getD k false):=List.countP_pos_iff.2 ⟨i,List.mem_range.2 hlt,by simpa using getD_both h1⟩
   omega
  exact ⟨hr,done listed a w hsz hr hs⟩
 | succ fuel ih =>
  intro listed a w hsz hc hn hs
  refine ⟨fun hr=>done listed a w hsz hr hs,fun i hi=>?_⟩
  obtain ⟨h1,o,ho,hpre⟩:=mem_ready.1 hi
  have hlt:i < ops.size:=(Array.getElem?_eq_some_iff.1 ho).1
  have hit:its[i]?=some (its[i]'(by rw [ok.len];exact hlt)):=by simp [ok.len,hlt]
  have hst:=Ub ok fr hc ho hit (getD_both h1) hpre
  have hins:=Ye ok fr hc ho hit (getD_both h1)
  have hset:∀ k,(listed.setIfInBounds i true).getD k false=(listed.getD k false || k == i):=fun k=>by
   by_cases hk:i=k
   ·subst hk
    have:i < listed.size:=by omega
    simp [this]
   ·rw [getD_set_ne false hk]
    simp [Ne.symm hk]
  have key:∀ a' w',JQ cx ((its[i]'(by rw [ok.len];exact hlt)).e.app (Kc its S0 fun k=>listed.getD k false)) a' w' -> wpAnyIn cx.fence n cx.P md ops Q fuel (listed.setIfInBounds i true) a' w':=fun a' w' h'=>by
   refine ih _ a' w' (by simpa using hsz) (fun k o' hk hl e he hb=>?_) ?_ ?_
   ·simp only [hset] at hl ⊢
    by_cases hki:k=i
    ·subst hki
     have:o'=o:=Option.some.inj (hk.symm.trans ho)
     subst this
     rw [hpre e he hb];rfl
    ·have:listed.getD k false=true:=by simpa [hki] using hl
     have h2:listed.getD e.on false=true:=hc k o' hk this e he hb
     rw [h2];rfl
   ·have:(List.range ops.size).countP (fun k=>!(listed.setIfInBounds i true).getD k false) < (List.range ops.size).countP (fun k=>!listed.getD k false):=by
     refine Tz _ i (List.mem_range.2 hlt) (fun k _ hk=>?_) (by simpa using getD_both h1) ?_
     ·simp only [hset] at hk
      simp only [Bool.not_or,Bool.and_eq_true] at hk
      exact hk.1
     ·simp only [hset];simp
    omega
   ·rw [<- hins] at h'
    rwa [show (fun k=>(listed.setIfInBounds i true).getD k false)=fun k=>(listed.getD k false || k == i) from funext hset]
  unfold wpOpIn
  simp only [ho]
  rcases KP hg hs hst with ⟨g1,g2⟩ | ⟨g1,g2⟩
  ·rw [if_pos g1]
   exact Oper.wpIn_mono (fun a' w' h'=>key a' w' h') (g2.wpIn hs n Q)
  ·rw [if_neg (by simp [g1])]
   exact ⟨fun _ _=>trivial,key _ _ g2⟩
theorem BJ.drawn {S:St} {a:Act} {w:World} {μ:Nat -> Option (Nat × Nat)} (h:BJ cx S a w μ) (n:Nat):BJ cx S a { w with drawn:=n } μ:=by
 have hk:∀ b,b < w.heap.size -> ¬ XX cx S.M μ b -> ({ w with drawn:=n }:World).heap[b]?=w.heap[b]? /\ ¬ XX cx S.M μ b:=fun b _ hx=>⟨rfl,hx⟩
 have hB:∀ t g Aj,S.M t=(g,some Aj) -> g <= (S.M t).1 -> ∃ blk,S.M t=(g,some blk) /\ μ t=μ t /\ Aj.C8=blk.C8:=fun t g Aj e _=>⟨Aj,e,rfl,rfl⟩
 exact {
  blk:=fun t g blk e=>Bt.mono (w:=w) (w':={ w with drawn:=n }) (st:=blk.st) (Nat.le_refl _) hk (fun _=>Nat.le_refl _) hB rfl (fun _ _ _=>rfl) (h.blk t g blk e)
  slot:=fun i=>AJ.mono (w:=w) (w':={ w with drawn:=n }) (Nat.le_refl _) hk (fun _=>Nat.le_refl _) hB _ _ (h.slot i)
  place:=h.place
  uniq:=h.uniq
  Ei:=h.Ei
  below:=⟨h.below.os,h.below.tape,h.below.output,h.below.size,h.below.block⟩
  size:=h.size
  defers:=h.defers }
theorem YA (hg:cx.Good) (hm:cx.P.follows .mixedOrders=true) {id:Nat} {K:Exit -> St -> Prop} {S:St} (ok:LU Φ cx ops its S) (fr:Free .any ops its) (hK:K .normal (Kc its S fun _=>true)):EF cx (.region id ops true) K S:=by
 rintro a w ⟨μ,hs⟩
 refine wpIn_region_any hm (rA hg ok fr (fun a' w' h=>.inl ⟨_,h,hK⟩) ops.size _ a _ (by simp) (fun k o _ hl=>?_) ?_ ?_)
 ·have hl':(Array.replicate ops.size false).getD k false=true:=hl
  rw [getD_replicate_false] at hl';cases hl'
 ·exact Nat.le_trans List.countP_le_length (by simp)
 ·have:Kc its S (fun k=>(Array.replicate ops.size false).getD k false)=S:=by
   unfold Kc
   have:(its.zipIdx.filter fun p=>(Array.replicate ops.size false).getD p.2 false)=[]:=by
    rw [List.filter_eq_nil_iff]
    intro p _
    rw [getD_replicate_false]
    simp
   rw [this]
   rfl
  rw [this]
  exact ⟨μ,hs.drawn _⟩
def Ba (cx:Cx) (ops:Array Oper):List Oper -> List It -> St -> (List It -> St -> Prop) -> Prop
 | [],its,S,K=>K its.reverse S
 | o :: l,its,S,K=>∃ it:It,(it.e.dst=o.dst /\ (∀ p ∈ it.e.ms,p.1 ∈ it.R) /\ (it.e.kv=true -> it.R ≠ [])) /\ Rx cx ops it.R S o it.e /\ Ba cx ops l (it :: its) (it.e.app S) K
theorem WB (n:Nat):Kc its S0 (fun k=>decide (k < n))=Fg ((its.take n).map (·.e)) S0:=by
 unfold Kc
 congr 1
 have:∀ (l:List It) (m n:Nat),((l.zipIdx m).filter fun p=>decide (p.2 < m+n)).map (·.1.e)=(l.take n).map (·.e):=by
  intro l
  induction l with
  | nil=>intro m n;simp
  | cons a l ih =>
   intro m n
   rw [List.zipIdx_cons]
   cases n with
   | zero =>
    rw [List.filter_eq_nil_iff.2]
    ·simp
    ·intro p hp
     rcases List.mem_cons.1 hp with rfl | hp
     ·simp
     ·have:=List.mem_zipIdx (x:=p.1) (i:=p.2) hp
      simp;omega
   | succ n =>
    rw [List.filter_cons_of_pos (by simp)]
    have:=ih (m+1) n
    rw [show m+1+n=m+(n+1) by omega] at this
    simp [this]
 simpa using this its 0 n
theorem fJ (l l':List Eff) (S:St):Fg (l ++ l') S=Fg l' (Fg l S):=by simp [Fg]
theorem RU:∀ (l:List Oper) (pre:List Oper) (its:List It) (S:St) (K:List It -> St -> Prop),ops.toList=pre ++ l -> its.length=pre.length -> S=Fg (its.reverse.map (·.e)) S0 →
  (∀ (i:Nat) o it,pre[i]?=some o -> its.reverse[i]?=some it -> it.e.dst=o.dst /\ (∀ p ∈ it.e.ms,p.1 ∈ it.R) /\ (it.e.kv=true -> it.R ≠ []) /\ Rx cx ops it.R (Fg ((its.reverse.take i).map (·.e)) S0) o it.e) →
  Ba cx ops l its S K -> ∃ w9,LU (fun _=>True) cx ops w9 S0 /\ K w9 (Kc w9 S0 fun _=>true)
 | [],pre,its,S,K,h1,h2,h3,h4,h=>by
  refine ⟨its.reverse,⟨?_,fun i o it ho hit=>?_,fun _=>trivial⟩,?_⟩
  ·have:=congrArg List.length h1;simp at this;simp;omega
  ·rw [WB]
   obtain ⟨q1,q2,q3,q4⟩:=h4 i o it (by rw [List.append_nil] at h1;rw [<- h1];simpa using ho) hit
   exact ⟨q1,q2,q3,fun T _ t1 t2=>q4 T t1 t2⟩
  ·have e:Kc its.reverse S0 (fun _=>true)=S:=by
    rw [h3,<- List.take_length (l:=its.reverse),<- WB,List.take_length]
    exact Sy fun i hi=>by simp at hi;simp [hi]
   rw [e]
   exact h
 | o :: l,pre,its,S,K,h1,h2,h3,h4,h=>by
  obtain ⟨it,⟨a1,a2,a3⟩,a4,a5⟩:=h
  refine RU l (pre ++ [o]) (it :: its) _ K (by simp [h1]) (by simp [h2]) ?_ ?_ a5
  ·rw [List.reverse_cons,List.map_append,fJ,<- h3]
   rfl
  ·intro i o' it' ho hit
   rw [List.reverse_cons] at hit ⊢
   rcases Nat.lt_or_ge i pre.length with hlt | hge
   ·rw [List.getElem?_append_left hlt] at ho
    have hl:i < its.reverse.length:=by simp;omega
    rw [List.getElem?_append_left hl] at hit
    rw [List.take_append_of_le_length (by omega)]
    exact h4 i o' it' ho hit
   ·rw [List.getElem?_append_right hge] at ho
    have hi:i - pre.length=0:=by
     have:=(List.getElem?_eq_some_iff.1 ho).1
     simp at this;omega
    rw [hi] at ho
    simp only [List.getElem?_cons_zero,Option.some.injEq] at ho
    subst ho
    rw [List.getElem?_append_right (by simp;omega)] at hit
    have hi2:i - its.reverse.length=0:=by simp;omega
    rw [hi2] at hit
    simp only [List.getElem?_cons_zero,Option.some.injEq] at hit
    subst hit
    have hi3:i=its.reverse.length:=by simp;omega
    rw [hi3,List.take_append_of_le_length (Nat.le_refl _),List.take_length,<- h3]
    exact ⟨a1,a2,a3,a4⟩
def kZ (md:Region.Mode) (ops:Array Oper) (m:List (Nat × Nat × Option Au)) (its:List It) (Ei:List Nat):Bool :=
 kg md ops its Ei || (tC m && (sw its && kg md ops (its.map It.Q9) Ei))
end
end Go.Ab
set_option linter.unusedVariables false
namespace Go.Ab
open Go.RowKit
def lk:List (Nat × SV) -> Nat -> SV
 | [],_=>.dead
 | (k,v) :: l,i=>if i=k then v else lk l i
def AA:List (Nat × Nat × Option Au) -> Nat -> Nat × Option Au
 | [],_=>(0,none)
 | (k,v) :: l,i=>if i=k then v else AA l i
theorem EY (l:List (Nat × SV)) (d:Nat) (v:SV):upd (lk l) d v=lk ((d,v) :: l):=by
 funext i;simp [upd,lk]
theorem EM (l:List (Nat × Nat × Option Au)) (d:Nat) (v:Nat × Option Au):upd (AA l) d v=AA ((d,v) :: l):=by
 funext i;simp [upd,AA]
theorem Bq:(fun _=>((0,none):Nat × Option Au))=AA []:=by funext i;rfl
def BH:Nat -> List DV -> List (Nat × SV)
 | _,[]=>[]
 | n,d :: ds=>(n,.dv d) :: BH (n+1) ds
theorem Br (ds:List DV):Gb ds=lk (BH 0 ds):=by
 have:∀ (ds:List DV) (n i:Nat),lk (BH n ds) i=if n <= i then Gb ds (i - n) else .dead:=by
  intro ds
  induction ds with
  | nil=>intro n i;simp [BH,lk,Gb]
  | cons d ds ih =>
   intro n i
   simp only [BH,lk,ih]
   by_cases h:i=n
   ·subst h;simp [Gb]
   ·by_cases h2:n <= i
    ·have:n+1 <= i:=by omega
     have e:i - n=(i - (n+1))+1:=by omega
     simp only [h,if_false,this,if_true,h2,e,Gb,List.getElem?_cons_succ]
    ·have:¬ n+1 <= i:=by omega
     simp [h,this,h2]
 funext i
 rw [this]
 simp
def NH (e:Nat × Option Au):Nat × Option Au :=
 match e.2 with
 | some b=>if b.st=2 then (e.1,none) else e
 | none=>e
def OA:List (Nat × Nat × Option Au) -> List (Nat × Nat × Option Au)
 | []=>[]
 | (k,v) :: l=>(k,NH v) :: OA l
theorem Er (l:List (Nat × Nat × Option Au)):Bd (AA l)=AA (OA l):=by
 funext i
 induction l with
 | nil=>rfl
 | cons p l ih =>
  obtain ⟨k,v⟩:=p
  by_cases h:i=k
  ·subst h
   simp only [Bd,AA,OA,if_true]
   obtain ⟨g,b⟩:=v
   cases b<;>rfl
  ·have e1:AA ((k,v) :: l) i=AA l i:=by simp [AA,h]
   have e2:AA (OA ((k,v) :: l)) i=AA (OA l) i:=by simp [AA,OA,h]
   rw [e2,<- ih]
   unfold Bd
   rw [e1]
def K7:SV -> List Nat
 | .sl t _ _ _=>[t]
 | .pt t _ _=>[t]
 | _=>[]
def deref:Op -> List Operand
 | .fieldAddr _ x _=>[x]
 | .indexAddr _ x _=>[x]
 | .load _ x=>[x]
 | .slice _ x _ _ _=>[x]
 | .nilCheck x=>[x]
 | .store _ x _=>[x]
 | .convert _ _ x=>[x]
 | .call c=>match c.callee with
  | .builtin .append=>c.args.toList
  | .builtin .len=>c.args.toList
  | _=>[]
 | _=>[]
def DR (S:St) (op:Op):List Nat:=(deref op).flatMap fun x=>K7 (S.ev x)
def D7 (dst:Option Nat):Out -> List Nat
 | .val _=>[]
 | .mk _ _=>dst.toList
 | .app t _ _=>dst.toList ++ t.toList
 | .put t _=>[t]
def Ct (n:Nat) (S:St) (dst:Option Nat):Out -> Option Eff
 | .val r=>match dst with
  | some d=>if d < n then some ⟨some d,r,false,[]⟩ else none
  | none=>some ⟨none,.dead,false,[]⟩
 | .mk blk k=>match dst with
  | some d=>if d < n then some ⟨some d,if blk.row then .sl d ((S.M d).1+1) 0 k else .pt d ((S.M d).1+1) 0,false,[(d,(S.M d).1+1,some blk)]⟩ else none
  | none=>none
 | .app t blk k=>match dst with
  | some d=>if d < n then
    match t with
    | none=>some ⟨some d,.sl d ((S.M d).1+1) 0 k,false,[(d,(S.M d).1+1,some blk)]⟩
    | some t=>match (S.M t).2 with
     | some b=>if ED b.st then some ⟨some d,.sl d ((S.M d).1+1) 0 k,false,[(t,(S.M t).1,some { b with st:=2 }),(d,(S.M d).1+1,some blk)]⟩ else none
     | none=>none
   else none
  | none=>none
 | .put t blk=>match dst with
  | some _=>none
  | none=>match (S.M t).2 with
   | some b=>if ED b.st then some ⟨none,.dead,true,[(t,(S.M t).1,some blk)]⟩ else none
   | none=>none
theorem HY {n:Nat} {S:St} {dst:Option Nat} {out:Out} {e:Eff} (h:Ct n S dst out=some e):S.apply n dst out=some (e.app S):=by
 cases out with
 | val r =>
  cases dst with
  | none=>simp only [Ct,Option.some.injEq] at h;subst h;rfl
  | some d =>
   simp only [Ct] at h
   split at h
   ·rename_i hd;simp only [Option.some.injEq] at h;subst h;simp [St.apply,hd,Eff.app,D6]
   ·cases h
 | mk blk k =>
  cases dst with
  | none=>simp [Ct] at h
  | some d =>
   simp only [Ct] at h
   split at h
   ·rename_i hd;simp only [Option.some.injEq] at h;subst h;simp [St.apply,hd,Eff.app,D6]
   ·cases h
 | app t blk k =>
  cases dst with
  | none=>simp [Ct] at h
  | some d =>
   simp only [Ct] at h
   split at h
   ·rename_i hd
    cases t with
    | none=>simp only [Option.some.injEq] at h;subst h;simp [St.apply,hd,Eff.app,D6]
    | some t =>
     simp only at h
     split at h
     ·rename_i b hb
      split at h
      ·rename_i hst
       simp only [Option.some.injEq] at h;subst h;simp [St.apply,hd,Eff.app,D6,hb,hst]
      ·cases h
     ·cases h
   ·cases h
 | put t blk =>
  cases dst with
  | some d=>simp [Ct] at h
  | none =>
   simp only [Ct] at h
   split at h
   ·rename_i b hb
    split at h
    ·rename_i hst
     simp only [Option.some.injEq] at h;subst h;simp [St.apply,Eff.app,D6,hb,hst]
    ·cases h
   ·cases h
theorem qh {n:Nat} {S:St} {dst:Option Nat} {out:Out} {e:Eff} (h:Ct n S dst out=some e):e.dst=dst /\ (∀ p ∈ e.ms,p.1 ∈ D7 dst out) /\ (e.kv=true -> D7 dst out ≠ []):=by
 cases out with
 | val r=>cases dst<;>simp only [Ct] at h<;>(try split at h)<;>(first | (simp only [Option.some.injEq] at h;subst h;simp;done) | cases h)
 | mk blk k=>cases dst<;>simp only [Ct] at h<;>(try split at h)<;>(first | (simp only [Option.some.injEq] at h;subst h;simp [D7];done) | cases h)
 | app t blk k =>
  cases dst with
  | none=>simp [Ct] at h
  | some d =>
   simp only [Ct] at h
   split at h
   ·cases t with
    | none=>simp only [Option.some.injEq] at h;subst h;simp [D7]
    | some t =>
     simp only at h
     split at h
     ·split at h
      ·simp only [Option.some.injEq] at h;subst h;simp [D7]
      ·cases h
     ·cases h
   ·cases h
 | put t blk =>
  cases dst with
  | some d=>simp [Ct] at h
  | none =>
   simp only [Ct] at h
   split at h
   ·split at h
    ·simp only [Option.some.injEq] at h;subst h;simp [D7]
    ·cases h
   ·cases h
theorem fu {n:Nat} {S T:St} {dst:Option Nat} {out:Out} (h:∀ t ∈ D7 dst out,T.M t=S.M t):Ct n T dst out=Ct n S dst out:=by
 cases out with
 | val r=>rfl
 | mk blk k =>
  cases dst with
  | none=>rfl
  | some d=>have:=h d (by simp [D7]);simp only [Ct,this]
 | app t blk k =>
  cases dst with
  | none=>rfl
  | some d =>
   have h1:=h d (by simp [D7])
   cases t with
   | none=>simp only [Ct,h1]
   | some t=>have h2:=h t (by simp [D7]);simp only [Ct,h1,h2]
 | put t blk =>
  cases dst with
  | some d=>rfl
  | none=>have h1:=h t (by simp [D7]);simp only [Ct,h1]
theorem Y5 {M M':Nat -> Nat × Option Au} {s:SV} (h:∀ t ∈ K7 s,M' t=M t):AO M' s=AO M s:=by
 cases s with
 | sl t g o n=>simp only [AO,h t (by simp [K7])]
 | pt t g o=>simp only [AO,h t (by simp [K7])]
 | _=>rfl
theorem WW {P:Program} {S T:St} {op:Op} (h1:∀ x ∈ op.operands,T.ev x=S.ev x) (h2:∀ x ∈ deref op,AO T.M (S.ev x)=AO S.M (S.ev x)):AP P T op=AP P S op:=by
 have gY:∀ x ∈ deref op,T.ev x=S.ev x -> T.look x=S.look x:=fun x hx he=>by
  unfold St.look
  rw [he,h2 x hx]
 cases op with
 | move x=>simp only [AP,h1 x (by simp [Op.operands])]
 | assign x=>simp only [AP,h1 x (by simp [Op.operands])]
 | pick c x y=>simp only [AP,h1 c (by simp [Op.operands]),h1 x (by simp [Op.operands]),h1 y (by simp [Op.operands])]
 | binOp op t x y t'=>simp only [AP,h1 x (by simp [Op.operands]),h1 y (by simp [Op.operands])]
 | unOp op t x=>simp only [AP,h1 x (by simp [Op.operands])]
 | convert s d x=>simp only [AP,h1 x (by simp [Op.operands]),gY x (by simp [deref]) (h1 x (by simp [Op.operands]))]
 | index t x y=>simp only [AP,h1 x (by simp [Op.operands]),h1 y (by simp [Op.operands])]
 | extract x i=>simp only [AP,h1 x (by simp [Op.operands])]
 | fieldAddr s x f=>simp only [AP,gY x (by simp [deref]) (h1 x (by simp [Op.operands]))]
 | indexAddr t x y=>simp only [AP,gY x (by simp [deref]) (h1 x (by simp [Op.operands])),h1 y (by simp [Op.operands])]
 | load t x=>simp only [AP,gY x (by simp [deref]) (h1 x (by simp [Op.operands]))]
 | nilCheck x=>simp only [AP,gY x (by simp [deref]) (h1 x (by simp [Op.operands]))]
 | slice t x lo hi mx =>
  have e:∀ z:Option Operand,(∀ y,z=some y -> y ∈ (Op.slice t x lo hi mx).operands) -> z.map T.ev=z.map S.ev:=fun z hz=>by
   cases z with
   | none=>rfl
   | some y=>simp [h1 y (hz y rfl)]
  simp only [AP,gY x (by simp [deref]) (h1 x (by simp [Op.operands]))]
  rw [e lo (fun y hy=>by subst hy;simp [Op.operands]),e hi (fun y hy=>by subst hy;simp [Op.operands]),e mx (fun y hy=>by subst hy;simp [Op.operands])]
 | build t ps =>
  simp only [AP]
  rw [List.map_congr_left (g:=fun p:Nat × Operand=>(p.1,S.ev p.2)) fun p hp=>by
   rw [h1 p.2 (by simp only [Op.operands,List.mem_toArray,List.mem_map];exact ⟨p,hp,rfl⟩)]]
 | alloc t=>rfl
 | box t x=>simp only [AP,h1 x (by simp [Op.operands])]
 | makeSlice t l c=>simp only [AP,h1 l (by simp [Op.operands]),h1 c (by simp [Op.operands])]
 | buildSlice t n ps =>
  simp only [AP]
  rw [List.map_congr_left (g:=fun p:Nat × Operand=>(p.1,S.ev p.2)) fun p hp=>by
   rw [h1 p.2 (by simp only [Op.operands,List.mem_toArray,List.mem_map];exact ⟨p,hp,rfl⟩)]]
 | store t x v=>simp only [AP,gY x (by simp [deref]) (h1 x (by simp [Op.operands])),h1 v (by simp [Op.operands])]
 | call c =>
  obtain ⟨callee,args,ts⟩:=c
  simp only [AP,GJ]
  have ha:∀ x ∈ args.toList,T.ev x=S.ev x:=fun x hx=>h1 x (by simp [Op.operands,Call.operands];exact .inr (by simpa using hx))
  cases callee with
  | builtin b =>
   simp only
   generalize hl:args.toList=l at ha
   unfold EB
   split
   ·rename_i s x t tx _
    rw [gY s (by simp [deref,hl]) (ha s (by simp)),gY x (by simp [deref,hl]) (ha x (by simp))]
   ·rename_i x t _
    rw [gY x (by simp [deref,hl]) (ha x (by simp))]
   ·rename_i x y
    rw [ha x (by simp),ha y (by simp)]
   ·rename_i x y
    rw [ha x (by simp),ha y (by simp)]
   ·rfl
  | _=>rfl
 | _=>rfl
theorem eT {ops:Array Oper} {o:Oper} {t:Nat} (h:Operand.tmp t ∈ o.op.operands):t ∈ o.looksAt ops :=
 List.mem_append_left _ (List.mem_filterMap.2 ⟨.tmp t,by simpa using h,rfl⟩)
theorem RJ {S T:St} {ops:Array Oper} {o:Oper} (h:∀ s ∈ o.looksAt ops,T.F s=S.F s):∀ x ∈ o.op.operands,T.ev x=S.ev x:=fun x hx=>by
 cases x with
 | tmp t=>exact h t (eT hx)
 | _=>rfl
section
variable {cx:Cx} {ops:Array Oper} {S:St} {o:Oper}
theorem Sw {out:Out} {e:Eff} (h:AP cx.P S o.op=some out) (he:Ct cx.n S o.dst out=some e) (T:St) (h1:∀ s ∈ o.looksAt ops,T.F s=S.F s) (h2:∀ t ∈ DR S o.op ++ D7 o.dst out,T.M t=S.M t):Step cx T o (e.app T):=by
 refine .out out ?_ (HY ?_)
 ·rw [WW (RJ h1) fun x hx=>?_]
  ·exact h
  ·exact Y5 fun t ht=>h2 t (List.mem_append_left _ (List.mem_flatMap.2 ⟨x,hx,ht⟩))
 ·rw [fu fun t ht=>h2 t (List.mem_append_right _ ht)]
  exact he
theorem ZH {out:Out} {e:Eff} (hgd:o.guard=none) (h:AP cx.P S o.op=some out) (he:Ct cx.n S o.dst out=some e):Rx cx ops (DR S o.op ++ D7 o.dst out) S o e:=by
 intro T h1 h2
 unfold GStep
 rw [hgd]
 exact Sw h he T h1 h2
theorem Ih {j t:Nat} {want:Bool} (hgd:o.guard=some (j,want)) (ht:FH ops j=some t):t ∈ o.looksAt ops:=by
 unfold Oper.looksAt
 refine List.mem_append_right _ ?_
 rw [hgd]
 unfold FH at ht
 simp [ht]
theorem V9 {out:Out} {e:Eff} {j t:Nat} {want:Bool} (hgd:o.guard=some (j,want)) (ht:FH ops j=some t) (hb:S.F t=.dv (.bool want)) (h:AP cx.P S o.op=some out) (he:Ct cx.n S o.dst out=some e) :
  Rx cx ops (DR S o.op ++ D7 o.dst out) S o e:=by
 intro T h1 h2
 unfold GStep
 rw [hgd]
 exact ⟨t,ht,.inl ⟨by rw [h1 t (Ih hgd ht)];exact hb,Sw h he T h1 h2⟩⟩
theorem Xd {j t:Nat} {want:Bool} (hgd:o.guard=some (j,want)) (ht:FH ops j=some t) (hb:Rw want (S.F t)):Rx cx ops [] S o ⟨o.dst,.Em [],false,[]⟩:=by
 intro T h1 h2
 unfold GStep
 rw [hgd]
 refine ⟨t,ht,.inr ⟨by rw [h1 t (Ih hgd ht)];exact hb,?_⟩⟩
 cases o.dst<;>rfl
def Oe (R:List Nat) (M:Nat -> Nat × Option Au):Nat -> Nat × Option Au:=fun t=>if R.contains t then M t else ((M t).1,none)
theorem Data.Sm {ok:Nat -> Prop} {Cv:DV -> Prop} {M M':Nat -> Nat × Option Au} (hM:∀ t g blk,M t=(g,some blk) -> M' t=(g,some blk)) {s:SV} {d:DV} (h:Data ok Cv M s d):Data ok Cv M' s d:=by
 induction h with
 | dv d hd=>exact .dv d hd
 | Bh=>exact .Bh
 | emp b=>exact .emp b
 | sl t g off n blk l s e hst hn he hc _ ih=>exact .sl t g off n blk l s (hM _ _ _ e) hst hn he hc ih
 | pt t g off blk cs s e hst hc _ ih=>exact .pt t g off blk cs s (hM _ _ _ e) hst hc ih
 | agg ss ds hl _ ih=>exact .agg ss ds hl ih
theorem Ca.Sm {ok:Nat -> Prop} {Cv:DV -> Prop} {M M':Nat -> Nat × Option Au} (hM:∀ t g blk,M t=(g,some blk) -> M' t=(g,some blk)):∀ {ss:List SV} {ds:List DV},Ca (Data ok Cv M) ss ds -> Ca (Data ok Cv M') ss ds
 | [],[],_=>trivial
 | _ :: _,_ :: _,h=>⟨h.1.Sm hM,Ca.Sm hM h.2⟩
 | [],_ :: _,h=>h.elim
 | _ :: _,[],h=>h.elim
theorem uo {R:List Nat} {M M':Nat -> Nat × Option Au} (h:∀ t ∈ R,M' t=M t):∀ t g blk,Oe R M t=(g,some blk) -> M' t=(g,some blk):=fun t g blk e=>by
 unfold Oe at e
 split at e
 ·rename_i hc
  rw [h t (by simpa using hc)];exact e
 ·simp at e
def Gs (d:Nat):Nat -> List R1 -> List Nat
 | _,[]=>[]
 | j,.dv _ :: rs=>Gs d (j+1) rs
 | j,.row .. :: rs=>(d+1000 * j) :: Gs d (j+1) rs
def IZ (d:Nat):Px -> List Nat
 | .one r=>Gs d 0 [r]
 | .many rs=>Gs d 0 rs
def Gg (d:Nat):Nat -> List R1 -> (Nat -> Nat × Option Au) -> List (Nat × Nat × Option Au)
 | _,[],_=>[]
 | j,.dv _ :: rs,M=>Gg d (j+1) rs M
 | j,.row C8 elem n cs :: rs,M=>(d+1000 * j,(M (d+1000 * j)).1+1,some ⟨cs.map .dv,C8,elem,0,true⟩) :: Gg d (j+1) rs (upd M (d+1000 * j) ((M (d+1000 * j)).1+1,some ⟨cs.map .dv,C8,elem,0,true⟩))
theorem V4 (d:Nat):∀ (rs:List R1) (j:Nat) (M T:Nat -> Nat × Option Au),(∀ t ∈ Gs d j rs,T t=M t) -> (Cw d j rs T).1=(Cw d j rs M).1 /\ (Cw d j rs T).2=D6 T (Gg d j rs M)
 | [],j,M,T,h=>⟨rfl,rfl⟩
 | .dv x :: rs,j,M,T,h=>by
  obtain ⟨h1,h2⟩:=V4 d rs (j+1) M T h
  exact ⟨by simp only [Cw,h1],by simp only [Cw,Gg,h2]⟩
 | .row C8 elem n cs :: rs,j,M,T,h=>by
  have h0:=h (d+1000 * j) (by simp [Gs])
  have:=V4 d rs (j+1) (upd M (d+1000 * j) ((M (d+1000 * j)).1+1,some ⟨cs.map .dv,C8,elem,0,true⟩)) (upd T (d+1000 * j) ((M (d+1000 * j)).1+1,some ⟨cs.map .dv,C8,elem,0,true⟩)) (fun t ht=>by
   by_cases e:t=d+1000 * j
   ·subst e;rw [upd_same,upd_same]
   ·rw [upd_ne _ _ _ _ e,upd_ne _ _ _ _ e];exact h t (by simp [Gs,ht]))
  refine ⟨?_,?_⟩
  ·simp only [Cw,h0,this.1]
  ·simp only [Cw,Gg,h0,D6,this.2]
def Oh (d:Nat) (M:Nat -> Nat × Option Au):Px -> List (Nat × Nat × Option Au)
 | .one r=>Gg d 0 [r] M
 | .many rs=>Gg d 0 rs M
theorem uy (d:Nat) (res:Px) (M T:Nat -> Nat × Option Au) (h:∀ t ∈ IZ d res,T t=M t):(E9 d T res).1=(E9 d M res).1 /\ (E9 d T res).2=D6 T (Oh d M res):=by
 cases res with
 | one r=>have:=V4 d [r] 0 M T h;exact ⟨by simp only [E9,this.1],this.2⟩
 | many rs=>have:=V4 d rs 0 M T h;exact ⟨by simp only [E9,this.1],this.2⟩
theorem Jh (d:Nat):∀ (rs:List R1) (j:Nat) (M:Nat -> Nat × Option Au),∀ p ∈ Gg d j rs M,p.1 ∈ Gs d j rs
 | [],_,_,p,h=>by cases h
 | .dv x :: rs,j,M,p,h=>Jh d rs (j+1) M p h
 | .row C8 elem n cs :: rs,j,M,p,h=>by
  rcases List.mem_cons.1 h with rfl | h
  ·simp [Gs]
  ·exact List.mem_cons_of_mem _ (Jh d rs (j+1) _ p h)
def CG (d:Nat) (S:St) (res:Px):Eff:=⟨some d,(E9 d S.M res).1,false,Oh d S.M res⟩
theorem Qd {n d:Nat} {S T:St} {res:Px} (hd:d < n) (h:∀ t ∈ IZ d res,T.M t=S.M t):T.EU n (some d) res=some ((CG d S res).app T):=by
 have:=uy d res S.M T.M h
 simp [St.EU,hd,this.1,this.2,CG,Eff.app]
theorem Yd {d:Nat} (hdst:o.dst=some d) (hdn:d < cx.n) {f':Operand} {args:Array Operand} {ts:Array TypeId} (ho:o.op=.call { callee:=.value f',args:=args,argTypes:=ts }) {f:FuncId} {pre ds caps:List DV} (hf:S.ev f'=.dv (.fn f pre caps))
  {R:List Nat} {res:Px} (hc:(Ca (Fu (Oe R S.M)) (args.toList.map S.ev) ds /\ AR cx.P f (pre ++ ds ++ caps) res) \/ (Ca (Df (Oe R S.M)) (args.toList.map S.ev) ds /\ FN cx.P f (pre ++ ds ++ caps) res))
  (T:St) (h1:∀ s ∈ o.looksAt ops,T.F s=S.F s) (h2:∀ t ∈ R ++ IZ d res,T.M t=S.M t):Step cx T o ((CG d S res).app T):=by
 have hev:=RJ h1
 have hf':T.ev f'=.dv (.fn f pre caps):=by
  rw [hev f' (by rw [ho];simp [Op.operands,Call.operands])];exact hf
 have ha:args.toList.map T.ev=args.toList.map S.ev:=List.map_congr_left fun x hx=>hev x (by rw [ho];simp [Op.operands,Call.operands];exact .inr (by simpa using hx))
 have hr:T.EU cx.n o.dst res=some ((CG d S res).app T):=by
  rw [hdst];exact Qd hdn fun t ht=>h2 t (List.mem_append_right _ ht)
 have hM:=uo (R:=R) (M:=S.M) (M':=T.M) fun t ht=>h2 t (List.mem_append_left _ ht)
 rcases hc with ⟨c1,c2⟩ | ⟨c1,c2⟩
 ·exact .lg f' args ts f pre caps ds res ho hf' (by rw [ha];exact c1.Sm hM) c2 hr
 ·exact .lq f' args ts f pre caps ds res ho hf' (by rw [ha];exact c1.Sm hM) c2 hr
end
section
variable {cx:Cx} {ops:Array Oper}
theorem jQ:∀ {m:List (Nat × Nat × Option Au)},tC m=true -> YP (AA m)
 | [],_,t,g,b,e=>by simp [AA] at e
 | (k,v) :: m,h,t,g,b,e=>by
  simp only [tC,List.all_cons,Bool.and_eq_true] at h
  simp only [AA] at e
  split at e
  ·have h1:=h.1
   rw [e] at h1
   simpa using h1
  ·exact jQ (m:=m) (by simpa [tC] using h.2) t g b e
theorem PO (hg:cx.Good) (hm:cx.P.follows .mixedOrders=true) {id:Nat} {K:Exit -> St -> Prop} {F:Nat -> SV} {m:List (Nat × Nat × Option Au)} (hb:U8 .any ops.toList 0=true)
  (h:Ba cx ops ops.toList [] ⟨F,AA m⟩ fun its S'=>kZ .any ops m its (Zg .any ops.toList [])=true /\ K .normal S'):EF cx (.region id ops true) K ⟨F,AA m⟩:=by
 obtain ⟨its,h1,h2,h3⟩:=RU (S0:=⟨F,AA m⟩) ops.toList [] [] ⟨F,AA m⟩ _ (by simp) rfl rfl (fun i o it ho=>by simp at ho) h
 simp only [kZ,Bool.or_eq_true,Bool.and_eq_true] at h2
 rcases h2 with h2 | ⟨h2,h4,h5⟩
 ·exact YA hg hm h1 (ay hb h2) h3
 ·have h0:=jQ h2
  refine YA hg hm (h1.Q9 h0 h4) (ay hb h5) ?_
  rw [(Ma h0 h4 _).1]
  exact h3
end
end Go.Ab
set_option linter.unusedVariables false
namespace Go.Ab
open Go.RowKit
def isLive (M:Nat -> Nat × Option Au) (t g:Nat):Prop:=(M t).1=g /\ (M t).2.isSome=true
mutual
def AX (τ:Nat -> Option Nat) (M M':Nat -> Nat × Option Au):SV -> SV -> Prop
 | .dead,_=>True
 | .dv d,.dv d'=>d=d'
 | .dv d,.Bh=>Data (fun st=>st=1) (fun _=>True) M .Bh d
 | .dv d,.sl t g o n=>Data (fun st=>st=1) (fun _=>True) M (.sl t g o n) d
 | .dv d,.pt t g o=>Data (fun st=>st=1) (fun _=>True) M (.pt t g o) d
 | .dv d,.agg cs=>Data (fun st=>st=1) (fun _=>True) M (.agg cs) d
 | .dv d,.emp b=>Data (fun st=>st=1) (fun _=>True) M (.emp b) d
 | .Bh,.Bh=>True
 | .emp b',.emp b=>b'=b
 | .sl t' g' o' n',.sl t g o n=>τ t'=some t /\ isLive M t g /\ isLive M' t' g' /\ o'=o /\ n'=n
 | .sl t' g' o' n',.Bh=>τ t'=none /\ isLive M' t' g' /\ o'=0 /\ n'=0
 | .pt t' g' o',.pt t g o=>τ t'=some t /\ isLive M t g /\ isLive M' t' g' /\ o'=o
 | .agg cs',.agg cs=>Aa τ M M' cs' cs
 | .agg cs',.dv (.agg ds)=>cs'=ds.map .dv
 | .Em cs',.Em cs=>Aa τ M M' cs' cs
 | _,_=>False
def Aa (τ:Nat -> Option Nat) (M M':Nat -> Nat × Option Au):List SV -> List SV -> Prop
 | [],[]=>True
 | c :: cs,d :: ds=>AX τ M M' c d /\ Aa τ M M' cs ds
 | _,_=>False
end
def Ar (τ:Nat -> Option Nat) (M M':Nat -> Nat × Option Au) (t':Nat) (b':Au):Prop :=
 match τ t' with
 | none=>(b'.cells=[] /\ b'.row=true) /\ b'.st < 3
 | some t=>∃ b,(M t).2=some b /\ b'.C8=b.C8 /\ b'.elem=b.elem /\ b'.st=b.st /\ b'.row=b.row /\ Aa τ M M' b'.cells b.cells
def DK (τ:Nat -> Option Nat) (S:St) (M':Nat -> Nat × Option Au):List (Nat × SV) -> Prop
 | []=>True
 | (k,v) :: l=>AX τ S.M M' v (S.F k) /\ DK τ S M' l
def Cm (τ:Nat -> Option Nat) (S:St) (M':Nat -> Nat × Option Au):List (Nat × Nat × Option Au) -> Prop
 | []=>True
 | (k,_,some b) :: l=>Ar τ S.M M' k b /\ Cm τ S M' l
 | (_,_,none) :: l=>Cm τ S M' l
section
variable {cx:Cx} {S S':St} {a:Act} {w:World} {μ:Nat -> Option (Nat × Nat)}
theorem Fx {τ:Nat -> Option Nat} {M M':Nat -> Nat × Option Au}:∀ {cs ds:List SV},Aa τ M M' cs ds -> cs.length=ds.length
 | [],[],_=>rfl
 | _ :: cs,_ :: ds,h=>by simp only [Aa] at h;simp [Fx h.2]
 | [],_ :: _,h=>by simp only [Aa] at h
 | _ :: _,[],h=>by simp only [Aa] at h
def BU (τ:Nat -> Option Nat) (μ:Nat -> Option (Nat × Nat)):Nat -> Option (Nat × Nat):=fun t=>match τ t with | some t=>μ t | none=>none
mutual
theorem Vz (hg:cx.Good) (h:BJ cx S a w μ) {τ:Nat -> Option Nat} {M':Nat -> Nat × Option Au} (hM:∀ t' g' b' t,M' t'=(g',some b') -> τ t'=some t -> ∃ b,(S.M t).2=some b /\ b'.C8=b.C8)
  {X':Nat -> Prop} (hX:∀ b,X' b -> XX cx S.M μ b):∀ (s' s:SV) (v:Value),AX τ S.M M' s' s -> AJ w S.M μ (XX cx S.M μ) s v -> AJ w M' (BU τ μ) X' s' v
 | .dead,_,_,_,_=>trivial
 | .dv d,.dv d',v,e,hv=>by simp only [AX] at e;subst e;simp only [AJ] at hv ⊢;exact hv.weaken hX
 | .dv d,.Bh,v,e,hv=>by simp only [AX] at e;simp only [AJ];exact (Df.rep hg h e hv).weaken hX
 | .dv d,.sl t g o n,v,e,hv=>by simp only [AX] at e;simp only [AJ];exact (Df.rep hg h e hv).weaken hX
 | .dv d,.pt t g o,v,e,hv=>by simp only [AX] at e;simp only [AJ];exact (Df.rep hg h e hv).weaken hX
 | .dv d,.agg cs,v,e,hv=>by simp only [AX] at e;simp only [AJ];exact (Df.rep hg h e hv).weaken hX
 | .dv d,.emp b,v,e,hv=>by simp only [AX] at e;simp only [AJ];exact (Df.rep hg h e hv).weaken hX
 | .Bh,.Bh,v,_,hv=>by simpa only [AJ] using hv
 | .emp b',.emp b,v,e,hv=>by simp only [AX] at e;subst e;simpa only [AJ] using hv
 | .sl t' g' o' n',.sl t g o n,v,e,hv=>by
  simp only [AX] at e
  obtain ⟨e1,⟨e2,e3⟩,⟨e4,e5⟩,rfl,rfl⟩:=e
  simp only [AJ] at hv ⊢
  refine ⟨⟨hv.1.1,by omega⟩,fun b' hb'=>?_⟩
  obtain ⟨b,hb⟩:=Option.isSome_iff_exists.1 e3
  have hMt:S.M t=(g,some b):=by rw [<- e2,<- hb]
  have:=hv.2 b hMt
  obtain ⟨b2,q1,q2⟩:=hM t' g' b' t hb' e1
  have:b2=b:=by rw [hb] at q1;exact (Option.some.inj q1).symm
  subst this
  have hrel:BU τ μ t'=μ t:=by simp [BU,e1]
  rw [hrel,q2]
  assumption
 | .sl t' g' o' n',.Bh,v,e,hv=>by
  simp only [AX] at e
  obtain ⟨e1,⟨e4,e5⟩,rfl,rfl⟩:=e
  simp only [AJ] at hv ⊢
  subst hv
  refine ⟨⟨rfl,by omega⟩,fun b' hb'=>?_⟩
  have hrel:BU τ μ t'=none:=by simp [BU,e1]
  rw [hrel]
  exact ⟨rfl,trivial,trivial⟩
 | .pt t' g' o',.pt t g o,v,e,hv=>by
  simp only [AX] at e
  obtain ⟨e1,⟨e2,e3⟩,⟨e4,e5⟩,rfl⟩:=e
  simp only [AJ] at hv ⊢
  refine ⟨⟨hv.1.1,by omega⟩,fun b' hb'=>?_⟩
  obtain ⟨b,hb⟩:=Option.isSome_iff_exists.1 e3
  have hMt:S.M t=(g,some b):=by rw [<- e2,<- hb]
  have hrel:BU τ μ t'=μ t:=by simp [BU,e1]
  rw [hrel]
  exact hv.2 b hMt
 | .agg cs',.agg cs,v,e,hv=>by
  simp only [AX] at e
  simp only [AJ] at hv ⊢
  obtain ⟨vs,rfl,hv⟩:=hv
  exact ⟨vs,rfl,Fw hg h hM hX cs' cs vs e hv⟩
 | .agg cs',.dv (.agg ds),v,e,hv=>by
  simp only [AX] at e
  subst e
  simp only [AJ] at hv ⊢
  cases hv with
  | agg _ vs hsz hc =>
   refine ⟨vs.toList,by simp,Ac.mk (by simpa using hsz) fun j c u hj hu=>?_⟩
   simp only [List.getElem?_map,Option.map_eq_some_iff] at hj
   obtain ⟨d,hd,rfl⟩:=hj
   simp only [AJ]
   have:=hc j d hd
   have e:vs.getD j undef=u:=by
    simp only [Array.getElem?_toList] at hu
    simp [hu]
   rw [e] at this
   exact this.weaken hX
 | .Em cs',.Em cs,v,e,hv=>by
  simp only [AX] at e
  simp only [AJ] at hv ⊢
  obtain ⟨vs,rfl,hv⟩:=hv
  exact ⟨vs,rfl,Fw hg h hM hX cs' cs vs e hv⟩
 | .dv _,.dead,_,e,_ | .dv _,.Em _,_,e,_ | .Bh,.emp _,_,e,_ | .emp _,.dead,_,e,_ | .emp _,.dv _,_,e,_ | .emp _,.Bh,_,e,_ | .emp _,.sl ..,_,e,_ | .emp _,.pt ..,_,e,_ | .emp _,.agg _,_,e,_ | .emp _,.Em _,_,e,_ | .sl ..,.emp _,_,e,_ | .pt ..,.emp _,_,e,_ | .agg _,.emp _,_,e,_ | .Em _,.emp _,_,e,_ | .Bh,.dead,_,e,_ | .Bh,.dv _,_,e,_ | .Bh,.sl ..,_,e,_ | .Bh,.pt ..,_,e,_ | .Bh,.agg _,_,e,_ | .Bh,.Em _,_,e,_
 | .sl ..,.dead,_,e,_ | .sl ..,.dv _,_,e,_ | .sl ..,.pt ..,_,e,_ | .sl ..,.agg _,_,e,_ | .sl ..,.Em _,_,e,_
 | .pt ..,.dead,_,e,_ | .pt ..,.dv _,_,e,_ | .pt ..,.Bh,_,e,_ | .pt ..,.sl ..,_,e,_ | .pt ..,.agg _,_,e,_ | .pt ..,.Em _,_,e,_
 | .agg _,.dead,_,e,_ | .agg _,.Bh,_,e,_ | .agg _,.sl ..,_,e,_ | .agg _,.pt ..,_,e,_ | .agg _,.Em _,_,e,_
 | .Em _,.dead,_,e,_ | .Em _,.dv _,_,e,_ | .Em _,.Bh,_,e,_ | .Em _,.sl ..,_,e,_ | .Em _,.pt ..,_,e,_ | .Em _,.agg _,_,e,_=>by simp only [AX] at e
 | .agg _,.dv (.bool _),_,e,_ | .agg _,.dv (.int _ _),_,e,_ | .agg _,.dv (.str _),_,e,_ | .agg _,.dv (.list _),_,e,_ | .agg _,.dv (.Cy _),_,e,_ | .agg _,.dv .CU,_,e,_
 | .agg _,.dv (.fn ..),_,e,_ | .agg _,.dv .Hw,_,e,_ | .agg _,.dv (.iface ..),_,e,_ | .agg _,.dv .nilIface,_,e,_=>by simp only [AX] at e
theorem Fw (hg:cx.Good) (h:BJ cx S a w μ) {τ:Nat -> Option Nat} {M':Nat -> Nat × Option Au} (hM:∀ t' g' b' t,M' t'=(g',some b') -> τ t'=some t -> ∃ b,(S.M t).2=some b /\ b'.C8=b.C8)
  {X':Nat -> Prop} (hX:∀ b,X' b -> XX cx S.M μ b):∀ (cs' cs:List SV) (vs:List Value),Aa τ S.M M' cs' cs -> Ac w S.M μ (XX cx S.M μ) cs vs -> Ac w M' (BU τ μ) X' cs' vs
 | [],[],[],_,_=>trivial
 | c' :: cs',c :: cs,v :: vs,e,hv=>by
  simp only [Aa] at e
  simp only [Ac] at hv ⊢
  exact ⟨Vz hg h hM hX c' c v e.1 hv.1,Fw hg h hM hX cs' cs vs e.2 hv.2⟩
 | [],[],_ :: _,_,hv=>by simp only [Ac] at hv
 | [],_ :: _,_,e,_=>by simp only [Aa] at e
 | _ :: _,[],_,e,_=>by simp only [Aa] at e
 | _ :: _,_ :: _,[],_,hv=>by simp only [Ac] at hv
end
theorem Kv {τ:Nat -> Option Nat} {M M':Nat -> Nat × Option Au} (hM:∀ t' g' b',M' t'=(g',some b') -> Ar τ M M' t' b'):∀ t' g' b' t,M' t'=(g',some b') -> τ t'=some t -> ∃ b,(M t).2=some b /\ b'.C8=b.C8:=fun t' g' b' t e h=>by
 have hbl:=hM t' g' b' e
 unfold Ar at hbl
 rw [h] at hbl
 obtain ⟨b2,q1,q2,_⟩:=hbl
 exact ⟨b2,q1,q2⟩
theorem O6 (hg:cx.Good) (h:BJ cx S a w μ) {τ:Nat -> Option Nat} (hF:∀ i,AX τ S.M S'.M (S'.F i) (S.F i)) (hM:∀ t' g' b',S'.M t'=(g',some b') -> Ar τ S.M S'.M t' b')
  (hinj:∀ t1 t2 t,τ t1=some t -> τ t2=some t -> t1=t2):BJ cx S' a w (BU τ μ):=by
 have old:∀ t' g' b' b cap,S'.M t'=(g',some b') -> BU τ μ t'=some (b,cap) -> ∃ t g blk,τ t'=some t /\ S.M t=(g,some blk) /\ μ t=some (b,cap) /\ b'.C8=blk.C8 /\ b'.elem=blk.elem /\ b'.st=blk.st /\ b'.row=blk.row /\ Aa τ S.M S'.M b'.cells blk.cells:=by
  intro t' g' b' b cap e hm
  have hb:=hM t' g' b' e
  unfold Ar at hb
  unfold BU at hm
  cases SX:τ t' with
  | none=>rw [SX] at hm;cases hm
  | some t =>
   rw [SX] at hm hb
   obtain ⟨blk,q1,q2⟩:=hb
   exact ⟨t,(S.M t).1,blk,rfl,by rw [<- q1],hm,q2⟩
 have hX:∀ b,XX cx S'.M (BU τ μ) b -> XX cx S.M μ b:=by
  rintro b (⟨t',g',b',cap,e1,e2,e3⟩ | hx)
  ·obtain ⟨t,g,blk,q1,q2,q3,q4,q5,q6,_⟩:=old t' g' b' b cap e1 e3
   exact .inl ⟨t,g,blk,cap,q2,by rw [<- q6];exact e2,q3⟩
  ·exact .inr hx
 refine ⟨fun t' g' b' e=>?_,fun i=>Vz hg h (Kv hM) hX _ _ _ (hF i) (h.slot i),fun t' g' b' b cap e hm=>?_,fun t1 g1 b1 t2 g2 b2 b c1 c2 hne e1 e2 hst m1 m2=>?_,fun t' g' b' e h3=>?Ei,h.below,h.size,h.defers⟩
 case Ei =>
  have hb:=hM t' g' b' e
  unfold Ar at hb
  cases SX:τ t' with
  | none=>rw [SX] at hb;have:=hb.2;omega
  | some t =>
   rw [SX] at hb
   obtain ⟨blk,q1,q2,q3,q4,q5,q6⟩:=hb
   have:=h.Ei t (S.M t).1 blk (by rw [<- q1]) (by omega)
   simp only [BU,SX,this,q4]
 ·have hb:=hM t' g' b' e
  unfold Bt
  cases hm:BU τ μ t' with
  | none =>
   unfold Ar at hb
   unfold BU at hm
   cases SX:τ t' with
   | none=>rw [SX] at hb;exact hb.1
   | some t =>
    rw [SX] at hb hm
    obtain ⟨blk,q1,q2,q3,q4,q5,q6⟩:=hb
    have:=h.blk t (S.M t).1 blk (by rw [<- q1])
    unfold Bt at this
    have hm:μ t=none:=hm
    rw [hm] at this
    have hl:=Fx q6
    rw [this.1] at hl
    exact ⟨List.eq_nil_of_length_eq_zero hl,by rw [q5];exact this.2⟩
  | some p =>
   obtain ⟨b,cap⟩:=p
   obtain ⟨t,g,blk,q1,q2,q3,q4,q5,q6,q7,q8⟩:=old t' g' b' b cap e hm
   have:=h.blk t g blk q2
   unfold Bt at this
   rw [q3] at this
   obtain ⟨cur,r1,r2,r3,r4,r5⟩:=this
   have hl:=Fx q8
   refine ⟨cur,by rw [q5];exact r1,by omega,?_,fun hr=>by rw [q4];exact r4 (by rw [<- q7];exact hr),fun hr=>by rw [hl];exact r5 (by rw [<- q7];exact hr)⟩
   have hall:Ac w S.M μ (XX cx S.M μ) blk.cells (cur.toList.take blk.cells.length):=Ac.mk (by simp;omega) fun j c u hj hu=>by
    rw [List.getElem?_take] at hu
    split at hu
    ·exact r3 j c u hj (by simpa using hu)
    ·cases hu
   have h2:=Fw hg h (Kv hM) hX _ _ _ q8 hall
   intro j c u hj hu
   refine h2.get j c u hj ?_
   rw [List.getElem?_take]
   have:=(List.getElem?_eq_some_iff.1 hj).1
   rw [if_pos (by omega)]
   simpa using hu
 ·obtain ⟨t,g,blk,q1,q2,q3,_⟩:=old t' g' b' b cap e hm
  exact h.place t g blk b cap q2 q3
 ·obtain ⟨t,g,blk,q1,q2,q3,q4,q5,q6,q7,q8⟩:=old t1 g1 b1 b c1 e1 m1
  obtain ⟨t',g',Aj,q1',q2',q3',q4',q5',q6',q7',q8'⟩:=old t2 g2 b2 b c2 e2 m2
  have hne':t ≠ t':=fun hh=>hne (hinj t1 t2 t q1 (hh ▸ q1'))
  have:=h.uniq t g blk t' g' Aj b c1 c2 hne' q2 q2' (by rw [<- q6];exact hst) q3 q3'
  rw [q6',Fx q8',Fx q8]
  exact this
def AZ:List (Nat × Nat) -> Nat -> Option Nat
 | [],_=>none
 | (k,v) :: l,i=>if i=k then some v else AZ l i
theorem K6:∀ {l:List (Nat × Nat)} {i v:Nat},AZ l i=some v -> (i,v) ∈ l
 | (k,u) :: l,i,v,h=>by
  simp only [AZ] at h
  split at h
  ·rename_i e;simp only [Option.some.injEq] at h;subst e;subst h;simp
  ·exact List.mem_cons_of_mem _ (K6 h)
theorem QL {l:List (Nat × Nat)} (h:(l.map (·.2)).Nodup):∀ t1 t2 t,AZ l t1=some t -> AZ l t2=some t -> t1=t2:=by
 intro t1 t2 t h1 h2
 have m1:=K6 h1
 have m2:=K6 h2
 clear h1 h2
 induction l with
 | nil=>cases m1
 | cons p l ih =>
  simp only [List.map_cons,List.nodup_cons] at h
  rcases List.mem_cons.1 m1 with e1 | e1<;>rcases List.mem_cons.1 m2 with e2 | e2
  ·rw [<- e1] at e2;simpa using e2.symm
  ·exact absurd (List.mem_map.2 ⟨_,e2,by rw [<- e1]⟩) h.1
  ·exact absurd (List.mem_map.2 ⟨_,e1,by rw [<- e2]⟩) h.1
  ·exact ih h.2 e1 e2
theorem Vj {τ:Nat -> Option Nat} {S:St} {M':Nat -> Nat × Option Au}:∀ {l:List (Nat × SV)},DK τ S M' l -> ∀ i,AX τ S.M M' (lk l i) (S.F i)
 | [],_,i=>by simp only [lk,AX]
 | (k,v) :: l,h,i=>by
  simp only [DK] at h
  simp only [lk]
  split
  ·rename_i e;subst e;exact h.1
  ·exact Vj h.2 i
theorem Py {τ:Nat -> Option Nat} {S:St} {M':Nat -> Nat × Option Au}:∀ {m:List (Nat × Nat × Option Au)},Cm τ S M' m -> ∀ t' g' b',AA m t'=(g',some b') -> Ar τ S.M M' t' b'
 | [],_,t',g',b',e=>by simp [AA] at e
 | (k,g,ob) :: m,h,t',g',b',e=>by
  simp only [AA] at e
  split at e
  ·rename_i hk
   subst hk
   simp only [Prod.mk.injEq] at e
   obtain ⟨rfl,rfl⟩:=e
   simp only [Cm] at h
   exact h.1
  ·cases ob with
   | none=>exact Py (by simpa only [Cm] using h) t' g' b' e
   | some b=>exact Py (by simp only [Cm] at h;exact h.2) t' g' b' e
theorem Le.tell (hg:cx.Good) (τ:List (Nat × Nat)) {l:List (Nat × SV)} {m:List (Nat × Nat × Option Au)} (hF:DK (AZ τ) S (AA m) l) (hM:Cm (AZ τ) S (AA m) m) (SX:(τ.map (·.2)).Nodup):Le cx S ⟨lk l,AA m⟩:=by
 rintro a w ⟨μ,h⟩
 exact ⟨_,O6 (S':=⟨lk l,AA m⟩) hg h (Vj hF) (Py hM) (QL SX)⟩
theorem EF.split {c:Code} {K:Exit -> St -> Prop} {l:List (Nat × SV)} {m:List (Nat × Nat × Option Au)} {t:Nat} (h0:lk l t=.dv (.list [])) (h:∀ b,EF cx c K ⟨lk ((t,.emp b) :: l),AA m⟩):EF cx c K ⟨lk l,AA m⟩:=by
 rintro a w ⟨μ,hs⟩
 have hv:=hs.slot t
 rw [show (⟨lk l,AA m⟩:St).F t=.dv (.list []) from h0] at hv
 simp only [AJ] at hv
 have he:∃ ad cap,a.tmps.getD t undef=.slice ad 0 cap:=by
  generalize a.tmps.getD t undef=v at hv
  cases hv with
  | Cq ad cap=>exact ⟨ad,cap,rfl⟩
  | list _ b off cap C8 u h1 h2 h3 h4 h5 h6=>exact ⟨_,cap,rfl⟩
 obtain ⟨ad,cap,he⟩:=he
 refine h ad.isNone a w ⟨μ,⟨hs.blk,fun i=>?_,hs.place,hs.uniq,hs.Ei,hs.below,hs.size,hs.defers⟩⟩
 show AJ w (AA m) μ _ (lk ((t,.emp ad.isNone) :: l) i) _
 simp only [lk]
 split
 ·rename_i e
  subst e
  rw [he]
  simp only [AJ]
  exact ⟨ad,cap,rfl,rfl⟩
 ·exact hs.slot i
theorem Le.freeze {t g:Nat} {b:Au} (h0:S.M t=(g,some b)) (hst:ED b.st \/ b.st=1):Le cx S ⟨S.F,upd S.M t (g,some { b with st:=1 })⟩:=by
 rintro a w ⟨μ,h⟩
 exact ⟨μ,Pk h [t] S.M _ h (by simp [Tk,h0,hst])⟩
end
end Go.Ab
set_option linter.unusedVariables false
namespace Go.Ab
open Go.RowKit
def G8 (ops:Array Oper) (S:St):Option (Nat × Bool) -> Prop
 | none=>True
 | some (j,want)=>∃ s,FH ops j=some s /\ S.F s=.dv (.bool want)
section
variable {cx:Cx} {P:Program} {N:Nat} {ops:Array Oper} {rest:List Oper} {l:List (Nat × SV)} {m m':List (Nat × Nat × Option Au)} {K:St -> Prop} {KD:List It -> St -> Prop} {its:List It}
 {d g k t gt j s:Nat} {op:Op} {ty:TypeId} {p:String} {af:Array Edge} {r:SV} {blk b:Au} {R:List Nat} {want c:Bool} {gd:Option (Nat × Bool)}
theorem Ko (hd:d < N) (S:St):Ct N S (some d) (.val r)=some ⟨some d,r,false,[]⟩:=by simp [Ct,hd]
theorem Jp:(⟨some d,r,false,[]⟩:Eff).app ⟨lk l,AA m⟩=⟨lk ((d,r) :: l),AA m⟩:=by simp [Eff.app,D6,EY]
theorem lF (hd:d < N) (hb:blk.row=false) (hg:(AA m d).1=g):Ct N ⟨lk l,AA m⟩ (some d) (.mk blk k)=some ⟨some d,.pt d (g+1) 0,false,[(d,g+1,some blk)]⟩:=by simp [Ct,hd,hb,hg]
theorem bR (hd:d < N) (hb:blk.row=true) (hg:(AA m d).1=g):Ct N ⟨lk l,AA m⟩ (some d) (.mk blk k)=some ⟨some d,.sl d (g+1) 0 k,false,[(d,g+1,some blk)]⟩:=by simp [Ct,hd,hb,hg]
theorem Ky {v:SV}:(⟨some d,v,false,[(t,g,some blk)]⟩:Eff).app ⟨lk l,AA m⟩=⟨lk ((d,v) :: l),AA ((t,g,some blk) :: m)⟩:=by simp [Eff.app,D6,EY,EM]
theorem Xm (hd:d < N) (hg:(AA m d).1=g):Ct N ⟨lk l,AA m⟩ (some d) (.app none blk k)=some ⟨some d,.sl d (g+1) 0 k,false,[(d,g+1,some blk)]⟩:=by simp [Ct,hd,hg]
theorem Xl (hd:d < N) (hg:(AA m d).1=g) (ht:AA m t=(gt,some b)) (hb:ED b.st):Ct N ⟨lk l,AA m⟩ (some d) (.app (some t) blk k)=some ⟨some d,.sl d (g+1) 0 k,false,[(t,gt,some { b with st:=2 }),(d,g+1,some blk)]⟩:=by simp [Ct,hd,hg,ht,hb]
theorem cZ {v:SV} {b1 b2:Au} {t1 g1 t2 g2:Nat}:(⟨some d,v,false,[(t1,g1,some b1),(t2,g2,some b2)]⟩:Eff).app ⟨lk l,AA m⟩=⟨lk ((d,v) :: l),AA ((t2,g2,some b2) :: (t1,g1,some b1) :: m)⟩:=by simp [Eff.app,D6,EY,EM]
theorem bS (ht:AA m t=(gt,some b)) (hb:ED b.st):Ct N ⟨lk l,AA m⟩ none (.put t blk)=some ⟨none,.dead,true,[(t,gt,some blk)]⟩:=by simp [Ct,ht,hb]
theorem cu (hv:OA m=m'):(⟨none,.dead,true,[(t,gt,some blk)]⟩:Eff).app ⟨lk l,AA m⟩=⟨lk l,AA ((t,gt,some blk) :: m')⟩:=by simp [Eff.app,D6,EM,Er,hv]
theorem Fe {S S':St} {o:Oper} (hgd:G8 ops S o.guard) (h:Step cx S o S'):GStep cx ops S o S':=by
 unfold GStep
 unfold G8 at hgd
 split
 ·exact h
 ·rename_i j want e
  rw [e] at hgd
  obtain ⟨s,h1,h2⟩:=hgd
  exact ⟨s,h1,.inl ⟨h2,h⟩⟩
theorem HV {S S':St} {o:Oper} {out:Out} {e:Eff} (hP:cx.P=P) (hn:cx.n=N) (hgd:G8 ops S o.guard) (h:AP P S o.op=some out) (he:Ct N S o.dst out=some e) (hS:e.app S=S') (k:Chain cx ops rest S' K):Chain cx ops (o :: rest) S K:=by
 subst hP;subst hn;subst hS
 exact ⟨_,Fe hgd (.out out h (HY he)),k⟩
theorem Dn (hP:cx.P=P) (hn:cx.n=N) (hd:d < N) (hgd:G8 ops ⟨lk l,AA m⟩ gd) (h:AP P ⟨lk l,AA m⟩ op=some (.val r)) (k:Chain cx ops rest ⟨lk ((d,r) :: l),AA m⟩ K):Chain cx ops (⟨some d,op,ty,p,af,gd⟩ :: rest) ⟨lk l,AA m⟩ K :=
 HV hP hn hgd h (Ko hd _) Jp k
theorem c_pt (hP:cx.P=P) (hn:cx.n=N) (hd:d < N) (hgd:G8 ops ⟨lk l,AA m⟩ gd) (h:AP P ⟨lk l,AA m⟩ op=some (.mk blk k)) (hb:blk.row=false) (hg:(AA m d).1=g) (kk:Chain cx ops rest ⟨lk ((d,.pt d (g+1) 0) :: l),AA ((d,g+1,some blk) :: m)⟩ K) :
  Chain cx ops (⟨some d,op,ty,p,af,gd⟩ :: rest) ⟨lk l,AA m⟩ K:=HV hP hn hgd h (lF hd hb hg) Ky kk
theorem Xx (hP:cx.P=P) (hn:cx.n=N) (hd:d < N) (hgd:G8 ops ⟨lk l,AA m⟩ gd) (h:AP P ⟨lk l,AA m⟩ op=some (.mk blk k)) (hb:blk.row=true) (hg:(AA m d).1=g) (kk:Chain cx ops rest ⟨lk ((d,.sl d (g+1) 0 k) :: l),AA ((d,g+1,some blk) :: m)⟩ K) :
  Chain cx ops (⟨some d,op,ty,p,af,gd⟩ :: rest) ⟨lk l,AA m⟩ K:=HV hP hn hgd h (bR hd hb hg) Ky kk
theorem Rc (hP:cx.P=P) (hn:cx.n=N) (hd:d < N) (hgd:G8 ops ⟨lk l,AA m⟩ gd) (h:AP P ⟨lk l,AA m⟩ op=some (.app none blk k)) (hg:(AA m d).1=g) (kk:Chain cx ops rest ⟨lk ((d,.sl d (g+1) 0 k) :: l),AA ((d,g+1,some blk) :: m)⟩ K) :
  Chain cx ops (⟨some d,op,ty,p,af,gd⟩ :: rest) ⟨lk l,AA m⟩ K:=HV hP hn hgd h (Xm hd hg) Ky kk
theorem bX (hP:cx.P=P) (hn:cx.n=N) (hd:d < N) (hgd:G8 ops ⟨lk l,AA m⟩ gd) (h:AP P ⟨lk l,AA m⟩ op=some (.app (some t) blk k)) (hg:(AA m d).1=g) (ht:AA m t=(gt,some b)) (hb:ED b.st)
  (kk:Chain cx ops rest ⟨lk ((d,.sl d (g+1) 0 k) :: l),AA ((d,g+1,some blk) :: (t,gt,some { b with st:=2 }) :: m)⟩ K) :
  Chain cx ops (⟨some d,op,ty,p,af,gd⟩ :: rest) ⟨lk l,AA m⟩ K:=HV hP hn hgd h (Xl hd hg ht hb) cZ kk
theorem VT (hP:cx.P=P) (hn:cx.n=N) (hd:d < N) (hgd:G8 ops ⟨lk l,AA m⟩ gd) (h:AP P ⟨lk l,AA m⟩ op=some (.app (some t) blk k)) (hg:(AA m d).1=g) (ht:AA m t=(gt,some b)) (hb:b.st=0)
  (kk:Chain cx ops rest ⟨lk ((d,.sl d (g+1) 0 k) :: l),AA ((d,g+1,some blk) :: (t,gt,some { b with st:=2 }) :: m)⟩ K) :
  Chain cx ops (⟨some d,op,ty,p,af,gd⟩ :: rest) ⟨lk l,AA m⟩ K:=bX hP hn hd hgd h hg ht (.inl hb) kk
theorem xR (hP:cx.P=P) (hn:cx.n=N) (hgd:G8 ops ⟨lk l,AA m⟩ gd) (h:AP P ⟨lk l,AA m⟩ op=some (.put t blk)) (ht:AA m t=(gt,some b)) (hb:ED b.st) (hv:OA m=m')
  (kk:Chain cx ops rest ⟨lk l,AA ((t,gt,some blk) :: m')⟩ K):Chain cx ops (⟨none,op,ty,p,af,gd⟩ :: rest) ⟨lk l,AA m⟩ K:=HV hP hn hgd h (bS ht hb) (cu hv) kk
theorem c_split (hP:cx.P=P) (hn:cx.n=N) (hd:d < N) (hgd:G8 ops ⟨lk l,AA m⟩ gd) (h:AP P ⟨lk l,AA m⟩ op=some (.val (.dv (.bool c)))) (k1:c=true -> Chain cx ops rest ⟨lk ((d,.dv (.bool true)) :: l),AA m⟩ K) (k2:c=false -> Chain cx ops rest ⟨lk ((d,.dv (.bool false)) :: l),AA m⟩ K) :
  Chain cx ops (⟨some d,op,ty,p,af,gd⟩ :: rest) ⟨lk l,AA m⟩ K :=
 Dn hP hn hd hgd h (by cases c with | true=>exact k1 rfl | false=>exact k2 rfl)
theorem rU (hj:FH ops j=some s) (hb:Rw want (lk l s)) (k:Chain cx ops rest ⟨lk ((d,.Em []) :: l),AA m⟩ K):Chain cx ops (⟨some d,op,ty,p,af,some (j,want)⟩ :: rest) ⟨lk l,AA m⟩ K:=by
 refine ⟨_,?_,k⟩
 unfold GStep
 refine ⟨s,hj,.inr ⟨hb,?_⟩⟩
 simp only [St.skip,EY]
def fH (m:List (Nat × Nat × Option Au)):List Nat -> Option (List (Nat × Nat × Option Au))
 | []=>some m
 | t :: ts=>match AA m t with
  | (g,some b)=>if ED b.st \/ b.st=1 then fH ((t,g,some { b with st:=1 }) :: m) ts else none
  | _=>none
theorem au:∀ {ts:List Nat} {m m':List (Nat × Nat × Option Au)},fH m ts=some m' -> Tk (AA m) ts=some (AA m')
 | [],m,m',h=>by simp only [fH,Option.some.injEq] at h;subst h;rfl
 | t :: ts,m,m',h=>by
  simp only [fH] at h
  simp only [Tk]
  split at h
  ·rename_i g b e
   split at h
   ·rename_i hb
    simp only [e,hb,if_true,EM]
    exact au h
   ·cases h
  ·cases h
theorem c_fn {f:FuncId} {pre caps:Array Operand} {ps cs:List DV} {ts us:List Nat} (hP:cx.P=P) (hn:cx.n=N) (hd:d < N) (hgd:G8 ops ⟨lk l,AA m⟩ gd) (h1:G6 (pre.toList.map (St.look ⟨lk l,AA m⟩))=some (ps,ts)) (h2:G6 (caps.toList.map (St.look ⟨lk l,AA m⟩))=some (cs,us))
  (h3:fH m (ts ++ us)=some m') (k:Chain cx ops rest ⟨lk ((d,.dv (.fn f ps cs)) :: l),AA m'⟩ K):Chain cx ops (⟨some d,.makeFunc (.func f) pre caps,ty,p,af,gd⟩ :: rest) ⟨lk l,AA m⟩ K:=by
 subst hn
 refine ⟨_,Fe hgd (.fn f pre caps rfl ?_),k⟩
 simp only [St.Pv,h1,h2,au h3,hd,if_true,EY]
theorem MC (hP:cx.P=P) (hn:cx.n=N) (hd:d < N) {f':Operand} {args:Array Operand} {ts:Array TypeId} {f:FuncId} {pre ds caps:List DV} {S S':St} (hgd:G8 ops S gd) (hf:S.ev f'=.dv (.fn f pre caps)) {res:Px}
  (hc:(Ca (Fu S.M) (args.toList.map S.ev) ds /\ AR P f (pre ++ ds ++ caps) res) \/ (Ca (Df S.M) (args.toList.map S.ev) ds /\ FN P f (pre ++ ds ++ caps) res)) (hS:(CG d S res).app S=S') (k:Chain cx ops rest S' K) :
  Chain cx ops (⟨some d,.call { callee:=.value f',args:=args,argTypes:=ts },ty,p,af,gd⟩ :: rest) S K:=by
 subst hP;subst hn;subst hS
 refine ⟨_,Fe hgd ?_,k⟩
 have hr:S.EU cx.n (some d) res=some ((CG d S res).app S):=Qd hd fun _ _=>rfl
 rcases hc with ⟨h1,h2⟩ | ⟨h1,h2⟩
 ·exact .lg f' args ts f pre caps ds res rfl hf h1 h2 hr
 ·exact .lq f' args ts f pre caps ds res rfl hf h1 h2 hr
theorem Tv {S S':St} {o:Oper} {out:Out} {e:Eff} (hP:cx.P=P) (hn:cx.n=N) (hgd:G8 ops S o.guard) (h:AP P S o.op=some out) (he:Ct N S o.dst out=some e) (hR:DR S o.op ++ D7 o.dst out=R) (hS:e.app S=S') (k:Ba cx ops rest (⟨R,e⟩ :: its) S' KD):Ba cx ops (o :: rest) its S KD:=by
 subst hP;subst hn;subst hS;subst hR
 obtain ⟨e1,e2,e3⟩:=qh he
 refine ⟨⟨_,e⟩,⟨e1,fun p hp=>List.mem_append_right _ (e2 p hp),fun hk=>by simpa using fun _=>e3 hk⟩,?_,k⟩
 cases hgu:o.guard with
 | none=>exact ZH hgu h he
 | some q =>
  obtain ⟨j,want⟩:=q
  rw [hgu] at hgd
  obtain ⟨s,h1,h2⟩:=hgd
  exact V9 hgu h1 h2 h he
theorem xL {S S':St} {o:Oper} (hgd:o.guard=some (j,want)) (hj:FH ops j=some s) (hb:Rw want (S.F s)) (hS:(⟨o.dst,.Em [],false,[]⟩:Eff).app S=S') (k:Ba cx ops rest (⟨[],⟨o.dst,.Em [],false,[]⟩⟩ :: its) S' KD):Ba cx ops (o :: rest) its S KD:=by
 subst hS
 exact ⟨⟨[],_⟩,⟨rfl,fun p hp=>by simp at hp,fun hk=>by simp at hk⟩,Xd hgd hj hb,k⟩
theorem lU {S S':St} (hP:cx.P=P) (hn:cx.n=N) (hd:d < N) (hgd:G8 ops S gd) {f':Operand} {args:Array Operand} {ts:Array TypeId} {f:FuncId} {pre ds caps:List DV} (hf:S.ev f'=.dv (.fn f pre caps)) {res:Px}
  (hc:(Ca (Fu (Oe R S.M)) (args.toList.map S.ev) ds /\ AR P f (pre ++ ds ++ caps) res) \/ (Ca (Df (Oe R S.M)) (args.toList.map S.ev) ds /\ FN P f (pre ++ ds ++ caps) res)) (hS:(CG d S res).app S=S')
  (k:Ba cx ops rest (⟨R ++ IZ d res,CG d S res⟩ :: its) S' KD):Ba cx ops (⟨some d,.call { callee:=.value f',args:=args,argTypes:=ts },ty,p,af,gd⟩ :: rest) its S KD:=by
 subst hP;subst hn;subst hS
 refine ⟨⟨_,_⟩,⟨rfl,fun p hp=>List.mem_append_right _ ?_,fun hk=>by simp [CG] at hk⟩,?_,k⟩
 ·cases res with
  | one r=>exact Jh d [r] 0 _ p hp
  | many rs=>exact Jh d rs 0 _ p hp
 ·intro T h1 h2
  have hst:=Yd (cx:=cx) (ops:=ops) (o:=⟨some d,.call { callee:=.value f',args:=args,argTypes:=ts },ty,p,af,gd⟩) rfl hd rfl hf hc T h1 h2
  unfold GStep
  cases gd with
  | none=>exact hst
  | some q =>
   obtain ⟨j,want⟩:=q
   obtain ⟨s,h3,h4⟩:=hgd
   refine ⟨s,h3,.inl ⟨?_,hst⟩⟩
   rw [h1 s (Ih rfl h3)]
   exact h4
theorem uF (hP:cx.P=P) (hn:cx.n=N) (hd:d < N) (hgd:G8 ops ⟨lk l,AA m⟩ gd) (h:AP P ⟨lk l,AA m⟩ op=some (.val r)) (hR:DR ⟨lk l,AA m⟩ op=R) (k:Ba cx ops rest (⟨R ++ [],⟨some d,r,false,[]⟩⟩ :: its) ⟨lk ((d,r) :: l),AA m⟩ KD):Ba cx ops (⟨some d,op,ty,p,af,gd⟩ :: rest) its ⟨lk l,AA m⟩ KD :=
 Tv hP hn hgd h (Ko hd _) (by simp only [hR,D7]) Jp k
theorem d_pt (hP:cx.P=P) (hn:cx.n=N) (hd:d < N) (hgd:G8 ops ⟨lk l,AA m⟩ gd) (h:AP P ⟨lk l,AA m⟩ op=some (.mk blk k)) (hb:blk.row=false) (hg:(AA m d).1=g) (hR:DR ⟨lk l,AA m⟩ op=R) (kk:Ba cx ops rest (⟨R ++ [d],⟨some d,.pt d (g+1) 0,false,[(d,g+1,some blk)]⟩⟩ :: its) ⟨lk ((d,.pt d (g+1) 0) :: l),AA ((d,g+1,some blk) :: m)⟩ KD) :
  Ba cx ops (⟨some d,op,ty,p,af,gd⟩ :: rest) its ⟨lk l,AA m⟩ KD:=Tv hP hn hgd h (lF hd hb hg) (by simp only [hR,D7,Option.toList]) Ky kk
theorem A18 (hP:cx.P=P) (hn:cx.n=N) (hd:d < N) (hgd:G8 ops ⟨lk l,AA m⟩ gd) (h:AP P ⟨lk l,AA m⟩ op=some (.mk blk k)) (hb:blk.row=true) (hg:(AA m d).1=g) (hR:DR ⟨lk l,AA m⟩ op=R) (kk:Ba cx ops rest (⟨R ++ [d],⟨some d,.sl d (g+1) 0 k,false,[(d,g+1,some blk)]⟩⟩ :: its) ⟨lk ((d,.sl d (g+1) 0 k) :: l),AA ((d,g+1,some blk) :: m)⟩ KD) :
  Ba cx ops (⟨some d,op,ty,p,af,gd⟩ :: rest) its ⟨lk l,AA m⟩ KD:=Tv hP hn hgd h (bR hd hb hg) (by simp only [hR,D7,Option.toList]) Ky kk
theorem xO (hP:cx.P=P) (hn:cx.n=N) (hd:d < N) (hgd:G8 ops ⟨lk l,AA m⟩ gd) (h:AP P ⟨lk l,AA m⟩ op=some (.app none blk k)) (hg:(AA m d).1=g) (hR:DR ⟨lk l,AA m⟩ op=R) (kk:Ba cx ops rest (⟨R ++ [d],⟨some d,.sl d (g+1) 0 k,false,[(d,g+1,some blk)]⟩⟩ :: its) ⟨lk ((d,.sl d (g+1) 0 k) :: l),AA ((d,g+1,some blk) :: m)⟩ KD) :
  Ba cx ops (⟨some d,op,ty,p,af,gd⟩ :: rest) its ⟨lk l,AA m⟩ KD:=Tv hP hn hgd h (Xm hd hg) (by simp only [hR,D7,Option.toList,List.append_nil]) Ky kk
theorem rH (hP:cx.P=P) (hn:cx.n=N) (hd:d < N) (hgd:G8 ops ⟨lk l,AA m⟩ gd) (h:AP P ⟨lk l,AA m⟩ op=some (.app (some t) blk k)) (hg:(AA m d).1=g) (ht:AA m t=(gt,some b)) (hb:ED b.st) (hR:DR ⟨lk l,AA m⟩ op=R)
  (kk:Ba cx ops rest (⟨R ++ [d,t],⟨some d,.sl d (g+1) 0 k,false,[(t,gt,some { b with st:=2 }),(d,g+1,some blk)]⟩⟩ :: its) ⟨lk ((d,.sl d (g+1) 0 k) :: l),AA ((d,g+1,some blk) :: (t,gt,some { b with st:=2 }) :: m)⟩ KD) :
  Ba cx ops (⟨some d,op,ty,p,af,gd⟩ :: rest) its ⟨lk l,AA m⟩ KD:=Tv hP hn hgd h (Xl hd hg ht hb) (by simp only [hR,D7,Option.toList,List.cons_append,List.nil_append]) cZ kk
theorem xM (hP:cx.P=P) (hn:cx.n=N) (hgd:G8 ops ⟨lk l,AA m⟩ gd) (h:AP P ⟨lk l,AA m⟩ op=some (.put t blk)) (ht:AA m t=(gt,some b)) (hb:ED b.st) (hv:OA m=m') (hR:DR ⟨lk l,AA m⟩ op=R)
  (kk:Ba cx ops rest (⟨R ++ [t],⟨none,.dead,true,[(t,gt,some blk)]⟩⟩ :: its) ⟨lk l,AA ((t,gt,some blk) :: m')⟩ KD):Ba cx ops (⟨none,op,ty,p,af,gd⟩ :: rest) its ⟨lk l,AA m⟩ KD:=Tv hP hn hgd h (bS ht hb) (by simp only [hR,D7]) (cu hv) kk
theorem rD (hP:cx.P=P) (hn:cx.n=N) (hd:d < N) (hgd:G8 ops ⟨lk l,AA m⟩ gd) (h:AP P ⟨lk l,AA m⟩ op=some (.val (.dv (.bool c)))) (hR:DR ⟨lk l,AA m⟩ op=R)
  (k1:c=true -> Ba cx ops rest (⟨R ++ [],⟨some d,.dv (.bool true),false,[]⟩⟩ :: its) ⟨lk ((d,.dv (.bool true)) :: l),AA m⟩ KD) (k2:c=false -> Ba cx ops rest (⟨R ++ [],⟨some d,.dv (.bool false),false,[]⟩⟩ :: its) ⟨lk ((d,.dv (.bool false)) :: l),AA m⟩ KD) :
  Ba cx ops (⟨some d,op,ty,p,af,gd⟩ :: rest) its ⟨lk l,AA m⟩ KD :=
 uF hP hn hd hgd h hR (by cases c with | true=>exact k1 rfl | false=>exact k2 rfl)
theorem rE (hj:FH ops j=some s) (hb:Rw want (lk l s)) (k:Ba cx ops rest (⟨[],⟨some d,.Em [],false,[]⟩⟩ :: its) ⟨lk ((d,.Em []) :: l),AA m⟩ KD):Ba cx ops (⟨some d,op,ty,p,af,some (j,want)⟩ :: rest) its ⟨lk l,AA m⟩ KD :=
 xL rfl hj hb Jp k
theorem Db (hg:cx.Good) {id:Nat} {lo:List Oper} {K:Exit -> St -> Prop} {S:St} (h:Chain cx lo.toArray lo S fun S'=>K .normal S'):EF cx (.region id lo.toArray false) K S:=Ze hg h
end
end Go.Ab
