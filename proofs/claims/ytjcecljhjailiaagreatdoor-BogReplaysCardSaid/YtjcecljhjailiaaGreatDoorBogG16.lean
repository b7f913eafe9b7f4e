/- HeapL2, HeapL3, HeapD, HeapT. -/
import Derived.Test.YtjcecljhjailiaaGreatDoorBogG15
import Derived.Test.YtjcecljhjailiaaGreatDoorBogG12
namespace Go.Ab.Heap
structure Hp where
 links:List (List Int)
 ground:List Int
def Az (a:List Int) (i:Nat):Int:=a.getD i 0
def IX (h:Hp) (i:Nat):List Int:=h.links.getD i []
def IY (h:Hp) (i k:Nat):Int:=(IX h i).getD k 0
def LH (h:Hp) (i:Nat):Int:=h.ground.getD i 0
def Hp.sp (h:Hp):SP:=⟨h.ground.length,IY h,LH h⟩
def KI (x lo hi:Int):Bool:=decide (lo <= x) && decide (x <= hi)
def rowOk (h:Hp) (i:Nat):Bool:=(IX h i).length == h.ground.length
def FN (h:Hp) (i k:Nat):Bool:=KI (IY h i k) 0 2 && IY h i k == IY h k i
def IV (h:Hp) (i:Nat):Bool:=KI (LH h i) 0 2 && IY h i i == 0
def GX (h:Hp):Bool:=(decide (1 <= h.ground.length) && decide (h.ground.length <= 5) && h.links.length == h.ground.length) && (List.range h.ground.length).all (rowOk h) && (List.range h.ground.length).all fun i=>IV h i && (List.range h.ground.length).all (FN h i)
def Ns (d:List Bool) (i:Nat):Bool:=d.getD i false
def inn (h:Hp) (d:List Bool) (i:Nat):Nat -> List Bool
 | 0=>d
 | k+1=>(inn h d i k).set i (Ns (inn h d i k) i || decide (0 < LH h i) || Ns (inn h d i k) k && decide (0 < IY h i k))
def RX (h:Hp) (d:List Bool):Nat -> List Bool
 | 0=>d
 | i+1=>inn h (RX h d i) i h.ground.length
def Lc (h:Hp):Nat -> List Bool
 | 0=>List.replicate h.ground.length false
 | r+1=>RX h (Lc h r) h.ground.length
def FI (h:Hp) (d:List Bool) (i:Nat):Nat -> List Bool
 | 0=>d.set i (Ns d i || decide (0 < LH h i))
 | k+1=>(FI h d i k).set i (Ns (FI h d i k) i || Ns (FI h d i k) k && decide (0 < IY h i k))
def G5 (h:Hp) (d:List Bool):Nat -> List Bool
 | 0=>d
 | i+1=>FI h (G5 h d i) i h.ground.length
def Fe (h:Hp):Nat -> List Bool
 | 0=>List.replicate h.ground.length false
 | r+1=>G5 h (Fe h r) h.ground.length
def validate (h:Hp):Int:=if GX h then (if (Lc h h.ground.length).contains false then 9 else 0) else 1
def Ih (h:Hp):Int:=if GX h then (if (Fe h (h.ground.length+1)).contains false then 9 else 0) else 1
theorem Jd {h:Hp} {d:List Bool} {i:Nat}:∀ k,(inn h d i k).length=d.length
 | 0=>rfl
 | k+1=>by simp only [inn,List.length_set];exact Jd k
theorem KS {h:Hp} {d:List Bool}:∀ i,(RX h d i).length=d.length
 | 0=>rfl
 | i+1=>by simp only [RX];rw [Jd,KS i]
theorem KP {h:Hp}:∀ r,(Lc h r).length=h.ground.length
 | 0=>by simp [Lc]
 | r+1=>by simp only [Lc];rw [KS,KP r]
theorem IE {h:Hp} {d:List Bool} {i:Nat}:∀ k,(FI h d i k).length=d.length
 | 0=>by simp [FI]
 | k+1=>by simp only [FI,List.length_set];exact IE k
theorem Gn {h:Hp} {d:List Bool}:∀ i,(G5 h d i).length=d.length
 | 0=>rfl
 | i+1=>by simp only [G5];rw [IE,Gn i]
theorem I5 {h:Hp}:∀ r,(Fe h r).length=h.ground.length
 | 0=>by simp [Fe]
 | r+1=>by simp only [Fe];rw [Gn,I5 r]
theorem Mf {d:List Bool} {i j:Nat} {b:Bool} (hi:i < d.length):Ns (d.set i b) j=if j=i then b else Ns d j:=by
 unfold Ns
 rw [List.getD_eq_getElem?_getD,List.getElem?_set,List.getD_eq_getElem?_getD]
 by_cases e:i=j
 ·subst e;simp [hi]
 ·rw [if_neg e,if_neg (Ne.symm e)]
def rk (s:SP):Nat -> Nat -> Bool
 | 0,_=>false
 | r+1,i=>decide (0 < s.g i) || (List.range s.n).any fun k=>rk s r k && decide (0 < s.l i k)
theorem OH {s:SP} {r i:Nat}:rk s (r+1) i=true ↔ 0 < s.g i \/ ∃ k,k < s.n /\ rk s r k=true /\ 0 < s.l i k:=by
 simp [rk,List.any_eq_true]
theorem eX {s:SP}:∀ {r i:Nat},rk s r i=true -> rk s (r+1) i=true
 | 0,_,h=>by simp [rk] at h
 | r+1,i,h=>by
  rw [OH] at h ⊢
  rcases h with h | ⟨k,h1,h2,h3⟩
  ·exact .inl h
  ·exact .inr ⟨k,h1,eX h2,h3⟩
theorem A1X {s:SP} {r i:Nat} (h:rk s r i=true):∀ {q:Nat},r <= q -> rk s q i=true:=by
 intro q hq
 induction q with
 | zero =>
   have:r=0:=by omega
   subst this;exact h
 | succ q ih =>
  by_cases e:r=q+1
  ·subst e;exact h
  ·exact eX (ih (by omega))
theorem j6 {s:SP} {q:Nat} (h:∀ i,i < s.n -> rk s (q+1) i=true -> rk s q i=true):∀ i,s.Reach i -> rk s q i=true:=by
 intro i hi
 induction hi with
 | @ground i h1 h2=>exact h i h1 (OH.2 (.inl h2))
 | @link i k h1 h2 _ h4 ih=>exact h i h1 (OH.2 (.inr ⟨k,h2,ih,h4⟩))
theorem Yc {s:SP}:∀ r,(∃ q,q <= r /\ ∀ i,i < s.n -> rk s (q+1) i=true -> rk s q i=true) \/ r <= cnt (rk s r) s.n
 | 0=>.inr (Nat.zero_le _)
 | r+1=>by
  rcases Yc (s:=s) r with ⟨q,h1,h2⟩ | h
  ·exact .inl ⟨q,by omega,h2⟩
  ·by_cases hs:∀ i,i < s.n -> rk s (r+1) i=true -> rk s r i=true
   ·exact .inl ⟨r,by omega,hs⟩
   ·simp only [Classical.not_forall] at hs
    obtain ⟨i,hi,h1,h2⟩:=hs
    have:=cnt_lt (p:=rk s r) (q:=rk s (r+1)) (k:=i) (n:=s.n) (fun _ _=>eX) hi (by simpa using h2) h1
    exact .inr (by omega)
theorem Za {p:Nat -> Bool}:∀ {n:Nat},n <= cnt p n -> ∀ i,i < n -> p i=true
 | 0,_,_,hi=>by omega
 | n+1,h,i,hi=>by
  simp only [cnt] at h
  have h1:=dN p n
  split at h
  ·rename_i hp
   by_cases e:i=n
   ·subst e;exact hp
   ·exact Za (n:=n) (by omega) i (by omega)
  ·omega
theorem lq {s:SP} {i:Nat} (h:s.Reach i):i < s.n:=by cases h<;>assumption
theorem Yg {s:SP} {i:Nat} (h:s.Reach i):rk s s.n i=true:=by
 rcases Yc (s:=s) s.n with ⟨q,h1,h2⟩ | h1
 ·exact A1X (j6 h2 i h) h1
 ·exact Za h1 i (lq h)
def Sound (h:Hp) (d:List Bool):Prop:=∀ i,i < h.ground.length -> Ns d i=true -> h.sp.Reach i
theorem Pk {h:Hp} {d:List Bool} {i:Nat} {b:Bool} (hd:Sound h d) (hl:d.length=h.ground.length) (hi:i < h.ground.length) (hb:b=true -> h.sp.Reach i):Sound h (d.set i b):=fun j hj hjt=>by
 rw [Mf (by omega)] at hjt
 split at hjt
 ·rename_i e;subst e;exact hb hjt
 ·exact hd j hj hjt
theorem WB {h:Hp} {d:List Bool} {i:Nat} (hd:Sound h d) (hl:d.length=h.ground.length) (hi:i < h.ground.length):∀ k,k <= h.ground.length -> Sound h (inn h d i k)
 | 0,_=>hd
 | k+1,hk=>by
  have ih:=WB hd hl hi k (by omega)
  refine Pk ih (by rw [Jd,hl]) hi fun hb=>?_
  simp only [Bool.or_eq_true,Bool.and_eq_true,decide_eq_true_eq] at hb
  rcases hb with (h1 | h1) | ⟨h1,h2⟩
  ·exact ih i hi h1
  ·exact .ground hi h1
  ·exact .link hi (show k < h.sp.n from by show k < h.ground.length;omega) (ih k (by omega) h1) h2
theorem TP {h:Hp} {d:List Bool} {i:Nat} (hd:Sound h d) (hl:d.length=h.ground.length) (hi:i < h.ground.length):∀ k,k <= h.ground.length -> Sound h (FI h d i k)
 | 0,_=>Pk hd hl hi fun hb=>by
  simp only [Bool.or_eq_true,decide_eq_true_eq] at hb
  rcases hb with h1 | h1
  ·exact hd i hi h1
  ·exact .ground hi h1
 | k+1,hk=>by
  have ih:=TP hd hl hi k (by omega)
  refine Pk ih (by rw [IE,hl]) hi fun hb=>?_
  simp only [Bool.or_eq_true,Bool.and_eq_true,decide_eq_true_eq] at hb
  rcases hb with h1 | ⟨h1,h2⟩
  ·exact ih i hi h1
  ·exact .link hi (show k < h.sp.n from by show k < h.ground.length;omega) (ih k (by omega) h1) h2
theorem Vq {h:Hp} {d:List Bool} (hd:Sound h d) (hl:d.length=h.ground.length):∀ i,i <= h.ground.length -> Sound h (RX h d i)
 | 0,_=>hd
 | i+1,hi=>WB (Vq hd hl i (by omega)) (by rw [KS,hl]) (by omega) _ (Nat.le_refl _)
theorem Sk {h:Hp} {d:List Bool} (hd:Sound h d) (hl:d.length=h.ground.length):∀ i,i <= h.ground.length -> Sound h (G5 h d i)
 | 0,_=>hd
 | i+1,hi=>TP (Sk hd hl i (by omega)) (by rw [Gn,hl]) (by omega) _ (Nat.le_refl _)
theorem Sv {h:Hp}:Sound h (List.replicate h.ground.length false):=fun i _ ht=>by
 unfold Ns at ht
 rw [List.getD_eq_getElem?_getD,List.getElem?_replicate] at ht
 split at ht<;>simp at ht
theorem Vk {h:Hp}:∀ r,Sound h (Lc h r)
 | 0=>Sv
 | r+1=>Vq (Vk r) (KP r) _ (Nat.le_refl _)
theorem SS {h:Hp}:∀ r,Sound h (Fe h r)
 | 0=>Sv
 | r+1=>Sk (SS r) (I5 r) _ (Nat.le_refl _)
def Keeps (n:Nat) (d d':List Bool):Prop:=∀ i,i < n -> Ns d i=true -> Ns d' i=true
theorem K5 {n:Nat} {d:List Bool} {i:Nat} {b:Bool} (hl:d.length=n) (hi:i < n) (hb:Ns d i=true -> b=true):Keeps n d (d.set i b):=fun j _ h=>by
 rw [Mf (by omega)]
 split
 ·rename_i e;subst e;exact hb h
 ·exact h
theorem Keeps.trans {n:Nat} {a b c:List Bool} (h:Keeps n a b) (k:Keeps n b c):Keeps n a c:=fun i hi ha=>k i hi (h i hi ha)
theorem Keeps.refl {n:Nat} {a:List Bool}:Keeps n a a:=fun _ _ h=>h
theorem MR {h:Hp} {d:List Bool} {i:Nat} (hl:d.length=h.ground.length) (hi:i < h.ground.length):∀ k,Keeps h.ground.length d (inn h d i k)
 | 0=>.refl
 | k+1=>(MR hl hi k).trans (K5 (by rw [Jd,hl]) hi fun h=>by simp [h])
theorem KY {h:Hp} {d:List Bool} {i:Nat} (hl:d.length=h.ground.length) (hi:i < h.ground.length):∀ k,Keeps h.ground.length d (FI h d i k)
 | 0=>K5 hl hi fun h=>by simp [h]
 | k+1=>(KY hl hi k).trans (K5 (by rw [IE,hl]) hi fun h=>by simp [h])
theorem Vr {h:Hp} {d:List Bool} (hl:d.length=h.ground.length):∀ i,i <= h.ground.length -> Keeps h.ground.length d (RX h d i)
 | 0,_=>.refl
 | i+1,hi=>(Vr hl i (by omega)).trans (MR (by rw [KS,hl]) (by omega) _)
theorem Sl {h:Hp} {d:List Bool} (hl:d.length=h.ground.length):∀ i,i <= h.ground.length -> Keeps h.ground.length d (G5 h d i)
 | 0,_=>.refl
 | i+1,hi=>(Sl hl i (by omega)).trans (KY (by rw [Gn,hl]) (by omega) _)
theorem gI {h:Hp} {d:List Bool} {i:Nat} (hl:d.length=h.ground.length) (hi:i < h.ground.length) {k q:Nat} (hkq:k <= q):Keeps h.ground.length (inn h d i k) (inn h d i q):=by
 induction q with
 | zero =>
   have:k=0:=by omega
   subst this;exact .refl
 | succ q ih =>
  by_cases e:k=q+1
  ·subst e;exact .refl
  ·exact (ih (by omega)).trans (K5 (by rw [Jd,hl]) hi fun h=>by simp [h])
theorem ZC {h:Hp} {d:List Bool} {i:Nat} (hl:d.length=h.ground.length) (hi:i < h.ground.length) {k q:Nat} (hkq:k <= q):Keeps h.ground.length (FI h d i k) (FI h d i q):=by
 induction q with
 | zero =>
   have:k=0:=by omega
   subst this;exact .refl
 | succ q ih =>
  by_cases e:k=q+1
  ·subst e;exact .refl
  ·exact (ih (by omega)).trans (K5 (by rw [IE,hl]) hi fun h=>by simp [h])
theorem sU {h:Hp} {d:List Bool} (hl:d.length=h.ground.length) {k q:Nat} (hkq:k <= q) (hq:q <= h.ground.length):Keeps h.ground.length (RX h d k) (RX h d q):=by
 induction q with
 | zero =>
   have:k=0:=by omega
   subst this;exact .refl
 | succ q ih =>
  by_cases e:k=q+1
  ·subst e;exact .refl
  ·exact (ih (by omega) (by omega)).trans (MR (by rw [KS,hl]) (by omega) _)
theorem mZ {h:Hp} {d:List Bool} (hl:d.length=h.ground.length) {k q:Nat} (hkq:k <= q) (hq:q <= h.ground.length):Keeps h.ground.length (G5 h d k) (G5 h d q):=by
 induction q with
 | zero =>
   have:k=0:=by omega
   subst this;exact .refl
 | succ q ih =>
  by_cases e:k=q+1
  ·subst e;exact .refl
  ·exact (ih (by omega) (by omega)).trans (KY (by rw [Gn,hl]) (by omega) _)
theorem mY {h:Hp} {d:List Bool} {r:Nat} (hl:d.length=h.ground.length) (hd:∀ i,i < h.ground.length -> rk h.sp r i=true -> Ns d i=true):∀ i,i < h.ground.length -> rk h.sp (r+1) i=true -> Ns (RX h d h.ground.length) i=true:=fun i hi hr=>by
 refine sU hl (show i+1 <= h.ground.length by omega) (Nat.le_refl _) i hi ?_
 have hl2:(RX h d i).length=h.ground.length:=by rw [KS,hl]
 have hk:Keeps h.ground.length d (RX h d i):=Vr hl i (by omega)
 show Ns (inn h (RX h d i) i h.ground.length) i=true
 rcases OH.1 hr with hg | ⟨k,h1,h2,h3⟩
 ·refine gI hl2 hi (show 1 <= h.ground.length by omega) i hi ?_
  show Ns ((inn h (RX h d i) i 0).set i _) i=true
  have hg':0 < LH h i:=hg
  rw [Mf (by rw [Jd,hl2];exact hi),if_pos rfl]
  simp [hg']
 ·have hk1:k < h.ground.length:=h1
  refine gI hl2 hi (show k+1 <= h.ground.length by omega) i hi ?_
  show Ns ((inn h (RX h d i) i k).set i _) i=true
  have h3':0 < IY h i k:=h3
  have:=MR hl2 hi k k hk1 (hk k hk1 (hd k hk1 h2))
  rw [Mf (by rw [Jd,hl2];exact hi),if_pos rfl]
  simp [h3',this]
theorem jC {h:Hp} {d:List Bool} {r:Nat} (hl:d.length=h.ground.length) (hd:∀ i,i < h.ground.length -> rk h.sp r i=true -> Ns d i=true):∀ i,i < h.ground.length -> rk h.sp (r+1) i=true -> Ns (G5 h d h.ground.length) i=true:=fun i hi hr=>by
 refine mZ hl (show i+1 <= h.ground.length by omega) (Nat.le_refl _) i hi ?_
 have hl2:(G5 h d i).length=h.ground.length:=by rw [Gn,hl]
 have hk:Keeps h.ground.length d (G5 h d i):=Sl hl i (by omega)
 show Ns (FI h (G5 h d i) i h.ground.length) i=true
 rcases OH.1 hr with hg | ⟨k,h1,h2,h3⟩
 ·refine ZC hl2 hi (show 0 <= h.ground.length by omega) i hi ?_
  show Ns ((G5 h d i).set i _) i=true
  have hg':0 < LH h i:=hg
  rw [Mf (by rw [hl2];exact hi),if_pos rfl]
  simp [hg']
 ·have hk1:k < h.ground.length:=h1
  refine ZC hl2 hi (show k+1 <= h.ground.length by omega) i hi ?_
  show Ns ((FI h (G5 h d i) i k).set i _) i=true
  have h3':0 < IY h i k:=h3
  have:=KY hl2 hi k k hk1 (hk k hk1 (hd k hk1 h2))
  rw [Mf (by rw [IE,hl2];exact hi),if_pos rfl]
  simp [h3',this]
theorem lW {h:Hp}:∀ r i,i < h.ground.length -> rk h.sp r i=true -> Ns (Lc h r) i=true
 | 0,_,_,hr=>by simp [rk] at hr
 | r+1,i,hi,hr=>mY (KP r) (fun j hj=>lW r j hj) i hi hr
theorem eU {h:Hp}:∀ r i,i < h.ground.length -> rk h.sp r i=true -> Ns (Fe h r) i=true
 | 0,_,_,hr=>by simp [rk] at hr
 | r+1,i,hi,hr=>jC (I5 r) (fun j hj=>eU r j hj) i hi hr
theorem Sw {d:List Bool}:d.contains false=false ↔ ∀ i,i < d.length -> Ns d i=true:=by
 rw [Bool.eq_false_iff]
 simp only [ne_eq,List.contains_iff_mem]
 constructor
 ·intro h i hi
  unfold Ns
  rw [List.getD_eq_getElem?_getD,List.getElem?_eq_getElem hi]
  cases hb:d[i] with
  | true=>simp
  | false=>exact absurd (hb ▸ List.getElem_mem hi) h
 ·intro h hm
  obtain ⟨i,hi,e⟩:=List.getElem_of_mem hm
  have:=h i hi
  unfold Ns at this
  rw [List.getD_eq_getElem?_getD,List.getElem?_eq_getElem hi,e] at this
  simp at this
theorem QW {h:Hp}:(Lc h h.ground.length).contains false=false ↔ ∀ i,i < h.ground.length -> h.sp.Reach i:=by
 rw [Sw,KP]
 exact ⟨fun hh i hi=>Vk _ i hi (hh i hi),fun hh i hi=>lW _ i hi (Yg (hh i hi))⟩
theorem Uh {h:Hp}:(Fe h (h.ground.length+1)).contains false=false ↔ ∀ i,i < h.ground.length -> h.sp.Reach i:=by
 rw [Sw,I5]
 exact ⟨fun hh i hi=>SS _ i hi (hh i hi),fun hh i hi=>eU _ i hi (eX (Yg (hh i hi)))⟩
theorem Uq (h:Hp):Ih h=validate h:=by
 unfold validate Ih
 have:(Fe h (h.ground.length+1)).contains false=(Lc h h.ground.length).contains false:=by
  cases h1:(Lc h h.ground.length).contains false with
  | false=>exact Uh.2 (QW.1 h1)
  | true =>
   cases h2:(Fe h (h.ground.length+1)).contains false with
   | true=>rfl
   | false=>rw [QW.2 (Uh.1 h2)] at h1;cases h1
 rw [this]
structure VH (h:Hp):Prop where
 n1:1 <= h.ground.length
 n5:h.ground.length <= 5
 len:h.links.length=h.ground.length
 row:∀ i,i < h.ground.length -> (IX h i).length=h.ground.length
 gb:∀ i,i < h.ground.length -> 0 <= LH h i /\ LH h i <= 2
 dg:∀ i,i < h.ground.length -> IY h i i=0
 lb:∀ i k,i < h.ground.length -> k < h.ground.length -> 0 <= IY h i k /\ IY h i k <= 2
 sy:∀ i k,i < h.ground.length -> k < h.ground.length -> IY h i k=IY h k i
 re:∀ i,i < h.ground.length -> h.sp.Reach i
theorem Ij {h:Hp}:GX h=true ↔ (1 <= h.ground.length /\ h.ground.length <= 5 /\ h.links.length=h.ground.length) /\ (∀ i,i < h.ground.length -> (IX h i).length=h.ground.length) /\ ∀ i,i < h.ground.length -> (0 <= LH h i /\ LH h i <= 2) /\ IY h i i=0 /\ ∀ k,k < h.ground.length -> (0 <= IY h i k /\ IY h i k <= 2) /\ IY h i k=IY h k i:=by
 simp only [GX,rowOk,IV,FN,KI,Bool.and_eq_true,decide_eq_true_eq,beq_iff_eq,List.all_eq_true,List.mem_range,and_assoc]
theorem YO {h:Hp} (e:validate h=0):VH h:=by
 unfold validate at e
 split at e
 ·rename_i ha
  split at e
  ·cases e
  ·rename_i hb
   obtain ⟨⟨a1,a2,a3⟩,a4,a5⟩:=Ij.1 ha
   exact ⟨a1,a2,a3,a4,fun i hi=>(a5 i hi).1,fun i hi=>(a5 i hi).2.1,fun i k hi hk=>((a5 i hi).2.2 k hk).1,fun i k hi hk=>((a5 i hi).2.2 k hk).2,QW.1 (by simpa using hb)⟩
 ·cases e
theorem VH.ok {h:Hp} (v:VH h):h.sp.Ok:=⟨fun i k hi hk=>(v.lb i k hi hk).1,v.sy,v.dg,fun i hi=>(v.gb i hi).1,v.re⟩
theorem VH.get {h:Hp} (v:VH h) {i:Nat} (hi:i < h.ground.length):h.links[i]?=some (IX h i):=by
 unfold IX
 rw [List.getD_eq_getElem?_getD,List.getElem?_eq_getElem (by rw [v.len];exact hi)];rfl
theorem VH.jY {h:Hp} (v:VH h) {i k:Nat} (hi:i < h.ground.length) (hk:k < h.ground.length):(IX h i)[k]?=some (IY h i k):=by
 unfold IY
 rw [List.getD_eq_getElem?_getD (l:=IX h i),List.getElem?_eq_getElem (by rw [v.row i hi];exact hk)];rfl
theorem Kh {h:Hp} {i:Nat} (hi:i < h.ground.length):h.ground[i]?=some (LH h i):=by
 unfold LH
 rw [List.getD_eq_getElem?_getD,List.getElem?_eq_getElem hi];rfl
theorem Ah {a:List Int} {i:Nat} (hi:i < a.length):a[i]?=some (Az a i):=by
 unfold Az
 rw [List.getD_eq_getElem?_getD,List.getElem?_eq_getElem hi];rfl
theorem QV {n:Nat} {f:Nat -> Int} {i:Nat} (hi:i < n):Az ((List.range n).map f) i=f i:=by
 unfold Az
 simp [List.getD_eq_getElem?_getD,hi]
theorem Ll {n:Nat} {a:List Int} {f:Nat -> Int} (hl:a.length=n) (h:∀ i,i < n -> Az a i=f i):a=(List.range n).map f:=by
 apply List.ext_getElem
 ·simp [hl]
 ·intro i h1 h2
  have:=h i (by omega)
  unfold Az at this
  rw [List.getD_eq_getElem?_getD,List.getElem?_eq_getElem h1] at this
  simpa using this
theorem Y7 {n:Nat} {a b:List Int} (ha:a.length=n) (hb:b.length=n) (h:∀ i,i < n -> Az a i=Az b i):a=b :=
 (Ll ha h).trans (Ll hb fun _ _=>rfl).symm
theorem BZ {a:List Int} {i j:Nat} {x:Int} (hi:i < a.length):Az (a.set i x) j=if j=i then x else Az a j:=by
 unfold Az
 rw [List.getD_eq_getElem?_getD,List.getElem?_set,List.getD_eq_getElem?_getD]
 by_cases e:i=j
 ·subst e;simp [hi]
 ·rw [if_neg e,if_neg (Ne.symm e)]
theorem VH.jR {h:Hp} (v:VH h) {i:Nat} (hi:i < h.ground.length):1 <= h.sp.lim i:=fq v.ok hi
theorem VH.Z8 {h:Hp} (v:VH h) {i:Nat} (hi:i < h.ground.length):h.sp.lim i <= 12:=by
 have h1:=(v.gb i hi).2
 have h2:sm (h.sp.l i) h.sp.n <= sm (fun _=>2) h.sp.n:=La fun k hk=>(v.lb i k hi hk).2
 rw [Iz] at h2
 have h3:=v.n5
 have:(h.sp.n:Int) <= 5:=by show (h.ground.length:Int) <= 5;omega
 unfold SP.lim
 have:h.sp.g i=LH h i:=rfl
 omega
end Go.Ab.Heap
namespace Go.Ab.Heap
def Mi (h:Hp) (c:List Int) (i:Nat) (k:Int):List Int:=(List.range h.ground.length).map fun j=>Az c j - (if j=i then k * h.sp.lim i else 0)+k * IY h i j
structure GN (h:Hp) (a c t:List Int):Prop where
 lc:c.length=h.ground.length
 lt:t.length=h.ground.length
 le:h.sp.Legal (Az a) (Az t)
 eq:∀ i,i < h.ground.length -> Az c i=h.sp.fu (Az a) (Az t) i
 c0:∀ i,i < h.ground.length -> 0 <= Az c i
theorem Ue {n i:Nat} {x:Int} (hi:i < n):Az (List.replicate n x) i=x:=by
 unfold Az
 rw [List.getD_eq_getElem?_getD,List.getElem?_replicate,if_pos hi];rfl
theorem GN.start {h:Hp} {a:List Int} (hl:a.length=h.ground.length) (h0:∀ i,i < h.ground.length -> 0 <= Az a i):GN h a a (List.replicate h.ground.length 0) where
 lc:=hl
 lt:=by simp
 le:=Lm (fun _ _=>rfl) (fun i hi=>(Ue hi).symm) bP
 eq:=fun i hi=>by
  unfold SP.fu
  rw [Vy (s:=h.sp) (u:=Az (List.replicate h.ground.length 0)) (v:=fun _=>0) (fun j hj=>Ue hj) hi,nZ];omega
 c0:=h0
theorem tQ (h:Hp) (v:VH h) {i:Nat} (hi:i < h.ground.length) (k:Int) {j:Nat} (hj:j < h.ground.length):h.sp.Q8 (fun q=>if q=i then k else 0) j=(if j=i then k * h.sp.lim i else 0) - k * IY h i j:=by
 rw [ng]
 have e:sm (fun q=>h.sp.l j q * (if q=i then k else 0)) h.sp.n=k * IY h i j:=by
  have e1:(fun q=>h.sp.l j q * (if q=i then k else 0))=fun q=>if q=i then k * IY h j q else 0:=by
   funext q
   split
   ·rw [Int.mul_comm];rfl
   ·simp
  rw [e1]
  have:∀ m,sm (fun q=>if q=i then k * IY h j q else 0) m=if i < m then k * IY h j i else 0:=by
   intro m
   induction m with
   | zero=>simp [sm]
   | succ m ih =>
    simp only [sm]
    rw [ih]
    by_cases e:m=i
    ·subst e;simp
    ·rw [if_neg e]
     by_cases e2:i < m
     ·rw [if_pos e2,if_pos (by omega)];omega
     ·rw [if_neg e2,if_neg (by omega)];omega
  rw [this,if_pos (show i < h.sp.n from hi),v.sy j i hj hi]
 rw [e]
 split
 ·rename_i e;subst e;rw [Int.mul_comm]
 ·simp
theorem O4 {h:Hp} {c:List Int} {i:Nat} {k:Int}:(Mi h c i k).length=h.ground.length:=by simp [Mi]
theorem Wo {h:Hp} {c:List Int} {i j:Nat} {k:Int} (hj:j < h.ground.length):Az (Mi h c i k) j=Az c j - (if j=i then k * h.sp.lim i else 0)+k * IY h i j:=QV hj
theorem l8 {h:Hp} (v:VH h) {c:List Int} {i j:Nat} {k:Int} (hi:i < h.ground.length) (hj:j < h.ground.length):Az (Mi h c i k) j=h.sp.fu (Az c) (fun q=>if q=i then k else 0) j:=by
 rw [Wo hj]
 unfold SP.fu
 rw [tQ h v hi k hj];omega
theorem GN.step {h:Hp} (v:VH h) {a c t:List Int} (I:GN h a c t) {i:Nat} (hi:i < h.ground.length) {k:Int} (h0:0 <= k) (hk:k * h.sp.lim i <= Az c i):GN h a (Mi h c i k) (t.set i (Az t i+k)):=by
 have et:∀ j,Az (t.set i (Az t i+k)) j=Az t j+(if j=i then k else 0):=fun j=>by
  rw [BZ (by rw [I.lt];exact hi)]
  split
  ·rename_i e;subst e;rfl
  ·omega
 refine ⟨O4,by simp [I.lt],?_,fun j hj=>?_,fun j hj=>?_⟩
 ·refine Lm (fun _ _=>rfl) (fun j hj=>(et j).symm) (bQ I.le (t':=fun j=>if j=i then k else 0) ?_)
  exact Lm (fun j hj=>I.eq j hj) (fun _ _=>rfl) (jS v.ok (a:=Az c) hi h0 hk (fq v.ok hi))
 ·rw [l8 v hi hj]
  unfold SP.fu
  rw [I.eq j hj]
  unfold SP.fu
  rw [Vy (s:=h.sp) (v:=fun q=>Az t q+if q=i then k else 0) (fun q _=>et q) hj,gF];omega
 ·rw [Wo hj]
  have h1:=I.c0 j hj
  have h2:=Int.mul_nonneg h0 (v.lb i j hi hj).1
  split
  ·rename_i e;subst e;omega
  ·omega
theorem GN.sum {h:Hp} (v:VH h) {a c t:List Int} (I:GN h a c t):sm (Az c) h.ground.length <= sm (Az a) h.ground.length:=by
 rw [Ct I.eq]
 exact nV v.ok I.le.1
theorem GN.bd {h:Hp} (v:VH h) {a c t:List Int} (I:GN h a c t) (h0:∀ i,i < h.ground.length -> 0 <= Az a i) {A:Int} (hA:sm (Az a) h.ground.length <= A):∀ i,i < h.ground.length -> 0 <= Az t i /\ Az t i <= h.ground.length * A:=fun i hi =>
 ⟨I.le.1 i hi,often v.ok (a:=Az a) (t:=Az t) I.le.1 h0 hA (fun j hj=>by have:=I.c0 j hj;rw [I.eq j hj] at this;exact this) i hi⟩
theorem GN.cb {h:Hp} (v:VH h) {a c t:List Int} (I:GN h a c t) {A:Int} (hA:sm (Az a) h.ground.length <= A):∀ i,i < h.ground.length -> 0 <= Az c i /\ Az c i <= A:=fun i hi =>
 ⟨I.c0 i hi,Int.le_trans (Jt (f:=Az c) (n:=h.ground.length) I.c0 hi) (Int.le_trans (I.sum v) hA)⟩
def H6 (h:Hp) (c:List Int):Prop:=∀ i,i < h.ground.length -> Az c i < h.sp.lim i
theorem GN.wZ {h:Hp} {a c t:List Int} (I:GN h a c t) (hc:H6 h c):h.sp.Stl (Az a) (Az t) :=
 ⟨⟨I.le.1,fun i hi=>by rw [<- I.eq i hi];exact hc i hi⟩,I.le⟩
def L6 (h:Hp) (a t:List Int):Nat:=(h.ground.length * (h.ground.length * sm (Az a) h.ground.length) - sm (Az t) h.ground.length).toNat
theorem LZ {t:List Int} {n i:Nat} {x:Int} (hl:t.length=n) (hi:i < n):sm (Az (t.set i x)) n=sm (Az t) n+(x - Az t i):=by
 have:∀ m,m <= n -> sm (Az (t.set i x)) m=sm (Az t) m+if i < m then x - Az t i else 0:=by
  intro m
  induction m with
  | zero=>intro _;simp [sm]
  | succ m ih =>
   intro hm
   simp only [sm]
   rw [ih (by omega),BZ (by omega)]
   by_cases e:m=i
   ·subst e;rw [if_pos rfl,if_neg (by omega),if_pos (by omega)];omega
   ·rw [if_neg e]
    by_cases e2:i < m
    ·rw [if_pos e2,if_pos (by omega)];omega
    ·rw [if_neg e2,if_neg (by omega)];omega
 rw [this n (Nat.le_refl _),if_pos hi]
theorem GN.rT {h:Hp} (v:VH h) {a c t:List Int} (I:GN h a c t) (h0:∀ i,i < h.ground.length -> 0 <= Az a i):sm (Az t) h.ground.length <= h.ground.length * (h.ground.length * sm (Az a) h.ground.length):=by
 have:=La (f:=Az t) (g:=fun _=>h.ground.length * sm (Az a) h.ground.length) (n:=h.ground.length) fun i hi=>(I.bd v h0 (Int.le_refl _) i hi).2
 rwa [Iz] at this
theorem LY {h:Hp} (v:VH h) {a c t:List Int} (I:GN h a c t) (h0:∀ i,i < h.ground.length -> 0 <= Az a i) {i:Nat} (hi:i < h.ground.length) {k:Int} (h1:1 <= k) (hk:k * h.sp.lim i <= Az c i):L6 h a (t.set i (Az t i+k)) < L6 h a t:=by
 have h2:=(I.step v hi (by omega) hk).rT v h0
 have h3:=LZ (x:=Az t i+k) I.lt hi
 unfold L6
 omega
theorem lI {h:Hp} (v:VH h) {a:List Int} (h0:∀ i,i < h.ground.length -> 0 <= Az a i):∀ (m:Nat) {c t:List Int},GN h a c t -> L6 h a t <= m -> ∃ c t,GN h a c t /\ H6 h c
 | m,c,t,I,hm=>by
  by_cases hc:H6 h c
  ·exact ⟨c,t,I,hc⟩
  ·simp only [H6,Classical.not_forall] at hc
   obtain ⟨i,hi,hlt⟩:=hc
   have hk:(1:Int) * h.sp.lim i <= Az c i:=by omega
   have h2:=LY v I h0 hi (Int.le_refl _) hk
   match m with
   | 0=>omega
   | m+1=>exact lI v h0 m (I.step v hi (by omega) hk) (by omega)
open Classical in
noncomputable def Jr (h:Hp) (a:List Int):List Int:=if e:∃ t:List Int,t.length=h.ground.length /\ h.sp.Stl (Az a) (Az t) then e.choose else []
noncomputable def LJ (h:Hp) (a:List Int):List Int:=(List.range h.ground.length).map (h.sp.fu (Az a) (Az (Jr h a)))
theorem GN.done {h:Hp} {a c t:List Int} (I:GN h a c t) (hc:H6 h c):LJ h a=c /\ Jr h a=t:=by
 have ht:Jr h a=t:=by
  have e:∃ t:List Int,t.length=h.ground.length /\ h.sp.Stl (Az a) (Az t):=⟨t,I.lt,I.wZ hc⟩
  have hd:Jr h a=e.choose:=by unfold Jr;rw [dif_pos e]
  rw [hd]
  exact Y7 e.choose_spec.1 I.lt fun i hi=>aR e.choose_spec.2 (I.wZ hc) i hi
 refine ⟨?_,ht⟩
 unfold LJ
 rw [ht]
 exact (Ll I.lc I.eq).symm
structure wI (h:Hp) (a:List Int):Prop where
 len:a.length=h.ground.length
 nn:∀ i,i < h.ground.length -> 0 <= Az a i
theorem LX {h:Hp} (v:VH h) {a:List Int} (ha:wI h a):GN h a (LJ h a) (Jr h a) /\ H6 h (LJ h a):=by
 obtain ⟨c,t,I,hc⟩:=lI v ha.nn _ (GN.start ha.len ha.nn) (Nat.le_refl _)
 obtain ⟨e1,e2⟩:=I.done hc
 rw [e1,e2]
 exact ⟨I,hc⟩
def wE (h:Hp) (a b:List Int):List Int:=(List.range h.ground.length).map fun i=>Az a i+Az b i
theorem iO {h:Hp} {a b:List Int} {i:Nat} (hi:i < h.ground.length):Az (wE h a b) i=Az a i+Az b i:=QV hi
theorem qd {h:Hp} {a b:List Int} (ha:wI h a) (hb:wI h b):wI h (wE h a b):=⟨by simp [wE],fun i hi=>by rw [iO hi];have:=ha.nn i hi;have:=hb.nn i hi;omega⟩
end Go.Ab.Heap
namespace Go.Ab.Heap
abbrev Mat:=Nat -> Nat -> Int
def elim (M:Mat):Mat:=fun i j=>M 0 0 * M (i+1) (j+1) - M 0 (j+1) * M (i+1) 0
inductive YC (n:Nat) (M:Mat):Nat -> Prop
 | ground {i:Nat}:i < n -> 0 < sm (M i) n -> YC n M i
 | link {i k:Nat}:i < n -> k < n -> i ≠ k -> YC n M k -> M i k < 0 -> YC n M i
structure KM (n:Nat) (M:Mat):Prop where
 off:∀ i j,i < n -> j < n -> i ≠ j -> M i j <= 0
 row:∀ i,i < n -> 0 <= sm (M i) n
 re:∀ i,i < n -> YC n M i
theorem sw {a b A B:Int} (h1:-A <= a) (h2:a <= A) (h3:-B <= b) (h4:b <= B):-(A * B) <= a * b /\ a * b <= A * B:=by
 have p1:0 <= (A - a) * (B - b):=Int.mul_nonneg (by omega) (by omega)
 have p2:0 <= (A+a) * (B+b):=Int.mul_nonneg (by omega) (by omega)
 have p3:0 <= (A - a) * (B+b):=Int.mul_nonneg (by omega) (by omega)
 have p4:0 <= (A+a) * (B - b):=Int.mul_nonneg (by omega) (by omega)
 simp only [Int.sub_mul,Int.mul_sub,Int.add_mul,Int.mul_add] at p1 p2 p3 p4
 omega
end Go.Ab.Heap
set_option linter.all false
namespace Go.Ab.Heap
open Go Go.Ab
abbrev Et (h:Hp):DV:=.agg [.list (h.links.map ints),ints h.ground]
theorem Ni {ok:Nat -> Prop} {Db:DV -> Prop} {M:Nat -> Nat × Option BG} {t g n:Nat} {blk:BG} {l:List DV} (hM:M t=(g,some blk)) (hst:ok blk.st) (hl:l.length=n) (he:∀ d ∈ l,d.cells.length=blk.CS)
  (hc:Cm (Data ok Db M) blk.cells (flat l)):Data ok Db M (.sl t g 0 n) (.list l):=by
 have hlen:=GL hc
 refine .sl t g 0 n blk l (fun j=>blk.cells.getD j .dead) hM hst hl he (fun j c hj=>?_) fun j c hj=>?_
 ·have hj2:j < blk.cells.length:=by rw [hlen];exact (List.getElem?_eq_some_iff.1 hj).1
  simp [hj2]
 ·have hj2:j < blk.cells.length:=by rw [hlen];exact (List.getElem?_eq_some_iff.1 hj).1
  exact JG hc j _ c (by simp [hj2]) hj
theorem ZR {P:Program} {Db:DV -> Prop} {S:St} {x:Exit} {t:Nat} {ty:TypeId} {s1:SV} {d:DV} (he:x=.normal \/ x=.ret) (hs:Dt P ty (S.look (.tmp t))=some s1) (h1:Data (fun _=>True) Db S.M s1 d):RO P Db [.cell t ty] (.one (.dv d)) x S:=by
 refine ⟨he,[s1],[.dv d],by simp [Dh,hs],⟨h1,trivial⟩,.inl fun r hr=>⟨d,by simpa using hr⟩,rfl⟩
theorem dM {ok:Nat -> Prop} {Db:DV -> Prop} {M:Nat -> Nat × Option BG} {t g n:Nat} {e:TypeId} {L:List Bool} (hM:M t=(g,some (Ut e L))) (hst:ok 0) (hl:L.length=n) (hd:∀ q,Db (.bool q)):Data ok Db M (.sl t g 0 n) (.list (L.map DV.bool)):=by
 have hf:flat (L.map DV.bool)=L.map DV.bool:=II fun _=>rfl
 refine Ot hM hst (by simpa using hl) (fun d hd'=>?_) ?_ fun c hc'=>?_
 ·obtain ⟨q,_,rfl⟩:=List.mem_map.1 hd';rfl
 ·rw [hf];simp
 ·rw [hf] at hc';obtain ⟨q,_,rfl⟩:=List.mem_map.1 hc';exact hd q
theorem j4 {a b:List Int} (h:a.length ≠ b.length):(a == b)=false:=by
 rw [beq_eq_false_iff_ne];intro e;rw [e] at h;exact h rfl
theorem sG {a b:List Int} {i:Nat} {x y:Int} (h1:a[i]?=some x) (h2:b[i]?=some y) (h:x ≠ y):(a == b)=false:=by
 rw [beq_eq_false_iff_ne];intro e;rw [e,h2] at h1;exact h (Option.some.inj h1).symm
theorem lU {a b:List Int} (hl:a.length=b.length) (h:∀ j,j < a.length -> a[j]?=b[j]?):(a == b)=true:=by
 rw [beq_iff_eq]
 apply List.ext_getElem? 
 intro j
 rcases Nat.lt_or_ge j a.length with h1 | h1
 ·exact h j h1
 ·rw [List.getElem?_eq_none h1,List.getElem?_eq_none (by omega)]
end Go.Ab.Heap
