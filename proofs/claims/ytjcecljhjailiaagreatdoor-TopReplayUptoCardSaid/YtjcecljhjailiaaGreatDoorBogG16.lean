/- HeapL2, HeapL3, HeapD, HeapT. -/
import Derived.Test.YtjcecljhjailiaaGreatDoorBogG15
import Derived.Test.YtjcecljhjailiaaGreatDoorBogG12
namespace Go.Ab.Heap
structure Hp where
 links:List (List Int)
 ground:List Int
def Az (a:List Int) (i:Nat):Int:=a.getD i 0
def Gn (h:Hp) (i:Nat):List Int:=h.links.getD i []
def Iy (h:Hp) (i k:Nat):Int:=(Gn h i).getD k 0
def Ow (h:Hp) (i:Nat):Int:=h.ground.getD i 0
def Hp.sp (h:Hp):SP:=⟨h.ground.length,Iy h,Ow h⟩
def Km (x lo hi:Int):Bool:=decide (lo <= x) && decide (x <= hi)
def rowOk (h:Hp) (i:Nat):Bool:=(Gn h i).length == h.ground.length
def Ef (h:Hp) (i k:Nat):Bool:=Km (Iy h i k) 0 2 && Iy h i k == Iy h k i
def Gh (h:Hp) (i:Nat):Bool:=Km (Ow h i) 0 2 && Iy h i i == 0
def FR (h:Hp):Bool:=(decide (1 <= h.ground.length) && decide (h.ground.length <= 5) && h.links.length == h.ground.length) && (List.range h.ground.length).all (rowOk h) && (List.range h.ground.length).all fun i=>Gh h i && (List.range h.ground.length).all (Ef h i)
def MH (d:List Bool) (i:Nat):Bool:=d.getD i false
def inn (h:Hp) (d:List Bool) (i:Nat):Nat -> List Bool
 | 0=>d
 | k+1=>(inn h d i k).set i (MH (inn h d i k) i || decide (0 < Ow h i) || MH (inn h d i k) k && decide (0 < Iy h i k))
def PX (h:Hp) (d:List Bool):Nat -> List Bool
 | 0=>d
 | i+1=>inn h (PX h d i) i h.ground.length
def KC (h:Hp):Nat -> List Bool
 | 0=>List.replicate h.ground.length false
 | r+1=>PX h (KC h r) h.ground.length
def Ea (h:Hp) (d:List Bool) (i:Nat):Nat -> List Bool
 | 0=>d.set i (MH d i || decide (0 < Ow h i))
 | k+1=>(Ea h d i k).set i (MH (Ea h d i k) i || MH (Ea h d i k) k && decide (0 < Iy h i k))
def F9 (h:Hp) (d:List Bool):Nat -> List Bool
 | 0=>d
 | i+1=>Ea h (F9 h d i) i h.ground.length
def Ev (h:Hp):Nat -> List Bool
 | 0=>List.replicate h.ground.length false
 | r+1=>F9 h (Ev h r) h.ground.length
def validate (h:Hp):Int:=if FR h then (if (KC h h.ground.length).contains false then 9 else 0) else 1
def Gy (h:Hp):Int:=if FR h then (if (Ev h (h.ground.length+1)).contains false then 9 else 0) else 1
theorem Ij {h:Hp} {d:List Bool} {i:Nat}:∀ k,(inn h d i k).length=d.length
 | 0=>rfl
 | k+1=>by simp only [inn,List.length_set];exact Ij k
theorem JZ {h:Hp} {d:List Bool}:∀ i,(PX h d i).length=d.length
 | 0=>rfl
 | i+1=>by simp only [PX];rw [Ij,JZ i]
theorem JX {h:Hp}:∀ r,(KC h r).length=h.ground.length
 | 0=>by simp [KC]
 | r+1=>by simp only [KC];rw [JZ,JX r]
theorem GR {h:Hp} {d:List Bool} {i:Nat}:∀ k,(Ea h d i k).length=d.length
 | 0=>by simp [Ea]
 | k+1=>by simp only [Ea,List.length_set];exact GR k
theorem Fb {h:Hp} {d:List Bool}:∀ i,(F9 h d i).length=d.length
 | 0=>rfl
 | i+1=>by simp only [F9];rw [GR,Fb i]
theorem GQ {h:Hp}:∀ r,(Ev h r).length=h.ground.length
 | 0=>by simp [Ev]
 | r+1=>by simp only [Ev];rw [Fb,GQ r]
theorem Kw {d:List Bool} {i j:Nat} {b:Bool} (hi:i < d.length):MH (d.set i b) j=if j=i then b else MH d j:=by
 unfold MH
 rw [List.getD_eq_getElem?_getD,List.getElem?_set,List.getD_eq_getElem?_getD]
 by_cases e:i=j
 ·subst e;simp [hi]
 ·rw [if_neg e,if_neg (Ne.symm e)]
def rk (s:SP):Nat -> Nat -> Bool
 | 0,_=>false
 | r+1,i=>decide (0 < s.g i) || (List.range s.n).any fun k=>rk s r k && decide (0 < s.l i k)
theorem Mh {s:SP} {r i:Nat}:rk s (r+1) i=true ↔ 0 < s.g i \/ ∃ k,k < s.n /\ rk s r k=true /\ 0 < s.l i k:=by
 simp [rk,List.any_eq_true]
theorem Zz {s:SP}:∀ {r i:Nat},rk s r i=true -> rk s (r+1) i=true
 | 0,_,h=>by simp [rk] at h
 | r+1,i,h=>by
  rw [Mh] at h ⊢
  rcases h with h | ⟨k,h1,h2,h3⟩
  ·exact .inl h
  ·exact .inr ⟨k,h1,Zz h2,h3⟩
theorem zA {s:SP} {r i:Nat} (h:rk s r i=true):∀ {q:Nat},r <= q -> rk s q i=true:=by
 intro q hq
 induction q with
 | zero =>
   have:r=0:=by omega
   subst this;exact h
 | succ q ih =>
  by_cases e:r=q+1
  ·subst e;exact h
  ·exact Zz (ih (by omega))
theorem dV {s:SP} {q:Nat} (h:∀ i,i < s.n -> rk s (q+1) i=true -> rk s q i=true):∀ i,s.Reach i -> rk s q i=true:=by
 intro i hi
 induction hi with
 | @ground i h1 h2=>exact h i h1 (Mh.2 (.inl h2))
 | @link i k h1 h2 _ h4 ih=>exact h i h1 (Mh.2 (.inr ⟨k,h2,ih,h4⟩))
theorem WJ {s:SP}:∀ r,(∃ q,q <= r /\ ∀ i,i < s.n -> rk s (q+1) i=true -> rk s q i=true) \/ r <= cnt (rk s r) s.n
 | 0=>.inr (Nat.zero_le _)
 | r+1=>by
  rcases WJ (s:=s) r with ⟨q,h1,h2⟩ | h
  ·exact .inl ⟨q,by omega,h2⟩
  ·by_cases hs:∀ i,i < s.n -> rk s (r+1) i=true -> rk s r i=true
   ·exact .inl ⟨r,by omega,hs⟩
   ·simp only [Classical.not_forall] at hs
    obtain ⟨i,hi,h1,h2⟩:=hs
    have:=cnt_lt (p:=rk s r) (q:=rk s (r+1)) (k:=i) (n:=s.n) (fun _ _=>Zz) hi (by simpa using h2) h1
    exact .inr (by omega)
theorem Xo {p:Nat -> Bool}:∀ {n:Nat},n <= cnt p n -> ∀ i,i < n -> p i=true
 | 0,_,_,hi=>by omega
 | n+1,h,i,hi=>by
  simp only [cnt] at h
  have h1:=ZU p n
  split at h
  ·rename_i hp
   by_cases e:i=n
   ·subst e;exact hp
   ·exact Xo (n:=n) (by omega) i (by omega)
  ·omega
theorem iy {s:SP} {i:Nat} (h:s.Reach i):i < s.n:=by cases h<;>assumption
theorem WQ {s:SP} {i:Nat} (h:s.Reach i):rk s s.n i=true:=by
 rcases WJ (s:=s) s.n with ⟨q,h1,h2⟩ | h1
 ·exact zA (dV h2 i h) h1
 ·exact Xo h1 i (iy h)
def Sound (h:Hp) (d:List Bool):Prop:=∀ i,i < h.ground.length -> MH d i=true -> h.sp.Reach i
theorem O3 {h:Hp} {d:List Bool} {i:Nat} {b:Bool} (hd:Sound h d) (hl:d.length=h.ground.length) (hi:i < h.ground.length) (hb:b=true -> h.sp.Reach i):Sound h (d.set i b):=fun j hj hjt=>by
 rw [Kw (by omega)] at hjt
 split at hjt
 ·rename_i e;subst e;exact hb hjt
 ·exact hd j hj hjt
theorem Ti {h:Hp} {d:List Bool} {i:Nat} (hd:Sound h d) (hl:d.length=h.ground.length) (hi:i < h.ground.length):∀ k,k <= h.ground.length -> Sound h (inn h d i k)
 | 0,_=>hd
 | k+1,hk=>by
  have ih:=Ti hd hl hi k (by omega)
  refine O3 ih (by rw [Ij,hl]) hi fun hb=>?_
  simp only [Bool.or_eq_true,Bool.and_eq_true,decide_eq_true_eq] at hb
  rcases hb with (h1 | h1) | ⟨h1,h2⟩
  ·exact ih i hi h1
  ·exact .ground hi h1
  ·exact .link hi (show k < h.sp.n from by show k < h.ground.length;omega) (ih k (by omega) h1) h2
theorem R3 {h:Hp} {d:List Bool} {i:Nat} (hd:Sound h d) (hl:d.length=h.ground.length) (hi:i < h.ground.length):∀ k,k <= h.ground.length -> Sound h (Ea h d i k)
 | 0,_=>O3 hd hl hi fun hb=>by
  simp only [Bool.or_eq_true,decide_eq_true_eq] at hb
  rcases hb with h1 | h1
  ·exact hd i hi h1
  ·exact .ground hi h1
 | k+1,hk=>by
  have ih:=R3 hd hl hi k (by omega)
  refine O3 ih (by rw [GR,hl]) hi fun hb=>?_
  simp only [Bool.or_eq_true,Bool.and_eq_true,decide_eq_true_eq] at hb
  rcases hb with h1 | ⟨h1,h2⟩
  ·exact ih i hi h1
  ·exact .link hi (show k < h.sp.n from by show k < h.ground.length;omega) (ih k (by omega) h1) h2
theorem TN {h:Hp} {d:List Bool} (hd:Sound h d) (hl:d.length=h.ground.length):∀ i,i <= h.ground.length -> Sound h (PX h d i)
 | 0,_=>hd
 | i+1,hi=>Ti (TN hd hl i (by omega)) (by rw [JZ,hl]) (by omega) _ (Nat.le_refl _)
theorem Qh {h:Hp} {d:List Bool} (hd:Sound h d) (hl:d.length=h.ground.length):∀ i,i <= h.ground.length -> Sound h (F9 h d i)
 | 0,_=>hd
 | i+1,hi=>R3 (Qh hd hl i (by omega)) (by rw [Fb,hl]) (by omega) _ (Nat.le_refl _)
theorem Ql {h:Hp}:Sound h (List.replicate h.ground.length false):=fun i _ ht=>by
 unfold MH at ht
 rw [List.getD_eq_getElem?_getD,List.getElem?_replicate] at ht
 split at ht<;>simp at ht
theorem TH {h:Hp}:∀ r,Sound h (KC h r)
 | 0=>Ql
 | r+1=>TN (TH r) (JX r) _ (Nat.le_refl _)
theorem QY {h:Hp}:∀ r,Sound h (Ev h r)
 | 0=>Ql
 | r+1=>Qh (QY r) (GQ r) _ (Nat.le_refl _)
def Keeps (n:Nat) (d d':List Bool):Prop:=∀ i,i < n -> MH d i=true -> MH d' i=true
theorem JG {n:Nat} {d:List Bool} {i:Nat} {b:Bool} (hl:d.length=n) (hi:i < n) (hb:MH d i=true -> b=true):Keeps n d (d.set i b):=fun j _ h=>by
 rw [Kw (by omega)]
 split
 ·rename_i e;subst e;exact hb h
 ·exact h
theorem Keeps.trans {n:Nat} {a b c:List Bool} (h:Keeps n a b) (k:Keeps n b c):Keeps n a c:=fun i hi ha=>k i hi (h i hi ha)
theorem Keeps.refl {n:Nat} {a:List Bool}:Keeps n a a:=fun _ _ h=>h
theorem Kl {h:Hp} {d:List Bool} {i:Nat} (hl:d.length=h.ground.length) (hi:i < h.ground.length):∀ k,Keeps h.ground.length d (inn h d i k)
 | 0=>.refl
 | k+1=>(Kl hl hi k).trans (JG (by rw [Ij,hl]) hi fun h=>by simp [h])
theorem Jg {h:Hp} {d:List Bool} {i:Nat} (hl:d.length=h.ground.length) (hi:i < h.ground.length):∀ k,Keeps h.ground.length d (Ea h d i k)
 | 0=>JG hl hi fun h=>by simp [h]
 | k+1=>(Jg hl hi k).trans (JG (by rw [GR,hl]) hi fun h=>by simp [h])
theorem TP {h:Hp} {d:List Bool} (hl:d.length=h.ground.length):∀ i,i <= h.ground.length -> Keeps h.ground.length d (PX h d i)
 | 0,_=>.refl
 | i+1,hi=>(TP hl i (by omega)).trans (Kl (by rw [JZ,hl]) (by omega) _)
theorem Qi {h:Hp} {d:List Bool} (hl:d.length=h.ground.length):∀ i,i <= h.ground.length -> Keeps h.ground.length d (F9 h d i)
 | 0,_=>.refl
 | i+1,hi=>(Qi hl i (by omega)).trans (Jg (by rw [Fb,hl]) (by omega) _)
theorem aV {h:Hp} {d:List Bool} {i:Nat} (hl:d.length=h.ground.length) (hi:i < h.ground.length) {k q:Nat} (hkq:k <= q):Keeps h.ground.length (inn h d i k) (inn h d i q):=by
 induction q with
 | zero =>
   have:k=0:=by omega
   subst this;exact .refl
 | succ q ih =>
  by_cases e:k=q+1
  ·subst e;exact .refl
  ·exact (ih (by omega)).trans (JG (by rw [Ij,hl]) hi fun h=>by simp [h])
theorem X4 {h:Hp} {d:List Bool} {i:Nat} (hl:d.length=h.ground.length) (hi:i < h.ground.length) {k q:Nat} (hkq:k <= q):Keeps h.ground.length (Ea h d i k) (Ea h d i q):=by
 induction q with
 | zero =>
   have:k=0:=by omega
   subst this;exact .refl
 | succ q ih =>
  by_cases e:k=q+1
  ·subst e;exact .refl
  ·exact (ih (by omega)).trans (JG (by rw [GR,hl]) hi fun h=>by simp [h])
theorem oG {h:Hp} {d:List Bool} (hl:d.length=h.ground.length) {k q:Nat} (hkq:k <= q) (hq:q <= h.ground.length):Keeps h.ground.length (PX h d k) (PX h d q):=by
 induction q with
 | zero =>
   have:k=0:=by omega
   subst this;exact .refl
 | succ q ih =>
  by_cases e:k=q+1
  ·subst e;exact .refl
  ·exact (ih (by omega) (by omega)).trans (Kl (by rw [JZ,hl]) (by omega) _)
theorem jG {h:Hp} {d:List Bool} (hl:d.length=h.ground.length) {k q:Nat} (hkq:k <= q) (hq:q <= h.ground.length):Keeps h.ground.length (F9 h d k) (F9 h d q):=by
 induction q with
 | zero =>
   have:k=0:=by omega
   subst this;exact .refl
 | succ q ih =>
  by_cases e:k=q+1
  ·subst e;exact .refl
  ·exact (ih (by omega) (by omega)).trans (Jg (by rw [Fb,hl]) (by omega) _)
theorem jF {h:Hp} {d:List Bool} {r:Nat} (hl:d.length=h.ground.length) (hd:∀ i,i < h.ground.length -> rk h.sp r i=true -> MH d i=true):∀ i,i < h.ground.length -> rk h.sp (r+1) i=true -> MH (PX h d h.ground.length) i=true:=fun i hi hr=>by
 refine oG hl (show i+1 <= h.ground.length by omega) (Nat.le_refl _) i hi ?_
 have hl2:(PX h d i).length=h.ground.length:=by rw [JZ,hl]
 have hk:Keeps h.ground.length d (PX h d i):=TP hl i (by omega)
 show MH (inn h (PX h d i) i h.ground.length) i=true
 rcases Mh.1 hr with hg | ⟨k,h1,h2,h3⟩
 ·refine aV hl2 hi (show 1 <= h.ground.length by omega) i hi ?_
  show MH ((inn h (PX h d i) i 0).set i _) i=true
  have hg':0 < Ow h i:=hg
  rw [Kw (by rw [Ij,hl2];exact hi),if_pos rfl]
  simp [hg']
 ·have hk1:k < h.ground.length:=h1
  refine aV hl2 hi (show k+1 <= h.ground.length by omega) i hi ?_
  show MH ((inn h (PX h d i) i k).set i _) i=true
  have h3':0 < Iy h i k:=h3
  have:=Kl hl2 hi k k hk1 (hk k hk1 (hd k hk1 h2))
  rw [Kw (by rw [Ij,hl2];exact hi),if_pos rfl]
  simp [h3',this]
theorem dh {h:Hp} {d:List Bool} {r:Nat} (hl:d.length=h.ground.length) (hd:∀ i,i < h.ground.length -> rk h.sp r i=true -> MH d i=true):∀ i,i < h.ground.length -> rk h.sp (r+1) i=true -> MH (F9 h d h.ground.length) i=true:=fun i hi hr=>by
 refine jG hl (show i+1 <= h.ground.length by omega) (Nat.le_refl _) i hi ?_
 have hl2:(F9 h d i).length=h.ground.length:=by rw [Fb,hl]
 have hk:Keeps h.ground.length d (F9 h d i):=Qi hl i (by omega)
 show MH (Ea h (F9 h d i) i h.ground.length) i=true
 rcases Mh.1 hr with hg | ⟨k,h1,h2,h3⟩
 ·refine X4 hl2 hi (show 0 <= h.ground.length by omega) i hi ?_
  show MH ((F9 h d i).set i _) i=true
  have hg':0 < Ow h i:=hg
  rw [Kw (by rw [hl2];exact hi),if_pos rfl]
  simp [hg']
 ·have hk1:k < h.ground.length:=h1
  refine X4 hl2 hi (show k+1 <= h.ground.length by omega) i hi ?_
  show MH ((Ea h (F9 h d i) i k).set i _) i=true
  have h3':0 < Iy h i k:=h3
  have:=Jg hl2 hi k k hk1 (hk k hk1 (hd k hk1 h2))
  rw [Kw (by rw [GR,hl2];exact hi),if_pos rfl]
  simp [h3',this]
theorem iZ {h:Hp}:∀ r i,i < h.ground.length -> rk h.sp r i=true -> MH (KC h r) i=true
 | 0,_,_,hr=>by simp [rk] at hr
 | r+1,i,hi,hr=>jF (JX r) (fun j hj=>iZ r j hj) i hi hr
theorem Zy {h:Hp}:∀ r i,i < h.ground.length -> rk h.sp r i=true -> MH (Ev h r) i=true
 | 0,_,_,hr=>by simp [rk] at hr
 | r+1,i,hi,hr=>dh (GQ r) (fun j hj=>Zy r j hj) i hi hr
theorem Qm {d:List Bool}:d.contains false=false ↔ ∀ i,i < d.length -> MH d i=true:=by
 rw [Bool.eq_false_iff]
 simp only [ne_eq,List.contains_iff_mem]
 constructor
 ·intro h i hi
  unfold MH
  rw [List.getD_eq_getElem?_getD,List.getElem?_eq_getElem hi]
  cases hb:d[i] with
  | true=>simp
  | false=>exact absurd (hb ▸ List.getElem_mem hi) h
 ·intro h hm
  obtain ⟨i,hi,e⟩:=List.getElem_of_mem hm
  have:=h i hi
  unfold MH at this
  rw [List.getD_eq_getElem?_getD,List.getElem?_eq_getElem hi,e] at this
  simp at this
theorem OY {h:Hp}:(KC h h.ground.length).contains false=false ↔ ∀ i,i < h.ground.length -> h.sp.Reach i:=by
 rw [Qm,JX]
 exact ⟨fun hh i hi=>TH _ i hi (hh i hi),fun hh i hi=>iZ _ i hi (WQ (hh i hi))⟩
theorem Rs {h:Hp}:(Ev h (h.ground.length+1)).contains false=false ↔ ∀ i,i < h.ground.length -> h.sp.Reach i:=by
 rw [Qm,GQ]
 exact ⟨fun hh i hi=>QY _ i hi (hh i hi),fun hh i hi=>Zy _ i hi (Zz (WQ (hh i hi)))⟩
theorem Ry (h:Hp):Gy h=validate h:=by
 unfold validate Gy
 have:(Ev h (h.ground.length+1)).contains false=(KC h h.ground.length).contains false:=by
  cases h1:(KC h h.ground.length).contains false with
  | false=>exact Rs.2 (OY.1 h1)
  | true =>
   cases h2:(Ev h (h.ground.length+1)).contains false with
   | true=>rfl
   | false=>rw [OY.2 (Rs.1 h2)] at h1;cases h1
 rw [this]
structure VH (h:Hp):Prop where
 n1:1 <= h.ground.length
 n5:h.ground.length <= 5
 len:h.links.length=h.ground.length
 row:∀ i,i < h.ground.length -> (Gn h i).length=h.ground.length
 gb:∀ i,i < h.ground.length -> 0 <= Ow h i /\ Ow h i <= 2
 dg:∀ i,i < h.ground.length -> Iy h i i=0
 lb:∀ i k,i < h.ground.length -> k < h.ground.length -> 0 <= Iy h i k /\ Iy h i k <= 2
 sy:∀ i k,i < h.ground.length -> k < h.ground.length -> Iy h i k=Iy h k i
 re:∀ i,i < h.ground.length -> h.sp.Reach i
theorem H6 {h:Hp}:FR h=true ↔ (1 <= h.ground.length /\ h.ground.length <= 5 /\ h.links.length=h.ground.length) /\ (∀ i,i < h.ground.length -> (Gn h i).length=h.ground.length) /\ ∀ i,i < h.ground.length -> (0 <= Ow h i /\ Ow h i <= 2) /\ Iy h i i=0 /\ ∀ k,k < h.ground.length -> (0 <= Iy h i k /\ Iy h i k <= 2) /\ Iy h i k=Iy h k i:=by
 simp only [FR,rowOk,Gh,Ef,Km,Bool.and_eq_true,decide_eq_true_eq,beq_iff_eq,List.all_eq_true,List.mem_range,and_assoc]
theorem Vq {h:Hp} (e:validate h=0):VH h:=by
 unfold validate at e
 split at e
 ·rename_i ha
  split at e
  ·cases e
  ·rename_i hb
   obtain ⟨⟨a1,a2,a3⟩,a4,a5⟩:=H6.1 ha
   exact ⟨a1,a2,a3,a4,fun i hi=>(a5 i hi).1,fun i hi=>(a5 i hi).2.1,fun i k hi hk=>((a5 i hi).2.2 k hk).1,fun i k hi hk=>((a5 i hi).2.2 k hk).2,OY.1 (by simpa using hb)⟩
 ·cases e
theorem VH.ok {h:Hp} (v:VH h):h.sp.Ok:=⟨fun i k hi hk=>(v.lb i k hi hk).1,v.sy,v.dg,fun i hi=>(v.gb i hi).1,v.re⟩
theorem VH.get {h:Hp} (v:VH h) {i:Nat} (hi:i < h.ground.length):h.links[i]?=some (Gn h i):=by
 unfold Gn
 rw [List.getD_eq_getElem?_getD,List.getElem?_eq_getElem (by rw [v.len];exact hi)];rfl
theorem VH.qJ {h:Hp} (v:VH h) {i k:Nat} (hi:i < h.ground.length) (hk:k < h.ground.length):(Gn h i)[k]?=some (Iy h i k):=by
 unfold Iy
 rw [List.getD_eq_getElem?_getD (l:=Gn h i),List.getElem?_eq_getElem (by rw [v.row i hi];exact hk)];rfl
theorem NP {h:Hp} {i:Nat} (hi:i < h.ground.length):h.ground[i]?=some (Ow h i):=by
 unfold Ow
 rw [List.getD_eq_getElem?_getD,List.getElem?_eq_getElem hi];rfl
theorem Ap {a:List Int} {i:Nat} (hi:i < a.length):a[i]?=some (Az a i):=by
 unfold Az
 rw [List.getD_eq_getElem?_getD,List.getElem?_eq_getElem hi];rfl
theorem Ro {n:Nat} {f:Nat -> Int} {i:Nat} (hi:i < n):Az ((List.range n).map f) i=f i:=by
 unfold Az
 simp [List.getD_eq_getElem?_getD,hi]
theorem N8 {n:Nat} {a:List Int} {f:Nat -> Int} (hl:a.length=n) (h:∀ i,i < n -> Az a i=f i):a=(List.range n).map f:=by
 apply List.ext_getElem
 ·simp [hl]
 ·intro i h1 h2
  have:=h i (by omega)
  unfold Az at this
  rw [List.getD_eq_getElem?_getD,List.getElem?_eq_getElem h1] at this
  simpa using this
theorem sD {n:Nat} {a b:List Int} (ha:a.length=n) (hb:b.length=n) (h:∀ i,i < n -> Az a i=Az b i):a=b :=
 (N8 ha h).trans (N8 hb fun _ _=>rfl).symm
theorem BX {a:List Int} {i j:Nat} {x:Int} (hi:i < a.length):Az (a.set i x) j=if j=i then x else Az a j:=by
 unfold Az
 rw [List.getD_eq_getElem?_getD,List.getElem?_set,List.getD_eq_getElem?_getD]
 by_cases e:i=j
 ·subst e;simp [hi]
 ·rw [if_neg e,if_neg (Ne.symm e)]
theorem VH.om {h:Hp} (v:VH h) {i:Nat} (hi:i < h.ground.length):1 <= h.sp.lim i:=aP v.ok hi
theorem VH.jd {h:Hp} (v:VH h) {i:Nat} (hi:i < h.ground.length):h.sp.lim i <= 12:=by
 have h1:=(v.gb i hi).2
 have h2:sm (h.sp.l i) h.sp.n <= sm (fun _=>2) h.sp.n:=LC fun k hk=>(v.lb i k hi hk).2
 rw [JA] at h2
 have h3:=v.n5
 have:(h.sp.n:Int) <= 5:=by show (h.ground.length:Int) <= 5;omega
 unfold SP.lim
 have:h.sp.g i=Ow h i:=rfl
 omega
end Go.Ab.Heap
namespace Go.Ab.Heap
def QC (h:Hp) (c:List Int) (i:Nat) (k:Int):List Int:=(List.range h.ground.length).map fun j=>Az c j - (if j=i then k * h.sp.lim i else 0)+k * Iy h i j
structure GZ (h:Hp) (a c t:List Int):Prop where
 lc:c.length=h.ground.length
 lt:t.length=h.ground.length
 le:h.sp.Legal (Az a) (Az t)
 eq:∀ i,i < h.ground.length -> Az c i=h.sp.aQ (Az a) (Az t) i
 c0:∀ i,i < h.ground.length -> 0 <= Az c i
theorem YB {n i:Nat} {x:Int} (hi:i < n):Az (List.replicate n x) i=x:=by
 unfold Az
 rw [List.getD_eq_getElem?_getD,List.getElem?_replicate,if_pos hi];rfl
theorem GZ.start {h:Hp} {a:List Int} (hl:a.length=h.ground.length) (h0:∀ i,i < h.ground.length -> 0 <= Az a i):GZ h a a (List.replicate h.ground.length 0) where
 lc:=hl
 lt:=by simp
 le:=KN (fun _ _=>rfl) (fun i hi=>(YB hi).symm) Z6
 eq:=fun i hi=>by
  unfold SP.aQ
  rw [Tc (s:=h.sp) (u:=Az (List.replicate h.ground.length 0)) (v:=fun _=>0) (fun j hj=>YB hj) hi,ji];omega
 c0:=h0
theorem oz (h:Hp) (v:VH h) {i:Nat} (hi:i < h.ground.length) (k:Int) {j:Nat} (hj:j < h.ground.length):h.sp.OG (fun q=>if q=i then k else 0) j=(if j=i then k * h.sp.lim i else 0) - k * Iy h i j:=by
 rw [jk]
 have e:sm (fun q=>h.sp.l j q * (if q=i then k else 0)) h.sp.n=k * Iy h i j:=by
  have e1:(fun q=>h.sp.l j q * (if q=i then k else 0))=fun q=>if q=i then k * Iy h j q else 0:=by
   funext q
   split
   ·rw [Int.mul_comm];rfl
   ·simp
  rw [e1]
  have:∀ m,sm (fun q=>if q=i then k * Iy h j q else 0) m=if i < m then k * Iy h j i else 0:=by
   intro m
   induction m with
   | zero=>simp [sm]
   | succ m ih =>
    simp only [sm]
    rw [ih]
    by_cases e:m=i
    ·subst e;simp
    ·rw [if_neg e]
     by_cases e2:i < m
     ·rw [if_pos e2,if_pos (by omega)];omega
     ·rw [if_neg e2,if_neg (by omega)];omega
  rw [this,if_pos (show i < h.sp.n from hi),v.sy j i hj hi]
 rw [e]
 split
 ·rename_i e;subst e;rw [Int.mul_comm]
 ·simp
theorem iK {h:Hp} {c:List Int} {i:Nat} {k:Int}:(QC h c i k).length=h.ground.length:=by simp [QC]
theorem Zp {h:Hp} {c:List Int} {i j:Nat} {k:Int} (hj:j < h.ground.length):Az (QC h c i k) j=Az c j - (if j=i then k * h.sp.lim i else 0)+k * Iy h i j:=Ro hj
theorem iJ {h:Hp} (v:VH h) {c:List Int} {i j:Nat} {k:Int} (hi:i < h.ground.length) (hj:j < h.ground.length):Az (QC h c i k) j=h.sp.aQ (Az c) (fun q=>if q=i then k else 0) j:=by
 rw [Zp hj]
 unfold SP.aQ
 rw [oz h v hi k hj];omega
theorem GZ.step {h:Hp} (v:VH h) {a c t:List Int} (I:GZ h a c t) {i:Nat} (hi:i < h.ground.length) {k:Int} (h0:0 <= k) (hk:k * h.sp.lim i <= Az c i):GZ h a (QC h c i k) (t.set i (Az t i+k)):=by
 have et:∀ j,Az (t.set i (Az t i+k)) j=Az t j+(if j=i then k else 0):=fun j=>by
  rw [BX (by rw [I.lt];exact hi)]
  split
  ·rename_i e;subst e;rfl
  ·omega
 refine ⟨iK,by simp [I.lt],?_,fun j hj=>?_,fun j hj=>?_⟩
 ·refine KN (fun _ _=>rfl) (fun j hj=>(et j).symm) (Z7 I.le (t':=fun j=>if j=i then k else 0) ?_)
  exact KN (fun j hj=>I.eq j hj) (fun _ _=>rfl) (eX v.ok (a:=Az c) hi h0 hk (aP v.ok hi))
 ·rw [iJ v hi hj]
  unfold SP.aQ
  rw [I.eq j hj]
  unfold SP.aQ
  rw [Tc (s:=h.sp) (v:=fun q=>Az t q+if q=i then k else 0) (fun q _=>et q) hj,aT];omega
 ·rw [Zp hj]
  have h1:=I.c0 j hj
  have h2:=Int.mul_nonneg h0 (v.lb i j hi hj).1
  split
  ·rename_i e;subst e;omega
  ·omega
theorem GZ.sum {h:Hp} (v:VH h) {a c t:List Int} (I:GZ h a c t):sm (Az c) h.ground.length <= sm (Az a) h.ground.length:=by
 rw [Ci I.eq]
 exact jg v.ok I.le.1
theorem GZ.bd {h:Hp} (v:VH h) {a c t:List Int} (I:GZ h a c t) (h0:∀ i,i < h.ground.length -> 0 <= Az a i) {A:Int} (hA:sm (Az a) h.ground.length <= A):∀ i,i < h.ground.length -> 0 <= Az t i /\ Az t i <= h.ground.length * A:=fun i hi =>
 ⟨I.le.1 i hi,often v.ok (a:=Az a) (t:=Az t) I.le.1 h0 hA (fun j hj=>by have:=I.c0 j hj;rw [I.eq j hj] at this;exact this) i hi⟩
theorem GZ.cb {h:Hp} (v:VH h) {a c t:List Int} (I:GZ h a c t) {A:Int} (hA:sm (Az a) h.ground.length <= A):∀ i,i < h.ground.length -> 0 <= Az c i /\ Az c i <= A:=fun i hi =>
 ⟨I.c0 i hi,Int.le_trans (J9 (f:=Az c) (n:=h.ground.length) I.c0 hi) (Int.le_trans (I.sum v) hA)⟩
def I8 (h:Hp) (c:List Int):Prop:=∀ i,i < h.ground.length -> Az c i < h.sp.lim i
theorem GZ.tN {h:Hp} {a c t:List Int} (I:GZ h a c t) (hc:I8 h c):h.sp.Stl (Az a) (Az t) :=
 ⟨⟨I.le.1,fun i hi=>by rw [<- I.eq i hi];exact hc i hi⟩,I.le⟩
def WC (h:Hp) (a t:List Int):Nat:=(h.ground.length * (h.ground.length * sm (Az a) h.ground.length) - sm (Az t) h.ground.length).toNat
theorem QO {t:List Int} {n i:Nat} {x:Int} (hl:t.length=n) (hi:i < n):sm (Az (t.set i x)) n=sm (Az t) n+(x - Az t i):=by
 have:∀ m,m <= n -> sm (Az (t.set i x)) m=sm (Az t) m+if i < m then x - Az t i else 0:=by
  intro m
  induction m with
  | zero=>intro _;simp [sm]
  | succ m ih =>
   intro hm
   simp only [sm]
   rw [ih (by omega),BX (by omega)]
   by_cases e:m=i
   ·subst e;rw [if_pos rfl,if_neg (by omega),if_pos (by omega)];omega
   ·rw [if_neg e]
    by_cases e2:i < m
    ·rw [if_pos e2,if_pos (by omega)];omega
    ·rw [if_neg e2,if_neg (by omega)];omega
 rw [this n (Nat.le_refl _),if_pos hi]
theorem GZ.uU {h:Hp} (v:VH h) {a c t:List Int} (I:GZ h a c t) (h0:∀ i,i < h.ground.length -> 0 <= Az a i):sm (Az t) h.ground.length <= h.ground.length * (h.ground.length * sm (Az a) h.ground.length):=by
 have:=LC (f:=Az t) (g:=fun _=>h.ground.length * sm (Az a) h.ground.length) (n:=h.ground.length) fun i hi=>(I.bd v h0 (Int.le_refl _) i hi).2
 rwa [JA] at this
theorem QN {h:Hp} (v:VH h) {a c t:List Int} (I:GZ h a c t) (h0:∀ i,i < h.ground.length -> 0 <= Az a i) {i:Nat} (hi:i < h.ground.length) {k:Int} (h1:1 <= k) (hk:k * h.sp.lim i <= Az c i):WC h a (t.set i (Az t i+k)) < WC h a t:=by
 have h2:=(I.step v hi (by omega) hk).uU v h0
 have h3:=QO (x:=Az t i+k) I.lt hi
 unfold WC
 omega
theorem iR {h:Hp} (v:VH h) {a:List Int} (h0:∀ i,i < h.ground.length -> 0 <= Az a i):∀ (m:Nat) {c t:List Int},GZ h a c t -> WC h a t <= m -> ∃ c t,GZ h a c t /\ I8 h c
 | m,c,t,I,hm=>by
  by_cases hc:I8 h c
  ·exact ⟨c,t,I,hc⟩
  ·simp only [I8,Classical.not_forall] at hc
   obtain ⟨i,hi,hlt⟩:=hc
   have hk:(1:Int) * h.sp.lim i <= Az c i:=by omega
   have h2:=QN v I h0 hi (Int.le_refl _) hk
   match m with
   | 0=>omega
   | m+1=>exact iR v h0 m (I.step v hi (by omega) hk) (by omega)
open Classical in
noncomputable def LY (h:Hp) (a:List Int):List Int:=if e:∃ t:List Int,t.length=h.ground.length /\ h.sp.Stl (Az a) (Az t) then e.choose else []
noncomputable def Ua (h:Hp) (a:List Int):List Int:=(List.range h.ground.length).map (h.sp.aQ (Az a) (Az (LY h a)))
theorem GZ.done {h:Hp} {a c t:List Int} (I:GZ h a c t) (hc:I8 h c):Ua h a=c /\ LY h a=t:=by
 have ht:LY h a=t:=by
  have e:∃ t:List Int,t.length=h.ground.length /\ h.sp.Stl (Az a) (Az t):=⟨t,I.lt,I.tN hc⟩
  have hd:LY h a=e.choose:=by unfold LY;rw [dif_pos e]
  rw [hd]
  exact sD e.choose_spec.1 I.lt fun i hi=>Yc e.choose_spec.2 (I.tN hc) i hi
 refine ⟨?_,ht⟩
 unfold Ua
 rw [ht]
 exact (N8 I.lc I.eq).symm
structure sO (h:Hp) (a:List Int):Prop where
 len:a.length=h.ground.length
 nn:∀ i,i < h.ground.length -> 0 <= Az a i
theorem MZ {h:Hp} (v:VH h) {a:List Int} (ha:sO h a):GZ h a (Ua h a) (LY h a) /\ I8 h (Ua h a):=by
 obtain ⟨c,t,I,hc⟩:=iR v ha.nn _ (GZ.start ha.len ha.nn) (Nat.le_refl _)
 obtain ⟨e1,e2⟩:=I.done hc
 rw [e1,e2]
 exact ⟨I,hc⟩
def sK (h:Hp) (a b:List Int):List Int:=(List.range h.ground.length).map fun i=>Az a i+Az b i
theorem dD {h:Hp} {a b:List Int} {i:Nat} (hi:i < h.ground.length):Az (sK h a b) i=Az a i+Az b i:=Ro hi
theorem mZ {h:Hp} {a b:List Int} (ha:sO h a) (hb:sO h b):sO h (sK h a b):=⟨by simp [sK],fun i hi=>by rw [dD hi];have:=ha.nn i hi;have:=hb.nn i hi;omega⟩
end Go.Ab.Heap
namespace Go.Ab.Heap
abbrev Mat:=Nat -> Nat -> Int
def elim (M:Mat):Mat:=fun i j=>M 0 0 * M (i+1) (j+1) - M 0 (j+1) * M (i+1) 0
inductive Vh (n:Nat) (M:Mat):Nat -> Prop
 | ground {i:Nat}:i < n -> 0 < sm (M i) n -> Vh n M i
 | link {i k:Nat}:i < n -> k < n -> i ≠ k -> Vh n M k -> M i k < 0 -> Vh n M i
structure KM (n:Nat) (M:Mat):Prop where
 off:∀ i j,i < n -> j < n -> i ≠ j -> M i j <= 0
 row:∀ i,i < n -> 0 <= sm (M i) n
 re:∀ i,i < n -> Vh n M i
theorem oN {a b A B:Int} (h1:-A <= a) (h2:a <= A) (h3:-B <= b) (h4:b <= B):-(A * B) <= a * b /\ a * b <= A * B:=by
 have p1:0 <= (A - a) * (B - b):=Int.mul_nonneg (by omega) (by omega)
 have p2:0 <= (A+a) * (B+b):=Int.mul_nonneg (by omega) (by omega)
 have p3:0 <= (A - a) * (B+b):=Int.mul_nonneg (by omega) (by omega)
 have p4:0 <= (A+a) * (B - b):=Int.mul_nonneg (by omega) (by omega)
 simp only [Int.sub_mul,Int.mul_sub,Int.add_mul,Int.mul_add] at p1 p2 p3 p4
 omega
end Go.Ab.Heap
set_option linter.all false
namespace Go.Ab.Heap
open Go Go.Ab
abbrev GX (h:Hp):DV:=.agg [.list (h.links.map ints),ints h.ground]
theorem MB {ok:Nat -> Prop} {Cv:DV -> Prop} {M:Nat -> Nat × Option Au} {t g n:Nat} {blk:Au} {l:List DV} (hM:M t=(g,some blk)) (hst:ok blk.st) (hl:l.length=n) (he:∀ d ∈ l,d.cells.length=blk.C8)
  (hc:Ca (Data ok Cv M) blk.cells (flat l)):Data ok Cv M (.sl t g 0 n) (.list l):=by
 have hlen:=FM hc
 refine .sl t g 0 n blk l (fun j=>blk.cells.getD j .dead) hM hst hl he (fun j c hj=>?_) fun j c hj=>?_
 ·have hj2:j < blk.cells.length:=by rw [hlen];exact (List.getElem?_eq_some_iff.1 hj).1
  simp [hj2]
 ·have hj2:j < blk.cells.length:=by rw [hlen];exact (List.getElem?_eq_some_iff.1 hj).1
  exact IG hc j _ c (by simp [hj2]) hj
theorem Xj {P:Program} {Cv:DV -> Prop} {S:St} {x:Exit} {t:Nat} {ty:TypeId} {s1:SV} {d:DV} (he:x=.normal \/ x=.ret) (hs:Dr P ty (S.look (.tmp t))=some s1) (h1:Data (fun _=>True) Cv S.M s1 d):PU P Cv [.cell t ty] (.one (.dv d)) x S:=by
 refine ⟨he,[s1],[.dv d],by simp [DX,hs],⟨h1,trivial⟩,.inl fun r hr=>⟨d,by simpa using hr⟩,rfl⟩
theorem ZT {ok:Nat -> Prop} {Cv:DV -> Prop} {M:Nat -> Nat × Option Au} {t g n:Nat} {e:TypeId} {L:List Bool} (hM:M t=(g,some (SI e L))) (hst:ok 0) (hl:L.length=n) (hd:∀ q,Cv (.bool q)):Data ok Cv M (.sl t g 0 n) (.list (L.map DV.bool)):=by
 have hf:flat (L.map DV.bool)=L.map DV.bool:=GU fun _=>rfl
 refine NW hM hst (by simpa using hl) (fun d hd'=>?_) ?_ fun c hc'=>?_
 ·obtain ⟨q,_,rfl⟩:=List.mem_map.1 hd';rfl
 ·rw [hf];simp
 ·rw [hf] at hc';obtain ⟨q,_,rfl⟩:=List.mem_map.1 hc';exact hd q
theorem O5 {a b:List Int} (h:a.length ≠ b.length):(a == b)=false:=by
 rw [beq_eq_false_iff_ne];intro e;rw [e] at h;exact h rfl
theorem Uh {a b:List Int} {i:Nat} {x y:Int} (h1:a[i]?=some x) (h2:b[i]?=some y) (h:x ≠ y):(a == b)=false:=by
 rw [beq_eq_false_iff_ne];intro e;rw [e,h2] at h1;exact h (Option.some.inj h1).symm
theorem QW {a b:List Int} (hl:a.length=b.length) (h:∀ j,j < a.length -> a[j]?=b[j]?):(a == b)=true:=by
 rw [beq_iff_eq]
 apply List.ext_getElem? 
 intro j
 rcases Nat.lt_or_ge j a.length with h1 | h1
 ·exact h j h1
 ·rw [List.getElem?_eq_none h1,List.getElem?_eq_none (by omega)]
end Go.Ab.Heap
