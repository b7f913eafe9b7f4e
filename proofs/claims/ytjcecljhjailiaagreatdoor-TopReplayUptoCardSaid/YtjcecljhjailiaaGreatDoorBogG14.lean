/- BogIt, MossL0, MossL1, MossT, BogM1, BogM2, BogM3, BogM4. -/
import Derived.Test.YtjcecljhjailiaaGreatDoorBogG11
import Derived.RangeFuncBox
import Derived.RangeFuncLeaves
import Derived.Shelf.Abstract
import Derived.Shelf.RegionOpen
import Derived.OwnWalkIn
import Derived.TacticsInMore
import Derived.LoopNIn
import Derived.LoopIn
import Derived.Test.YtjcecljhjailiaaGreatDoorProg
import Derived.Test.YtjcecljhjailiaaGreatDoorBogG11
import Derived.Test.YtjcecljhjailiaaGreatDoorBogG12
import Derived.Test.YtjcecljhjailiaaGreatDoorBogG07
set_option linter.all false
namespace Go.Proofs
open Go.RowKit Go.Shelf Go.Ab
attribute [local go_sem] Oper.semAt_some
theorem uH {w:World} {X:Nat -> Prop} {x y z:Int} {v:Value} (h:Bn w X (.Cy [.int .i64 x,.int .i64 y,.int .i64 z]) v) :
  ∃ b off,v=.pointer (some ⟨b,off,none⟩) /\ w.cell? ⟨b,off,none⟩=some (.int .i64 x) /\ w.cell? ⟨b,off+1,none⟩=some (.int .i64 y) /\ w.cell? ⟨b,off+2,none⟩=some (.int .i64 z):=by
 cases h with
 | Cy _ b off u h1 h2 h3 h4 =>
  refine ⟨b,off,rfl,?_,?_,?_⟩
  ·have:=h4 0 _ rfl;have h5:=h3 0 _ rfl;generalize u 0=q at this h5;cases this;simpa using h5
  ·have:=h4 1 _ rfl;have h5:=h3 1 _ rfl;generalize u 1=q at this h5;cases this;simpa using h5
  ·have:=h4 2 _ rfl;have h5:=h3 2 _ rfl;generalize u 2=q at this h5;cases this;simpa using h5
theorem wrap_small {q:Int} (h:-9223372036854775808 <= q /\ q < 9223372036854775808):IntKind.i64.wrap q=q:=by
 simp only [IntKind.wrap,IntKind.bits,IntKind.signed]
 simp only [Bool.true_and,decide_eq_true_eq,ge_iff_le,Nat.reduceSub,Int.reducePow]
 split<;>omega
def T9 (c:Nat) (k:Nat):List DV:=[.int .i64 k,.agg [.int .i64 ((k / c:Nat):Int),.int .i64 ((k % c:Nat):Int)]]
set_option maxRecDepth 100000 in
set_option maxHeartbeats 4000000 in
theorem Tryz.squares1_in (l b off:Nat) (r c N:Nat) (hN:r * c=N) (hr:1 <= r /\ r <= 6) (hc:1 <= c /\ c <= 6) (J:Nat -> World -> Prop) (hD:∀ k W,J k W -> J k W.drew)
  (hA:∀ k W,J k W -> W.cell? ⟨b,off,none⟩=some (.int .i64 (r:Int)) /\ W.cell? ⟨b,off+1,none⟩=some (.int .i64 (c:Int)))
  (hY:∀ k W1,k < N -> J k W1 -> YieldAt Fence.wide 0 Tryz.prog l #[.int .i64 (k:Int),.agg #[.int .i64 ((k / c:Nat):Int),.int .i64 ((k % c:Nat):Int)]] W1 fun e W'=>e=.returned (.bool true) /\ J (k+1) W')
  (W:World) (h0:J 0 W) :
  CallsIn Fence.wide 0 Tryz.prog 231 #[.func (.yield l) #[] #[],.pointer (some ⟨b,off,none⟩)] W fun e W'=>(∃ v,e=.returned v) /\ J N W':=by
 have hmix:Tryz.prog.follows .mixedOrders=true:=by kernel_rfl
 obtain ⟨hcr,hcc⟩:=hA 0 W h0
 have hrc:N <= 36:=hN ▸ Nat.le_trans (Nat.mul_le_mul hr.2 hc.2) (by decide)
 refine callsIn_of_wp Tryz.func231 rfl trivial ?_ rfl
 simp only [Tryz.ntmps231,List.size_toArray,List.length_cons,List.length_nil,Nat.reduceAdd,Nat.reduceSub,Array.replicate_succ,Array.replicate_zero,List.push_toArray,List.append_toArray,List.nil_append,List.cons_append]
 have hmul:(r:Int) * (c:Int)=(N:Int):=by rw [<- hN,Int.natCast_mul]
 gi_wp2
 clear hmul
 gi_loopw [9] (fun i wr=>∃ k:Nat,k <= N /\ i=.int .i64 (k:Int) /\ J k wr)
  (fun i _=>N - (intOf i).toNat)
 case atStart=>exact ⟨0,Nat.zero_le _,rfl,h0⟩
 case round =>
  obtain ⟨k,hk,rfl,hJs⟩:=hrel
  obtain ⟨hcr',hcc'⟩:=hA k wr hJs
  by_cases hlt:k < N
  ·obtain ⟨fn,tmps,assign,body,hy,hR⟩:=hY k wr.drew hlt (hD k wr hJs)
   obtain ⟨q,hq⟩:∃ q:Int,((k / c:Nat):Int)=q:=⟨_,rfl⟩
   obtain ⟨p,hp⟩:∃ p:Int,((k % c:Nat):Int)=p:=⟨_,rfl⟩
   have hkb:k / c <= 36:=Nat.le_trans (Nat.div_le_self _ _) (by omega)
   have hpb:k % c <= 36:=Nat.le_trans (Nat.mod_le _ _) (by omega)
   have q1:(k:Int) / (c:Int)=q:=by rw [<- hq];simp
   have q2:(k:Int).tdiv (c:Int)=q:=by rw [<- hq];simp
   have p1:(k:Int) % (c:Int)=p:=by rw [<- hp];simp
   have p2:(k:Int).tmod (c:Int)=p:=by rw [<- hp,Int.tmod_eq_emod_of_nonneg (by omega)];simp
   have q3:wrap64 q=q:=by generalize k / c=z at *;subst hq;unfold wrap64;omega
   have q4:IntKind.i64.wrap q=q:=wrap_small (by generalize k / c=z at *;omega)
   have p3:wrap64 p=p:=by generalize k % c=z at *;subst hp;unfold wrap64;omega
   have p4:IntKind.i64.wrap p=p:=wrap_small (by generalize k % c=z at *;omega)
   rw [hq,hp] at hy
   clear hq hp hkb hpb
   have kG:Fence.wide.depth=none:=rfl
   have hc0:¬ (c:Int)=0:=by omega
   gi_wp2
   gi_region_with_o (refine hR.mono ?_;rintro e W3 ⟨rfl,hJ3⟩)
   all_goals gi_wp2
   all_goals go_roundw
   all_goals first
    | exact ⟨k+1,by omega,by simp,hJ3⟩
    | (simp [intOf];omega)
  ·obtain rfl:k=N:=by omega
   gi_wp2
   go_end0
   exact ⟨⟨_,rfl⟩,hJs⟩
theorem Tryz.squares_seq (r c:Nat) (nd:Int) (hr:1 <= r /\ r <= 6) (hc:1 <= c /\ c <= 6):sS Tryz.prog 231 [.Cy [.int .i64 (r:Int),.int .i64 (c:Int),.int .i64 nd]] ((List.range (r * c)).map (T9 c)):=by
 refine ⟨H9 Tryz.func231 rfl (by kernel_rfl),fun x hx=>?_,fun l lb J W hJ hA hY h0=>?_⟩
 ·obtain ⟨k,_,rfl⟩:=List.mem_map.1 hx;rfl
 have hl:∀ k W,J k W -> ∃ v,lb=#[v] /\ Bn W (fun _=>False) (.Cy [.int .i64 (r:Int),.int .i64 (c:Int),.int .i64 nd]) v:=fun k W hk=>by
  obtain ⟨h1,h2⟩:=hA k W hk
  have h3:=h2 0 _ rfl
  obtain ⟨v,rfl⟩:∃ v,lb=#[v]:=by
   match lb,h1 with
   | ⟨[v]⟩,_=>exact ⟨v,rfl⟩
   | ⟨[]⟩,h=>simp at h
   | ⟨_ :: _ :: _⟩,h=>simp at h
  exact ⟨v,rfl,h3⟩
 obtain ⟨v,rfl,hv⟩:=hl 0 W h0
 obtain ⟨b,off,rfl,_⟩:=uH hv
 have:=Tryz.squares1_in l b off r c (r * c) rfl hr hc J (fun k W hk=>hJ k W _ none hk ⟨rfl,rfl,rfl,Nat.le_refl _,fun _ _ _=>rfl⟩ (fun r e=>by cases e))
  (fun k W hk=>by
   obtain ⟨v',e,h⟩:=hl k W hk
   simp only [Array.mk.injEq,List.cons.injEq,and_true] at e
   subst e
   obtain ⟨b',off',e2,h1,h2,_⟩:=uH h
   simp only [Value.pointer.injEq,Option.some.injEq,Addr.mk.injEq,and_true] at e2
   obtain ⟨rfl,rfl⟩:=e2
   exact ⟨h1,h2⟩)
  (fun k W1 hk hj=>by
   have:=hY k (T9 c k) W1 (by simp [hk]) hj
   simpa [T9,DV.vals,DV.val] using this) W h0
 simpa using this
end Go.Proofs
namespace Go.Ab.Ck
open Go.Ab
def pc (k x:Nat):Nat:=(List.range k).countP fun i=>x.testBit i
abbrev dY (x:Nat):Nat:=pc 64 x
theorem vI (a b x:Nat):pc (a+b) x=pc a x+pc b (x / 2 ^ a):=by
 unfold pc
 rw [List.range_add,List.countP_append,List.countP_map]
 congr 1
 apply List.countP_congr
 intro i _
 simp only [Function.comp,Nat.testBit_div_two_pow,Nat.add_comm]
theorem vH (a x:Nat):pc a (x % 2 ^ a)=pc a x:=by
 unfold pc
 apply List.countP_congr
 intro i hi
 have:=List.mem_range.1 hi
 simp [Nat.testBit_mod_two_pow,this]
def val:List Nat -> Nat
 | []=>0
 | b :: bs=>256 * val bs+b
theorem J8 {h l m k:Nat} (hl:l < 256) (hk:k < 256):(256 * h+l) &&& (256 * m+k)=256 * (h &&& m)+(l &&& k):=by
 apply Nat.eq_of_testBit_eq
 intro i
 have e:(256:Nat)=2 ^ 8:=rfl
 have h3:l &&& k < 2 ^ 8:=Nat.lt_of_le_of_lt Nat.and_le_left hl
 rw [Nat.testBit_and,e,Nat.testBit_two_pow_mul_add _ hl,Nat.testBit_two_pow_mul_add _ hk,Nat.testBit_two_pow_mul_add _ h3]
 split<;>simp
def t1 (b:Nat):Nat:=(b / 2 &&& 85)+(b &&& 85)
def t2 (b:Nat):Nat:=(b / 4 &&& 51)+(b &&& 51)
def t3 (b:Nat):Nat:=b / 16+b % 16
def S1 (m x:Nat):Nat:=(x / 2 &&& m)+(x &&& m)
def S2 (m x:Nat):Nat:=(x / 4 &&& m)+(x &&& m)
def S3 (m x:Nat):Nat:=(x+x / 16) &&& m
set_option maxRecDepth 100000 in
theorem low1:∀ l < 256,∀ q < 2,(128 * q+l / 2) &&& 85=l / 2 &&& 85:=by decide +kernel
set_option maxRecDepth 100000 in
theorem low2:∀ l < 256,∀ q < 4,(64 * q+l / 4) &&& 51=l / 4 &&& 51:=by decide +kernel
set_option maxRecDepth 100000 in
theorem Kt:∀ l < 256,t1 l < 256 /\ t2 (t1 l) < 256 /\ t2 (t1 l) % 16 <= 4 /\ t2 (t1 l) / 16 <= 4 /\ t3 (t2 (t1 l))=pc 8 l /\ pc 8 l <= 8:=by decide +kernel
theorem mo:∀ bs:List Nat,(∀ b ∈ bs,b < 256) -> S1 (val (List.replicate bs.length 85)) (val bs)=val (bs.map t1)
 | [],_=>rfl
 | l :: bs,hb=>by
  have hl:=hb l (by simp)
  have ih:=mo bs fun b h=>hb b (List.mem_cons_of_mem _ h)
  simp only [S1,List.length_cons,List.replicate_succ,val,List.map_cons] at ih ⊢
  generalize val bs=h at *
  generalize val (List.replicate bs.length 85)=m at *
  rw [J8 hl (by decide),show (256 * h+l) / 2=256 * (h / 2)+(128 * (h % 2)+l / 2) by omega,J8 (by omega) (by decide),low1 l hl _ (by omega),<- ih,t1]
  omega
theorem mh:∀ bs:List Nat,(∀ b ∈ bs,b < 256) -> S2 (val (List.replicate bs.length 51)) (val bs)=val (bs.map t2)
 | [],_=>rfl
 | l :: bs,hb=>by
  have hl:=hb l (by simp)
  have ih:=mh bs fun b h=>hb b (List.mem_cons_of_mem _ h)
  simp only [S2,List.length_cons,List.replicate_succ,val,List.map_cons] at ih ⊢
  generalize val bs=h at *
  generalize val (List.replicate bs.length 51)=m at *
  rw [J8 hl (by decide),show (256 * h+l) / 4=256 * (h / 4)+(64 * (h % 4)+l / 4) by omega,J8 (by omega) (by decide),low2 l hl _ (by omega),<- ih,t2]
  omega
theorem dJ:∀ bs:List Nat,(∀ b ∈ bs,b % 16 <= 4) -> val bs % 16 <= 4
 | [],_=>by decide
 | l :: bs,hb=>by
  have:=hb l (by simp)
  simp only [val];omega
theorem mg:∀ bs:List Nat,(∀ b ∈ bs,b < 256 /\ b % 16 <= 4 /\ b / 16 <= 4) -> S3 (val (List.replicate bs.length 15)) (val bs)=val (bs.map t3)
 | [],_=>rfl
 | l :: bs,hb=>by
  obtain ⟨hl,h1,h2⟩:=hb l (by simp)
  have ih:=mg bs fun b h=>hb b (List.mem_cons_of_mem _ h)
  have hm:=dJ bs fun b h=>(hb b (List.mem_cons_of_mem _ h)).2.1
  simp only [S3,List.length_cons,List.replicate_succ,val,List.map_cons] at ih ⊢
  generalize val bs=h at *
  generalize val (List.replicate bs.length 15)=m at *
  have e:256 * h+l+(256 * h+l) / 16=256 * (h+h / 16)+(16 * (h % 16)+l / 16+l):=by omega
  have e2:(16 * (h % 16)+l / 16+l) &&& 15=t3 l:=by
   rw [show (15:Nat)=2 ^ 4 - 1 from rfl,Nat.and_two_pow_sub_one_eq_mod,t3]
   omega
  rw [e,J8 (by omega) (by decide),e2,ih]
theorem dO {p0 p1 p2 p3 p4 p5 p6 p7 S d e:Nat} (h0:p0 <= 8) (h1:p1 <= 8) (h2:p2 <= 8) (h3:p3 <= 8) (h4:p4 <= 8) (h5:p5 <= 8) (h6:p6 <= 8) (h7:p7 <= 8)
  (hS:S=p0+256 * (p1+256 * (p2+256 * (p3+256 * (p4+256 * (p5+256 * (p6+256 * p7))))))) (hd:d=S+S / 256) (he:e=d+d / 65536):(e+e / 4294967296) % 128=p0+p1+p2+p3+p4+p5+p6+p7:=by
 have a1:S / 256=p1+256 * (p2+256 * (p3+256 * (p4+256 * (p5+256 * (p6+256 * p7))))):=by omega
 have a2:d=(p0+p1)+256 * (p1+p2)+65536 * ((p2+p3)+256 * (p3+p4)+65536 * ((p4+p5)+256 * (p5+p6)+65536 * ((p6+p7)+256 * p7))):=by omega
 clear a1 hd hS
 have a3:d / 65536=(p2+p3)+256 * (p3+p4)+65536 * ((p4+p5)+256 * (p5+p6)+65536 * ((p6+p7)+256 * p7)):=by omega
 have a4:e=(p0+p1+p2+p3)+256 * (p1+p2+p3+p4)+65536 * (p2+p3+p4+p5)+16777216 * (p3+p4+p5+p6)+4294967296 * ((p4+p5+p6+p7)+256 * (p5+p6+p7)+65536 * (p6+p7)+16777216 * p7):=by omega
 clear a2 a3 he
 have a5:e / 4294967296=(p4+p5+p6+p7)+256 * (p5+p6+p7)+65536 * (p6+p7)+16777216 * p7:=by omega
 omega
def bytes (x:Nat):List Nat:=[x % 256,x / 256 % 256,x / 65536 % 256,x / 16777216 % 256,x / 4294967296 % 256,x / 1099511627776 % 256,x / 281474976710656 % 256,x / 72057594037927936]
theorem dK (x:Nat):val (bytes x)=x:=by
 simp only [bytes,val];omega
theorem Yn (x:Nat) (hx:x < 18446744073709551616):dY x=(((bytes x).map (pc 8)).foldr (·+·) 0):=by
 have e:∀ y,pc 8 (y % 256)=pc 8 y:=fun y=>vH 8 y
 simp only [bytes,List.map_cons,List.map_nil,List.foldr_cons,List.foldr_nil,e]
 have s:∀ (k y:Nat),pc (8+k) y=pc 8 y+pc k (y / 256):=fun k y=>vI 8 k y
 have d:∀ a b:Nat,x / a / b=x / (a * b):=fun a b=>Nat.div_div_eq_div_mul _ _ _
 show pc (8+(8+(8+(8+(8+(8+(8+(8+0)))))))) x=_
 simp only [s,d,Nat.reduceMul]
 rfl
def trick (x:Nat):Nat :=
 let a:=S1 6148914691236517205 x
 let b:=S2 3689348814741910323 a
 let c:=S3 1085102592571150095 b
 let d:=c+c / 256
 let e:=d+d / 65536
 let f:=e+e / 4294967296
 f % 128
theorem iC:∀ L:List Nat,(∀ b ∈ L,b <= 68) -> val L <= val (List.replicate L.length 68)
 | [],_=>Nat.le_refl _
 | b :: L,h=>by
  have h1:=iC L fun c hc=>h c (List.mem_cons_of_mem _ hc)
  have h2:=h b (by simp)
  simp only [val,List.length_cons,List.replicate_succ];omega
theorem Vt (x:Nat) (hx:x < 18446744073709551616) :
  S1 6148914691236517205 x < 18446744073709551616 /\ S2 3689348814741910323 (S1 6148914691236517205 x) <= 4919131752989213764 ∧
  S3 1085102592571150095 (S2 3689348814741910323 (S1 6148914691236517205 x)) < 651061555542690057 /\ trick x=dY x:=by
 have hb:∀ b ∈ bytes x,b < 256:=by
  simp only [bytes,List.mem_cons,List.not_mem_nil,or_false]
  rintro b (rfl | rfl | rfl | rfl | rfl | rfl | rfl | rfl)<;>omega
 have h1:=mo (bytes x) hb
 rw [dK,show val (List.replicate (bytes x).length 85)=6148914691236517205 from by show val (List.replicate 8 85)=_;decide] at h1
 have hb1:∀ b ∈ (bytes x).map t1,b < 256:=by
  intro b hb'
  obtain ⟨l,hl,rfl⟩:=List.mem_map.1 hb'
  exact (Kt l (hb l hl)).1
 have h2:=mh _ hb1
 rw [show val (List.replicate ((bytes x).map t1).length 51)=3689348814741910323 from by show val (List.replicate 8 51)=_;decide,<- h1] at h2
 have hb2:∀ b ∈ ((bytes x).map t1).map t2,b < 256 /\ b % 16 <= 4 /\ b / 16 <= 4:=by
  intro b hb'
  obtain ⟨l',hl',rfl⟩:=List.mem_map.1 hb'
  obtain ⟨l,hl,rfl⟩:=List.mem_map.1 hl'
  obtain ⟨_,q1,q2,q3,_⟩:=Kt l (hb l hl)
  exact ⟨q1,q2,q3⟩
 have h3:=mg _ hb2
 rw [show val (List.replicate (((bytes x).map t1).map t2).length 15)=1085102592571150095 from by show val (List.replicate 8 15)=_;decide,<- h2] at h3
 have h4:(((bytes x).map t1).map t2).map t3=(bytes x).map (pc 8):=by
  rw [List.map_map,List.map_map]
  apply List.map_congr_left
  intro l hl
  exact (Kt l (hb l hl)).2.2.2.2.1
 rw [h4] at h3
 have hv:∀ L:List Nat,(∀ b ∈ L,b < 256) -> val L < 256 ^ L.length:=by
  intro L
  induction L with
  | nil=>intro _;decide
  | cons b L ih =>
   intro h
   have h5:=ih fun c hc=>h c (List.mem_cons_of_mem _ hc)
   have h6:=h b (by simp)
   simp only [val,List.length_cons,Nat.pow_succ];omega
 have v1:=hv _ hb1
 have v2:=iC _ fun b h=>(by have:=hb2 b h;omega:b <= 68)
 rw [show val (List.replicate (((bytes x).map t1).map t2).length 68)=4919131752989213764 from by show val (List.replicate 8 68)=_;decide] at v2
 rw [<- h1] at v1
 rw [<- h2] at v2
 have hp:=Yn x hx
 have hle:∀ b ∈ bytes x,pc 8 b <= 8:=fun l hl=>(Kt l (hb l hl)).2.2.2.2.2
 unfold trick
 simp only [h3,hp]
 simp only [bytes,List.map_cons,List.map_nil,List.foldr_cons,List.foldr_nil,val,List.length_cons,List.length_nil,List.mem_cons,List.not_mem_nil,or_false,forall_eq_or_imp,forall_eq] at *
 generalize pc 8 (x % 256)=p0 at *
 generalize pc 8 (x / 256 % 256)=p1 at *
 generalize pc 8 (x / 65536 % 256)=p2 at *
 generalize pc 8 (x / 16777216 % 256)=p3 at *
 generalize pc 8 (x / 4294967296 % 256)=p4 at *
 generalize pc 8 (x / 1099511627776 % 256)=p5 at *
 generalize pc 8 (x / 281474976710656 % 256)=p6 at *
 generalize pc 8 (x / 72057594037927936)=p7 at *
 refine ⟨by simpa using v1,v2,by omega,?_⟩
 rw [dO hle.1 hle.2.1 hle.2.2.1 hle.2.2.2.1 hle.2.2.2.2.1 hle.2.2.2.2.2.1 hle.2.2.2.2.2.2.1 hle.2.2.2.2.2.2.2 (by omega) rfl rfl]
 omega
end Go.Ab.Ck
namespace Go.Ab.Ck
open Go.Ab
end Go.Ab.Ck
namespace Go.Ab.Ck
open Go Go.Ab
structure Mw where
 rows:Int
 Xn:Int
 need:Int
abbrev dMw (m:Mw):DV:=.agg [i64 m.rows,i64 m.Xn,i64 m.need]
structure Mn where
 r:Nat
 c:Nat
 nd:Nat
abbrev yQ (n:Mn):DV:=.agg [i64 (n.r:Int),i64 (n.c:Int),i64 (n.nd:Int)]
structure Mn.Ok (n:Mn):Prop where
 r1:1 <= n.r
 r2:n.r <= 6
 c1:1 <= n.c
 c2:n.c <= 6
 n1:1 <= n.nd
 n2:n.nd <= 3
abbrev Mn.w (n:Mn):Mw:=⟨n.r,n.c,n.nd⟩
def Mn.N (n:Mn):Nat:=n.r * n.c
theorem Mn.Ok.N2 {n:Mn} (h:n.Ok):n.r * n.c <= 36:=Nat.mul_le_mul h.r2 h.c2
def full (n:Mn):Nat:=2 ^ (n.r * n.c) - 1
theorem NQ {n:Mn} (h:n.Ok):full n < 68719476736:=by
 have h1:2 ^ (n.r * n.c) <= 2 ^ 36:=Nat.pow_le_pow_right (by decide) h.N2
 have h2:0 < 2 ^ (n.r * n.c):=Nat.two_pow_pos _
 unfold full
 omega
def CO (n lo hi:Int):Bool:=decide (lo <= n) && decide (n <= hi)
def EX (m:Mw):Bool:=CO m.rows 1 6 && CO m.Xn 1 6 && CO m.need 1 3
def valid (m:Mw):Int:=if EX m then 0 else 1
theorem UO {m:Mw} (h:EX m=true):∃ n:Mn,n.Ok /\ m=n.w:=by
 obtain ⟨r,c,d⟩:=m
 simp only [EX,CO,Bool.and_eq_true,decide_eq_true_eq] at h
 refine ⟨⟨r.toNat,c.toNat,d.toNat⟩,⟨?_,?_,?_,?_,?_,?_⟩,?_⟩<;>simp only [Mw.mk.injEq]<;>omega
theorem aI {n:Mn} (h:n.Ok):EX n.w=true:=by
 obtain ⟨h1,h2,h3,h4,h5,h6⟩:=h
 simp only [EX,CO,Bool.and_eq_true,decide_eq_true_eq]
 omega
def Gd (p:Nat -> Bool):Nat -> Nat
 | 0=>0
 | k+1=>if p k then Gd p k ||| 2 ^ k else Gd p k
theorem JU (p:Nat -> Bool):∀ k i,(Gd p k).testBit i=(decide (i < k) && p i)
 | 0,i=>by simp [Gd]
 | k+1,i=>by
  simp only [Gd]
  have e:(decide (i < k+1))=(decide (i < k) || decide (i=k)):=by
   rw [Bool.eq_iff_iff];simp;omega
  split
  ·rename_i h
   rw [Nat.testBit_or,JU p k,Nat.testBit_two_pow,e]
   by_cases hi:k=i
   ·subst hi;simp [h]
   ·have:¬ i=k:=fun h=>hi h.symm
    simp [hi,this]
  ·rename_i h
   rw [JU p k,e]
   by_cases hi:i=k
   ·subst hi;simp [h]
   ·simp [hi]
theorem rZ (p:Nat -> Bool) (k:Nat):Gd p k < 2 ^ k:=by
 apply Nat.lt_pow_two_of_testBit
 intro i hi
 rw [JU]
 simp;omega
theorem U3 {p:Nat -> Bool} {k:Nat} (h:k <= 36):Gd p k < 68719476736:=Nat.lt_of_lt_of_le (rZ p k) (Nat.pow_le_pow_right (n:=2) (by decide) h)
def UD (n:Mn) (k:Nat):Nat:=if 0 < k / n.c then 0 ||| 2 ^ (k - n.c) else 0
def UC (n:Mn) (k:Nat):Nat:=if 0 < k % n.c then UD n k ||| 2 ^ (k - 1) else UD n k
def UA (n:Mn) (k:Nat):Nat:=if k % n.c+1 < n.c then UC n k ||| 2 ^ (k+1) else UC n k
def Sk (n:Mn) (k:Nat):Nat:=if k / n.c+1 < n.r then UA n k ||| 2 ^ (k+n.c) else UA n k
theorem Hl {n:Mn} {k:Nat} (hk:k < n.r * n.c) (hc:0 < n.c):k / n.c < n.r:=Nat.div_lt_of_lt_mul (by rw [Nat.mul_comm];exact hk)
theorem Gu {n:Mn} {k:Nat} (hc:0 < n.c) (h:k / n.c+1 < n.r):k+n.c < n.r * n.c:=by
 have h1:=Nat.div_add_mod k n.c
 have h2:=Nat.mod_lt k hc
 have h3:=Nat.mul_le_mul_left n.c (show k / n.c+2 <= n.r by omega)
 rw [Nat.mul_comm n.r,Nat.mul_add] at *
 omega
theorem KE {n:Mn} {k:Nat} (hk:k < n.r * n.c) (hc:0 < n.c) (h:k % n.c+1 < n.c):k+1 < n.r * n.c:=by
 have h1:=Nat.div_add_mod k n.c
 have h3:=Nat.mul_le_mul_left n.c (show k / n.c+1 <= n.r from Hl hk hc)
 rw [Nat.mul_comm n.r,Nat.mul_add] at *
 omega
theorem yZ {n:Mn} {k:Nat} (h:0 < k / n.c):n.c <= k:=(Nat.div_pos_iff.1 h).2
theorem aR {n:Mn} {k:Nat} (h:0 < k % n.c):1 <= k:=by
 rcases Nat.eq_zero_or_pos k with h1 | h1
 ·subst h1;simp at h
 ·exact h1
theorem mX {n:Mn} (h:n.Ok) {k:Nat} (hk:k < n.r * n.c):UD n k < 68719476736:=by
 have:=h.N2
 unfold UD;split
 ·exact Uu (by decide) (Oc (by omega))
 ·decide
theorem mW {n:Mn} (h:n.Ok) {k:Nat} (hk:k < n.r * n.c):UC n k < 68719476736:=by
 have:=h.N2
 unfold UC;split
 ·exact Uu (mX h hk) (Oc (by omega))
 ·exact mX h hk
theorem mV {n:Mn} (h:n.Ok) {k:Nat} (hk:k < n.r * n.c):UA n k < 68719476736:=by
 have:=h.N2
 unfold UA;split
 ·rename_i h1
  have:=KE hk h.c1 h1
  exact Uu (mW h hk) (Oc (by omega))
 ·exact mW h hk
theorem y8 {n:Mn} (h:n.Ok) {k:Nat} (hk:k < n.r * n.c):Sk n k < 68719476736:=by
 have:=h.N2
 unfold Sk;split
 ·rename_i h1
  have:=Gu (k:=k) h.c1 h1
  exact Uu (mV h hk) (Oc (by omega))
 ·exact mV h hk
def YM (n:Mn) (w k:Nat):Bool:=!w.testBit k && decide (n.nd <= dY (Sk n k &&& w))
def nC (n:Mn) (w:Nat):Nat:=Gd (YM n w) (n.r * n.c)
theorem jA {n:Mn} (h:n.Ok) {w:Nat}:nC n w < 68719476736:=U3 h.N2
end Go.Ab.Ck
namespace Go.Ab.Ck
open Go Go.Ab
def ns (l:List Nat):List Int:=l.map fun (j:Nat)=>(j:Int)
theorem Yr (l:List Nat):(ns l).length=l.length:=by simp [ns]
theorem oL (l:List Nat) (j:Nat):ns (l ++ [j])=ns l ++ [(j:Int)]:=by simp [ns]
def rem (x:Nat):Nat -> Nat
 | 0=>x
 | k+1=>rem x k &&& (rem x k - 1)
end Go.Ab.Ck
namespace Go.Ab.Tryz
open Go Go.Ab Go.Proofs Go.Ab.Ck
theorem f135 (n lo hi:Int):AR Tryz.prog 135 [i64 n,i64 lo,i64 hi] (.one (.dv (.bool (CO n lo hi)))):=by
 refine Bv Tryz.func135 rfl rfl (by rw [Tryz.ntmps135];simp) fun cx hP hn hg=>?_
 rw [Tryz.ntmps135] at hn
 rw [Br,Bq]
 simp only [List.nil_append,List.append_nil,List.cons_append,BH,Nat.reduceAdd]
 refine sg ?_
 refine qv A9 ?_
 refine sg ?_
 iterate 2 refine qv A8 ?_
 refine qv LD ?_
 refine qx A8 (fun F6=>?_) (fun F6=>?_)
 ·try simp at F6
  iterate 2 refine qv A8 ?_
  refine qv LD ?_
  refine qv Ae ?_
  refine qv A9 ?_
  refine AV ?_
  exact x1 (hr:=(Ej (by first | (simp_all [CO];done) | (simp_all [CO];omega))))
 ·try simp at F6
  iterate 3 refine qk ?_
  refine qv Ae ?_
  refine qv A9 ?_
  refine AV ?_
  exact x1 (hr:=(Ej (by first | (simp_all [CO];done) | (simp_all [CO];omega))))
theorem f122 (n lo hi:Int):AR Tryz.prog 122 [i64 n,i64 lo,i64 hi] (.one (.dv (.bool (CO n lo hi)))):=by
 refine Bv Tryz.func122 rfl rfl (by rw [Tryz.ntmps122];simp) fun cx hP hn hg=>?_
 rw [Tryz.ntmps122] at hn
 rw [Br,Bq]
 simp only [List.nil_append,List.append_nil,List.cons_append,BH,Nat.reduceAdd]
 refine sg ?_
 refine qv A9 ?_
 refine sg ?_
 iterate 2 refine qv A8 ?_
 refine qv FT ?_
 refine qx A8 (fun F6=>?_) (fun F6=>?_)
 ·try simp at F6
  iterate 2 refine qv A8 ?_
  refine qv LD ?_
  refine qv Ae ?_
  refine qv A9 ?_
  refine AV ?_
  exact x1 (hr:=(Ej (by first | (simp_all [CO];done) | (simp_all [CO];omega))))
 ·try simp at F6
  iterate 3 refine qk ?_
  refine qv Ae ?_
  refine qv A9 ?_
  refine AV ?_
  exact x1 (hr:=(Ej (by first | (simp_all [CO];done) | (simp_all [CO];omega))))
theorem f208 (s k:Nat) (hs:s < 68719476736) (hk:k <= 62):AR Tryz.prog 208 [i64 (s:Int),i64 (k:Int)] (.one (.dv (.bool (s.testBit k)))):=by
 refine Bv Tryz.func208 rfl rfl (by rw [Tryz.ntmps208];simp) fun cx hP hn hg=>?_
 rw [Tryz.ntmps208] at hn
 rw [Br,Bq]
 simp only [List.nil_append,List.append_nil,List.cons_append,BH,Nat.reduceAdd]
 refine sg ?_
 refine qv A9 ?_
 refine sg ?_
 iterate 2 refine qv A8 ?_
 refine qv (vQ k) ?_
 refine qv (vX (a:=s / 2 ^ k) (Nat.lt_of_le_of_lt (Nat.div_le_self _ _) (by omega))) ?_
 refine qv Bl ?_
 refine qv A9 ?_
 refine AV ?_
 exact x1 (hr:=(Ej (by rw [Nat.testBit_eq_decide_div_mod_eq];generalize s / 2 ^ k=q;rw [Bool.eq_iff_iff];simp;omega)))
theorem f232 (x:Nat) (hx:x < 18446744073709551616):AR Tryz.prog 232 [u64 (x:Int)] (.one (.dv (i64 (dY x:Int)))):=by
 obtain ⟨h1,h2,h3,h4⟩:=Vt x hx
 unfold trick at h4
 simp only at h4
 obtain ⟨A,hA⟩:∃ A,S1 6148914691236517205 x=A:=⟨_,rfl⟩
 rw [hA] at h1 h2 h3 h4
 obtain ⟨B,hB⟩:∃ B,S2 3689348814741910323 A=B:=⟨_,rfl⟩
 rw [hB] at h2 h3 h4
 obtain ⟨C,hC⟩:∃ C,S3 1085102592571150095 B=C:=⟨_,rfl⟩
 rw [hC] at h3 h4
 obtain ⟨D,hD⟩:∃ D,C+C / 256=D:=⟨_,rfl⟩
 rw [hD] at h4
 obtain ⟨E,hE⟩:∃ E,D+D / 65536=E:=⟨_,rfl⟩
 rw [hE] at h4
 obtain ⟨G,hG⟩:∃ G,E+E / 4294967296=G:=⟨_,rfl⟩
 rw [hG] at h4
 have e1:(x / 2 ^ 1 &&& 6148914691236517205)+(x &&& 6148914691236517205)=A:=hA
 have e2:(A / 2 ^ 2 &&& 3689348814741910323)+(A &&& 3689348814741910323)=B:=hB
 have e3:(B / 2 ^ 4+B) &&& 1085102592571150095=C:=by rw [Nat.add_comm];exact hC
 have e4:C+C / 2 ^ 8=D:=hD
 have e5:D+D / 2 ^ 16=E:=hE
 have e6:E+E / 2 ^ 32=G:=hG
 have e7:G &&& 127=dY x:=by rw [<- h4];exact Nat.and_two_pow_sub_one_eq_mod G 7
 refine Bv Tryz.func232 rfl rfl (by rw [Tryz.ntmps232];simp) fun cx hP hn hg=>?_
 rw [Tryz.ntmps232] at hn
 rw [Br,Bq]
 simp only [List.nil_append,List.append_nil,List.cons_append,BH,Nat.reduceAdd]
 refine sg ?_
 refine qv A9 ?_
 refine sg ?_
 refine qv A8 ?_
 refine qv (OC (b:=1)) ?_
 refine qv (Qs (b:=6148914691236517205)) ?_
 refine qv A8 ?_
 refine qv (Qs (b:=6148914691236517205)) ?_
 refine qv (OD (h:=by rw [e1];exact h1)) ?_
 refine qv A9 ?_
 refine AL ?_
 rw [e1]
 refine rg ?_
 skip
 refine qv A8 ?_
 refine qv (OC (b:=2)) ?_
 refine qv (Qs (b:=3689348814741910323)) ?_
 refine qv A8 ?_
 refine qv (Qs (b:=3689348814741910323)) ?_
 refine qv (OD (h:=by rw [e2];omega)) ?_
 refine qv A9 ?_
 refine AL ?_
 rw [e2]
 refine rg ?_
 refine qv A8 ?_
 refine qv (OC (b:=4)) ?_
 refine qv A8 ?_
 refine qv OD ?_
 refine qv (Qs (b:=1085102592571150095)) ?_
 refine qv A9 ?_
 refine AL ?_
 rw [e3]
 refine rg ?_
 iterate 2 refine qv A8 ?_
 refine qv (OC (b:=8)) ?_
 refine qv OD ?_
 refine qv A9 ?_
 refine AL ?_
 rw [e4]
 refine rg ?_
 iterate 2 refine qv A8 ?_
 refine qv (OC (b:=16)) ?_
 refine qv OD ?_
 refine qv A9 ?_
 refine AL ?_
 rw [e5]
 refine rg ?_
 iterate 2 refine qv A8 ?_
 refine qv (OC (b:=32)) ?_
 refine qv OD ?_
 refine qv A9 ?_
 refine AL ?_
 rw [e6]
 refine rg ?_
 refine qv A8 ?_
 refine qv (vV tK Te) ?_
 refine qv (vW (b:=127)) ?_
 refine qv A9 ?_
 refine AV ?_
 rw [e7]
 exact x1 (hr:=(Cc))
end Go.Ab.Tryz
namespace Go.Ab.Tryz
open Go Go.Ab Go.Proofs Go.Ab.Ck
theorem Xe {n:Mn}:full n+1=2 ^ (n.r * n.c):=by
 have:=Nat.two_pow_pos (n.r * n.c)
 unfold full;omega
theorem f209 (x:Nat) (hx:x < 68719476736):AR Tryz.prog 209 [i64 (x:Int)] (.one (.dv (i64 (dY x:Int)))):=by
 refine Bv Tryz.func209 rfl rfl (by rw [Tryz.ntmps209];simp) fun cx hP hn hg=>?_
 rw [Tryz.ntmps209] at hn
 rw [Br,Bq]
 simp only [List.nil_append,List.append_nil,List.cons_append,BH,Nat.reduceAdd]
 refine sg ?_
 refine qv A9 ?_
 refine sg ?_
 refine qv A8 ?_
 refine qv (vU Te tK) ?_
 refine CF (f232 x (by omega)) ?_
 refine qv A9 ?_
 refine AV ?_
 exact x1 (hr:=(Cc))
theorem f206 (n:Mn) (ok:n.Ok):AR Tryz.prog 206 [yQ n] (.one (.dv (i64 (full n:Int)))):=by
 have hN:=ok.N2
 have hf:=Xe (n:=n)
 have hlt:=NQ ok
 refine Bv Tryz.func206 rfl rfl (by rw [Tryz.ntmps206];simp) fun cx hP hn hg=>?_
 rw [Tryz.ntmps206] at hn
 rw [Br,Bq]
 simp only [List.nil_append,List.append_nil,List.cons_append,BH,Nat.reduceAdd]
 refine sg ?_
 refine qp Bu ?_
 refine qv A9 ?_
 refine sg ?_
 refine qv (AB Fh) ?_
 refine qv (AQ Aw Bw) ?_
 refine qv (AB DF) ?_
 refine qv (AQ Aw Bw) ?_
 refine qv Z4 ?_
 refine qv (EZ (n.r * n.c)) ?_
 refine qv (Uv (full n)) ?_
 refine qv A9 ?_
 refine AV ?_
 exact x1 (hr:=(Cc))
end Go.Ab.Tryz
namespace Go.Ab.Tryz
open Go Go.Ab Go.Proofs Go.Ab.Ck
theorem f210 (n:Mn) (ok:n.Ok) (k:Nat) (hk:k < n.r * n.c):AR Tryz.prog 210 [yQ n,i64 (k:Int)] (.one (.dv (i64 (Sk n k:Int)))):=by
 have hN:=ok.N2
 have hcp:=ok.c1
 have hcq:=ok.c2
 refine Bv Tryz.func210 rfl rfl (by rw [Tryz.ntmps210];simp) fun cx hP hn hg=>?_
 rw [Tryz.ntmps210] at hn
 rw [Br,Bq]
 simp only [List.nil_append,List.append_nil,List.cons_append,BH,Nat.reduceAdd]
 refine sg ?_
 refine qp Bu ?_
 refine qv A9 ?_
 refine sg ?_
 refine qv A9 ?_
 refine AL ?_
 refine rd mixed ?_
 refine zv A8 ?_
 refine zv (AB DF) ?_
 refine zv (AQ Aw Bw) ?_
 refine zv Z0 ?_
 refine zv A8 ?_
 refine zv (AB DF) ?_
 refine zv (AQ Aw Bw) ?_
 refine zv Yz ?_
 iterate 2 refine zv A9 ?_
 refine ⟨by rfl,?_⟩
 refine AL ?_
 refine sg ?_
 refine qv A8 ?_
 refine qv Dk ?_
 refine cd (fun hc0=>?_) (fun hc0=>?_)
 ·simp only [decide_eq_true_eq,decide_eq_false_iff_not] at hc0
  have g0:0 < k / n.c:=by omega
  have u0:=yZ g0
  refine rg ?_
  iterate 2 refine qv A8 ?_
  refine qv (AB DF) ?_
  refine qv (AQ Aw Bw) ?_
  refine qv (Uv (k - n.c)) ?_
  refine qv (EZ (k - n.c)) ?_
  first | refine qv D9 ?_ | refine qv (D9 (a:=0)) ?_
  refine qv A9 ?_
  refine AL ?_
  refine sg ?_
  refine qv A8 ?_
  refine qv Dk ?_
  refine cd (fun hc1=>?_) (fun hc1=>?_)
  ·simp only [decide_eq_true_eq,decide_eq_false_iff_not] at hc1
   have g1:0 < k % n.c:=by omega
   have u1:=aR g1
   refine rg ?_
   iterate 2 refine qv A8 ?_
   refine qv (Uv (k - 1)) ?_
   refine qv (EZ (k - 1)) ?_
   first | refine qv D9 ?_ | refine qv (D9 (a:=0)) ?_
   refine qv A9 ?_
   refine AL ?_
   refine sg ?_
   refine qv A8 ?_
   refine qv (DT (a:=k % n.c) (b:=1) (ha:=by have:=Nat.mod_lt k hcp;omega)) ?_
   refine qv (AB DF) ?_
   refine qv (AQ Aw Bw) ?_
   refine qv BK ?_
   refine cd (fun hc2=>?_) (fun hc2=>?_)
   ·simp only [decide_eq_true_eq,decide_eq_false_iff_not] at hc2
    have g2:k % n.c+1 < n.c:=by omega
    have u2:=KE hk hcp g2
    refine rg ?_
    iterate 2 refine qv A8 ?_
    refine qv (DT (b:=1)) ?_
    refine qv (EZ (k+1)) ?_
    first | refine qv D9 ?_ | refine qv (D9 (a:=0)) ?_
    refine qv A9 ?_
    refine AL ?_
    refine sg ?_
    refine qv A8 ?_
    refine qv (DT (a:=k / n.c) (b:=1) (ha:=by have:=Hl hk hcp;have:=ok.r2;omega)) ?_
    refine qv (AB Fh) ?_
    refine qv (AQ Aw Bw) ?_
    refine qv BK ?_
    refine cd (fun hc3=>?_) (fun hc3=>?_)
    ·simp only [decide_eq_true_eq,decide_eq_false_iff_not] at hc3
     have g3:k / n.c+1 < n.r:=by omega
     have u3:=Gu hcp g3
     refine rg ?_
     iterate 2 refine qv A8 ?_
     refine qv (AB DF) ?_
     refine qv (AQ Aw Bw) ?_
     refine qv DT ?_
     refine qv (EZ (k+n.c)) ?_
     first | refine qv D9 ?_ | refine qv (D9 (a:=0)) ?_
     refine qv A9 ?_
     refine sg ?_
     refine qv A8 ?_
     refine qv A9 ?_
     refine AV ?_
     exact x1 (hr:=(Cc (by simp only [Sk,UA,UC,UD,g0,g1,g2,g3,if_true,if_false]<;>rfl)))
    ·simp only [decide_eq_true_eq,decide_eq_false_iff_not] at hc3
     have g3:¬ k / n.c+1 < n.r:=by omega
     refine Af ?_
     refine sg ?_
     refine qv A8 ?_
     refine qv A9 ?_
     refine AV ?_
     exact x1 (hr:=(Cc (by simp only [Sk,UA,UC,UD,g0,g1,g2,g3,if_true,if_false]<;>rfl)))
   ·simp only [decide_eq_true_eq,decide_eq_false_iff_not] at hc2
    have g2:¬ k % n.c+1 < n.c:=by omega
    refine Af ?_
    refine AL ?_
    refine sg ?_
    refine qv A8 ?_
    refine qv (DT (a:=k / n.c) (b:=1) (ha:=by have:=Hl hk hcp;have:=ok.r2;omega)) ?_
    refine qv (AB Fh) ?_
    refine qv (AQ Aw Bw) ?_
    refine qv BK ?_
    refine cd (fun hc3=>?_) (fun hc3=>?_)
    ·simp only [decide_eq_true_eq,decide_eq_false_iff_not] at hc3
     have g3:k / n.c+1 < n.r:=by omega
     have u3:=Gu hcp g3
     refine rg ?_
     iterate 2 refine qv A8 ?_
     refine qv (AB DF) ?_
     refine qv (AQ Aw Bw) ?_
     refine qv DT ?_
     refine qv (EZ (k+n.c)) ?_
     first | refine qv D9 ?_ | refine qv (D9 (a:=0)) ?_
     refine qv A9 ?_
     refine sg ?_
     refine qv A8 ?_
     refine qv A9 ?_
     refine AV ?_
     exact x1 (hr:=(Cc (by simp only [Sk,UA,UC,UD,g0,g1,g2,g3,if_true,if_false]<;>rfl)))
    ·simp only [decide_eq_true_eq,decide_eq_false_iff_not] at hc3
     have g3:¬ k / n.c+1 < n.r:=by omega
     refine Af ?_
     refine sg ?_
     refine qv A8 ?_
     refine qv A9 ?_
     refine AV ?_
     exact x1 (hr:=(Cc (by simp only [Sk,UA,UC,UD,g0,g1,g2,g3,if_true,if_false]<;>rfl)))
  ·simp only [decide_eq_true_eq,decide_eq_false_iff_not] at hc1
   have g1:¬ 0 < k % n.c:=by omega
   refine Af ?_
   refine AL ?_
   refine sg ?_
   refine qv A8 ?_
   refine qv (DT (a:=k % n.c) (b:=1) (ha:=by have:=Nat.mod_lt k hcp;omega)) ?_
   refine qv (AB DF) ?_
   refine qv (AQ Aw Bw) ?_
   refine qv BK ?_
   refine cd (fun hc2=>?_) (fun hc2=>?_)
   ·simp only [decide_eq_true_eq,decide_eq_false_iff_not] at hc2
    have g2:k % n.c+1 < n.c:=by omega
    have u2:=KE hk hcp g2
    refine rg ?_
    iterate 2 refine qv A8 ?_
    refine qv (DT (b:=1)) ?_
    refine qv (EZ (k+1)) ?_
    first | refine qv D9 ?_ | refine qv (D9 (a:=0)) ?_
    refine qv A9 ?_
    refine AL ?_
    refine sg ?_
    refine qv A8 ?_
    refine qv (DT (a:=k / n.c) (b:=1) (ha:=by have:=Hl hk hcp;have:=ok.r2;omega)) ?_
    refine qv (AB Fh) ?_
    refine qv (AQ Aw Bw) ?_
    refine qv BK ?_
    refine cd (fun hc3=>?_) (fun hc3=>?_)
    ·simp only [decide_eq_true_eq,decide_eq_false_iff_not] at hc3
     have g3:k / n.c+1 < n.r:=by omega
     have u3:=Gu hcp g3
     refine rg ?_
     iterate 2 refine qv A8 ?_
     refine qv (AB DF) ?_
     refine qv (AQ Aw Bw) ?_
     refine qv DT ?_
     refine qv (EZ (k+n.c)) ?_
     first | refine qv D9 ?_ | refine qv (D9 (a:=0)) ?_
     refine qv A9 ?_
     refine sg ?_
     refine qv A8 ?_
     refine qv A9 ?_
     refine AV ?_
     exact x1 (hr:=(Cc (by simp only [Sk,UA,UC,UD,g0,g1,g2,g3,if_true,if_false]<;>rfl)))
    ·simp only [decide_eq_true_eq,decide_eq_false_iff_not] at hc3
     have g3:¬ k / n.c+1 < n.r:=by omega
     refine Af ?_
     refine sg ?_
     refine qv A8 ?_
     refine qv A9 ?_
     refine AV ?_
     exact x1 (hr:=(Cc (by simp only [Sk,UA,UC,UD,g0,g1,g2,g3,if_true,if_false]<;>rfl)))
   ·simp only [decide_eq_true_eq,decide_eq_false_iff_not] at hc2
    have g2:¬ k % n.c+1 < n.c:=by omega
    refine Af ?_
    refine AL ?_
    refine sg ?_
    refine qv A8 ?_
    refine qv (DT (a:=k / n.c) (b:=1) (ha:=by have:=Hl hk hcp;have:=ok.r2;omega)) ?_
    refine qv (AB Fh) ?_
    refine qv (AQ Aw Bw) ?_
    refine qv BK ?_
    refine cd (fun hc3=>?_) (fun hc3=>?_)
    ·simp only [decide_eq_true_eq,decide_eq_false_iff_not] at hc3
     have g3:k / n.c+1 < n.r:=by omega
     have u3:=Gu hcp g3
     refine rg ?_
     iterate 2 refine qv A8 ?_
     refine qv (AB DF) ?_
     refine qv (AQ Aw Bw) ?_
     refine qv DT ?_
     refine qv (EZ (k+n.c)) ?_
     first | refine qv D9 ?_ | refine qv (D9 (a:=0)) ?_
     refine qv A9 ?_
     refine sg ?_
     refine qv A8 ?_
     refine qv A9 ?_
     refine AV ?_
     exact x1 (hr:=(Cc (by simp only [Sk,UA,UC,UD,g0,g1,g2,g3,if_true,if_false]<;>rfl)))
    ·simp only [decide_eq_true_eq,decide_eq_false_iff_not] at hc3
     have g3:¬ k / n.c+1 < n.r:=by omega
     refine Af ?_
     refine sg ?_
     refine qv A8 ?_
     refine qv A9 ?_
     refine AV ?_
     exact x1 (hr:=(Cc (by simp only [Sk,UA,UC,UD,g0,g1,g2,g3,if_true,if_false]<;>rfl)))
 ·simp only [decide_eq_true_eq,decide_eq_false_iff_not] at hc0
  have g0:¬ 0 < k / n.c:=by omega
  refine Af ?_
  refine AL ?_
  refine sg ?_
  refine qv A8 ?_
  refine qv Dk ?_
  refine cd (fun hc1=>?_) (fun hc1=>?_)
  ·simp only [decide_eq_true_eq,decide_eq_false_iff_not] at hc1
   have g1:0 < k % n.c:=by omega
   have u1:=aR g1
   refine rg ?_
   iterate 2 refine qv A8 ?_
   refine qv (Uv (k - 1)) ?_
   refine qv (EZ (k - 1)) ?_
   first | refine qv D9 ?_ | refine qv (D9 (a:=0)) ?_
   refine qv A9 ?_
   refine AL ?_
   refine sg ?_
   refine qv A8 ?_
   refine qv (DT (a:=k % n.c) (b:=1) (ha:=by have:=Nat.mod_lt k hcp;omega)) ?_
   refine qv (AB DF) ?_
   refine qv (AQ Aw Bw) ?_
   refine qv BK ?_
   refine cd (fun hc2=>?_) (fun hc2=>?_)
   ·simp only [decide_eq_true_eq,decide_eq_false_iff_not] at hc2
    have g2:k % n.c+1 < n.c:=by omega
    have u2:=KE hk hcp g2
    refine rg ?_
    iterate 2 refine qv A8 ?_
    refine qv (DT (b:=1)) ?_
    refine qv (EZ (k+1)) ?_
    first | refine qv D9 ?_ | refine qv (D9 (a:=0)) ?_
    refine qv A9 ?_
    refine AL ?_
    refine sg ?_
    refine qv A8 ?_
    refine qv (DT (a:=k / n.c) (b:=1) (ha:=by have:=Hl hk hcp;have:=ok.r2;omega)) ?_
    refine qv (AB Fh) ?_
    refine qv (AQ Aw Bw) ?_
    refine qv BK ?_
    refine cd (fun hc3=>?_) (fun hc3=>?_)
    ·simp only [decide_eq_true_eq,decide_eq_false_iff_not] at hc3
     have g3:k / n.c+1 < n.r:=by omega
     have u3:=Gu hcp g3
     refine rg ?_
     iterate 2 refine qv A8 ?_
     refine qv (AB DF) ?_
     refine qv (AQ Aw Bw) ?_
     refine qv DT ?_
     refine qv (EZ (k+n.c)) ?_
     first | refine qv D9 ?_ | refine qv (D9 (a:=0)) ?_
     refine qv A9 ?_
     refine sg ?_
     refine qv A8 ?_
     refine qv A9 ?_
     refine AV ?_
     exact x1 (hr:=(Cc (by simp only [Sk,UA,UC,UD,g0,g1,g2,g3,if_true,if_false]<;>rfl)))
    ·simp only [decide_eq_true_eq,decide_eq_false_iff_not] at hc3
     have g3:¬ k / n.c+1 < n.r:=by omega
     refine Af ?_
     refine sg ?_
     refine qv A8 ?_
     refine qv A9 ?_
     refine AV ?_
     exact x1 (hr:=(Cc (by simp only [Sk,UA,UC,UD,g0,g1,g2,g3,if_true,if_false]<;>rfl)))
   ·simp only [decide_eq_true_eq,decide_eq_false_iff_not] at hc2
    have g2:¬ k % n.c+1 < n.c:=by omega
    refine Af ?_
    refine AL ?_
    refine sg ?_
    refine qv A8 ?_
    refine qv (DT (a:=k / n.c) (b:=1) (ha:=by have:=Hl hk hcp;have:=ok.r2;omega)) ?_
    refine qv (AB Fh) ?_
    refine qv (AQ Aw Bw) ?_
    refine qv BK ?_
    refine cd (fun hc3=>?_) (fun hc3=>?_)
    ·simp only [decide_eq_true_eq,decide_eq_false_iff_not] at hc3
     have g3:k / n.c+1 < n.r:=by omega
     have u3:=Gu hcp g3
     refine rg ?_
     iterate 2 refine qv A8 ?_
     refine qv (AB DF) ?_
     refine qv (AQ Aw Bw) ?_
     refine qv DT ?_
     refine qv (EZ (k+n.c)) ?_
     first | refine qv D9 ?_ | refine qv (D9 (a:=0)) ?_
     refine qv A9 ?_
     refine sg ?_
     refine qv A8 ?_
     refine qv A9 ?_
     refine AV ?_
     exact x1 (hr:=(Cc (by simp only [Sk,UA,UC,UD,g0,g1,g2,g3,if_true,if_false]<;>rfl)))
    ·simp only [decide_eq_true_eq,decide_eq_false_iff_not] at hc3
     have g3:¬ k / n.c+1 < n.r:=by omega
     refine Af ?_
     refine sg ?_
     refine qv A8 ?_
     refine qv A9 ?_
     refine AV ?_
     exact x1 (hr:=(Cc (by simp only [Sk,UA,UC,UD,g0,g1,g2,g3,if_true,if_false]<;>rfl)))
  ·simp only [decide_eq_true_eq,decide_eq_false_iff_not] at hc1
   have g1:¬ 0 < k % n.c:=by omega
   refine Af ?_
   refine AL ?_
   refine sg ?_
   refine qv A8 ?_
   refine qv (DT (a:=k % n.c) (b:=1) (ha:=by have:=Nat.mod_lt k hcp;omega)) ?_
   refine qv (AB DF) ?_
   refine qv (AQ Aw Bw) ?_
   refine qv BK ?_
   refine cd (fun hc2=>?_) (fun hc2=>?_)
   ·simp only [decide_eq_true_eq,decide_eq_false_iff_not] at hc2
    have g2:k % n.c+1 < n.c:=by omega
    have u2:=KE hk hcp g2
    refine rg ?_
    iterate 2 refine qv A8 ?_
    refine qv (DT (b:=1)) ?_
    refine qv (EZ (k+1)) ?_
    first | refine qv D9 ?_ | refine qv (D9 (a:=0)) ?_
    refine qv A9 ?_
    refine AL ?_
    refine sg ?_
    refine qv A8 ?_
    refine qv (DT (a:=k / n.c) (b:=1) (ha:=by have:=Hl hk hcp;have:=ok.r2;omega)) ?_
    refine qv (AB Fh) ?_
    refine qv (AQ Aw Bw) ?_
    refine qv BK ?_
    refine cd (fun hc3=>?_) (fun hc3=>?_)
    ·simp only [decide_eq_true_eq,decide_eq_false_iff_not] at hc3
     have g3:k / n.c+1 < n.r:=by omega
     have u3:=Gu hcp g3
     refine rg ?_
     iterate 2 refine qv A8 ?_
     refine qv (AB DF) ?_
     refine qv (AQ Aw Bw) ?_
     refine qv DT ?_
     refine qv (EZ (k+n.c)) ?_
     first | refine qv D9 ?_ | refine qv (D9 (a:=0)) ?_
     refine qv A9 ?_
     refine sg ?_
     refine qv A8 ?_
     refine qv A9 ?_
     refine AV ?_
     exact x1 (hr:=(Cc (by simp only [Sk,UA,UC,UD,g0,g1,g2,g3,if_true,if_false]<;>rfl)))
    ·simp only [decide_eq_true_eq,decide_eq_false_iff_not] at hc3
     have g3:¬ k / n.c+1 < n.r:=by omega
     refine Af ?_
     refine sg ?_
     refine qv A8 ?_
     refine qv A9 ?_
     refine AV ?_
     exact x1 (hr:=(Cc (by simp only [Sk,UA,UC,UD,g0,g1,g2,g3,if_true,if_false]<;>rfl)))
   ·simp only [decide_eq_true_eq,decide_eq_false_iff_not] at hc2
    have g2:¬ k % n.c+1 < n.c:=by omega
    refine Af ?_
    refine AL ?_
    refine sg ?_
    refine qv A8 ?_
    refine qv (DT (a:=k / n.c) (b:=1) (ha:=by have:=Hl hk hcp;have:=ok.r2;omega)) ?_
    refine qv (AB Fh) ?_
    refine qv (AQ Aw Bw) ?_
    refine qv BK ?_
    refine cd (fun hc3=>?_) (fun hc3=>?_)
    ·simp only [decide_eq_true_eq,decide_eq_false_iff_not] at hc3
     have g3:k / n.c+1 < n.r:=by omega
     have u3:=Gu hcp g3
     refine rg ?_
     iterate 2 refine qv A8 ?_
     refine qv (AB DF) ?_
     refine qv (AQ Aw Bw) ?_
     refine qv DT ?_
     refine qv (EZ (k+n.c)) ?_
     first | refine qv D9 ?_ | refine qv (D9 (a:=0)) ?_
     refine qv A9 ?_
     refine sg ?_
     refine qv A8 ?_
     refine qv A9 ?_
     refine AV ?_
     exact x1 (hr:=(Cc (by simp only [Sk,UA,UC,UD,g0,g1,g2,g3,if_true,if_false]<;>rfl)))
    ·simp only [decide_eq_true_eq,decide_eq_false_iff_not] at hc3
     have g3:¬ k / n.c+1 < n.r:=by omega
     refine Af ?_
     refine sg ?_
     refine qv A8 ?_
     refine qv A9 ?_
     refine AV ?_
     exact x1 (hr:=(Cc (by simp only [Sk,UA,UC,UD,g0,g1,g2,g3,if_true,if_false]<;>rfl)))
end Go.Ab.Tryz
namespace Go.Ab.Tryz
open Go Go.Ab Go.Proofs Go.Ab.Ck
theorem uZ {N c k:Nat} {x:List DV} (h:((List.range N).map (T9 c))[k]?=some x):k < N /\ x=T9 c k:=by
 rw [List.getElem?_map,Option.map_eq_some_iff] at h
 obtain ⟨j,hj,rfl⟩:=h
 obtain ⟨h1,h2⟩:=List.getElem?_eq_some_iff.1 hj
 simp at h1 h2
 subst h2
 exact ⟨h1,rfl⟩
theorem kY {n:Mn} {w:Int} (h:CO w 0 (full n)=true):∃ v:Nat,v <= full n /\ w=(v:Int):=by
 simp only [CO,Bool.and_eq_true,decide_eq_true_eq] at h
 exact ⟨w.toNat,by omega,by omega⟩
theorem f95 (m:Mw):AR Tryz.prog 95 [dMw m] (.one (.dv (i64 (valid m)))):=by
 refine Bv Tryz.func95 rfl rfl (by rw [Tryz.ntmps95];simp) fun cx hP hn hg=>?_
 rw [Tryz.ntmps95] at hn
 rw [Br,Bq]
 simp only [List.nil_append,List.append_nil,List.cons_append,BH,Nat.reduceAdd]
 refine sg ?_
 refine qp Bu ?_
 refine qv A9 ?_
 refine AL ?_
 refine sg ?_
 refine qv (AB Fh) ?_
 refine qv (AQ Aw Bw) ?_
 refine CF (f135 m.rows 1 6) ?_
 refine qv CP ?_
 refine qx A8 (fun wJ=>?_) (fun wJ=>?_)
 ·try simp at wJ
  iterate 4 refine qk ?_
  refine qv Ae ?_
  refine qv A8 ?_
  iterate 4 refine qk ?_
  refine qv Ae ?_
  refine G5 (hb:=by first | rfl | simp | simp_all) (ht:=?_)
  refine sg ?_
  refine qv A9 ?_
  refine AV ?_
  exact x1 (hr:=(Cc (by simp_all [valid,EX])))
 ·try simp at wJ
  refine qv (AB DF) ?_
  refine qv (AQ Aw Bw) ?_
  refine CF (f135 m.Xn 1 6) ?_
  refine qv CP ?_
  refine qv Ae ?_
  refine qx A8 (fun OQ=>?_) (fun OQ=>?_)
  ·try simp at OQ
   iterate 4 refine qk ?_
   refine qv Ae ?_
   refine G5 (hb:=by first | rfl | simp | simp_all) (ht:=?_)
   refine sg ?_
   refine qv A9 ?_
   refine AV ?_
   exact x1 (hr:=(Cc (by simp_all [valid,EX])))
  ·try simp at OQ
   refine qv (AB VE) ?_
   refine qv (AQ Aw Bw) ?_
   refine CF (f135 m.need 1 3) ?_
   refine qv CP ?_
   refine qv Ae ?_
   refine cd (fun hc0=>?_) (fun hc0=>?_)
   ·try simp at hc0
    refine sg ?_
    refine qv A9 ?_
    refine AV ?_
    exact x1 (hr:=(Cc (by simp_all [valid,EX])))
   ·try simp at hc0
    refine Af ?_
    refine sg ?_
    refine qv A9 ?_
    refine AV ?_
    exact x1 (hr:=(Cc (by simp_all [valid,EX])))
theorem f79 (m:Mw):AR Tryz.prog 79 [dMw m] (.one (.dv (i64 (valid m)))):=by
 refine Bv Tryz.func79 rfl rfl (by rw [Tryz.ntmps79];simp) fun cx hP hn hg=>?_
 rw [Tryz.ntmps79] at hn
 rw [Br,Bq]
 simp only [List.nil_append,List.append_nil,List.cons_append,BH,Nat.reduceAdd]
 refine sg ?_
 refine qp Bu ?_
 refine qv A9 ?_
 refine AL ?_
 refine sg ?_
 refine qv (AB Fh) ?_
 refine qv (AQ Aw Bw) ?_
 refine CF (f122 m.rows 1 6) ?_
 refine qv CP ?_
 refine qx A8 (fun wJ=>?_) (fun wJ=>?_)
 ·try simp at wJ
  iterate 4 refine qk ?_
  refine qv Ae ?_
  refine qv A8 ?_
  iterate 4 refine qk ?_
  refine qv Ae ?_
  refine G5 (hb:=by first | rfl | simp | simp_all) (ht:=?_)
  refine sg ?_
  refine qv A9 ?_
  refine AV ?_
  exact x1 (hr:=(Cc (by simp_all [valid,EX])))
 ·try simp at wJ
  refine qv (AB DF) ?_
  refine qv (AQ Aw Bw) ?_
  refine CF (f122 m.Xn 1 6) ?_
  refine qv CP ?_
  refine qv Ae ?_
  refine qx A8 (fun OQ=>?_) (fun OQ=>?_)
  ·try simp at OQ
   iterate 4 refine qk ?_
   refine qv Ae ?_
   refine G5 (hb:=by first | rfl | simp | simp_all) (ht:=?_)
   refine sg ?_
   refine qv A9 ?_
   refine AV ?_
   exact x1 (hr:=(Cc (by simp_all [valid,EX])))
  ·try simp at OQ
   refine qv (AB VE) ?_
   refine qv (AQ Aw Bw) ?_
   refine CF (f122 m.need 1 3) ?_
   refine qv CP ?_
   refine qv Ae ?_
   refine cd (fun hc0=>?_) (fun hc0=>?_)
   ·try simp at hc0
    refine sg ?_
    refine qv A9 ?_
    refine AV ?_
    exact x1 (hr:=(Cc (by simp_all [valid,EX])))
   ·try simp at hc0
    refine Af ?_
    refine sg ?_
    refine qv A9 ?_
    refine AV ?_
    exact x1 (hr:=(Cc (by simp_all [valid,EX])))
theorem f187 (n:Mn) (ok:n.Ok):AR Tryz.prog 187 [yQ n] (.one (.dv (i64 ((n.r * n.c:Nat):Int)))):=by
 have hN:=ok.N2
 refine Bv Tryz.func187 rfl rfl (by rw [Tryz.ntmps187];simp) fun cx hP hn hg=>?_
 rw [Tryz.ntmps187] at hn
 rw [Br,Bq]
 simp only [List.nil_append,List.append_nil,List.cons_append,BH,Nat.reduceAdd]
 refine sg ?_
 refine qp Bu ?_
 refine qv A9 ?_
 refine sg ?_
 refine qv (AB Fh) ?_
 refine qv (AQ Aw Bw) ?_
 refine qv (AB DF) ?_
 refine qv (AQ Aw Bw) ?_
 refine qv Z4 ?_
 refine qv A9 ?_
 refine AV ?_
 exact x1 (hr:=(Cc))
def P7 (m:Mw) (w:Int):Int:=if EX m then (if CO w 0 (2 ^ (m.rows * m.Xn).toNat - 1) then 0 else 1) else 1
theorem YS {n:Mn} (ok:n.Ok) {w:Int}:P7 n.w w=if CO w 0 (full n) then 0 else 1:=by
 have e:(2 ^ ((n.r:Int) * (n.c:Int)).toNat - 1:Int)=((full n:Nat):Int):=by
  rw [<- Int.natCast_mul,Int.toNat_natCast]
  have:=Xe (n:=n)
  have h2:(2:Int) ^ (n.r * n.c)=((2 ^ (n.r * n.c):Nat):Int):=by norm_cast
  rw [h2];omega
 simp only [P7,aI ok,if_true]
 rw [show (n.w.rows * n.w.Xn)=(n.r:Int) * (n.c:Int) from rfl,e]
theorem nS {m:Mw} {w:Int} (h:P7 m w=0):∃ (n:Mn) (v:Nat),n.Ok /\ m=n.w /\ w=(v:Int) /\ v <= full n:=by
 by_cases hv:EX m=true
 ·obtain ⟨n,ok,rfl⟩:=UO hv
  rw [YS ok] at h
  split at h
  ·rename_i h1
   obtain ⟨v,h2,h3⟩:=kY h1
   exact ⟨n,v,ok,rfl,h3,h2⟩
  ·cases h
 ·simp [P7,hv] at h
theorem f181 (m:Mw) (w:Int):AR Tryz.prog 181 [dMw m,i64 w] (.one (.dv (i64 (P7 m w)))):=by
 refine Bv Tryz.func181 rfl rfl (by rw [Tryz.ntmps181];simp) fun cx hP hn hg=>?_
 rw [Tryz.ntmps181] at hn
 rw [Br,Bq]
 simp only [List.nil_append,List.append_nil,List.cons_append,BH,Nat.reduceAdd]
 refine sg ?_
 refine qp Bu ?_
 refine qv A9 ?_
 refine AL ?_
 refine sg ?_
 refine qv (AY Jw Np) ?_
 refine CF (f95 m) ?_
 refine qv A9 ?_
 refine sg ?_
 refine qv A8 ?_
 refine qv Ay ?_
 refine cd (fun hc0=>?_) (fun hc0=>?_)
 ·skip
  have hv:EX m=false:=by simpa [valid] using hc0
  refine sg ?_
  refine qv A8 ?_
  refine qv A9 ?_
  refine AV ?_
  exact x1 (hr:=(Cc (by simp [P7,valid,hv])))
 ·skip
  have hv:EX m=true:=by simpa [valid] using hc0
  obtain ⟨n,ok,rfl⟩:=UO hv
  have hw:=YS ok (w:=w)
  refine Af ?_
  refine AL ?_
  refine sg ?_
  refine qv A8 ?_
  refine qv (AY Jw Np) ?_
  refine CF (f206 n ok) ?_
  refine CF (f135 w 0 (full n)) ?_
  refine qv CP ?_
  refine cd (fun hc1=>?_) (fun hc1=>?_)
  ·try simp at hc1
   refine sg ?_
   refine qv A9 ?_
   refine AV ?_
   exact x1 (hr:=(Cc (by simp_all)))
  ·try simp at hc1
   refine Af ?_
   refine sg ?_
   refine qv A9 ?_
   refine AV ?_
   exact x1 (hr:=(Cc (by simp_all)))
theorem f207 (n:Mn):FN Tryz.prog 207 [yQ n] (.one (.dv (.fn 231 [] [.Cy [i64 (n.r:Int),i64 (n.c:Int),i64 (n.nd:Int)]]))):=by
 refine JM Tryz.func207 rfl rfl (by rw [Tryz.ntmps207];simp) fun cx hP hn hg=>?_
 rw [Tryz.ntmps207] at hn
 rw [Br,Bq]
 simp only [List.nil_append,List.append_nil,List.cons_append,BH,Nat.reduceAdd]
 refine sg ?_
 refine qp Bu ?_
 refine qv A9 ?_
 refine sg ?_
 refine qfn ?_
 refine qv A9 ?_
 refine AV ?_
 exact x1 (hr:=(Uq))
end Go.Ab.Tryz
