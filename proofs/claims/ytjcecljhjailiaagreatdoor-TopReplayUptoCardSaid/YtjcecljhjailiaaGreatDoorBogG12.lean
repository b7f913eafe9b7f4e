/- Ab39, Ab40, BogL1, BogL2, BogLb, Ab45, Ab46, BogT. -/
import Derived.Test.YtjcecljhjailiaaGreatDoorBogG11
import Derived.Test.YtjcecljhjailiaaGreatDoorBogG11
import Derived.Lib.IndexMore
import Derived.Lib.ItoaNum
import Derived.Lib.Split
import Derived.Lib.SplitLaws
import Derived.Lib.AtoiAll
import Derived.Test.YtjcecljhjailiaaGreatDoorBogG08
import Derived.Test.YtjcecljhjailiaaGreatDoorBogG08
import Derived.Lib.AppendIntMem
import Derived.WalkSmall
import Derived.Test.YtjcecljhjailiaaGreatDoorBogG11
set_option linter.all false
namespace Go.Ab
open Go.RowKit
def yJ:List Nat -> List DV -> List (Nat × SV) -> List (Nat × SV)
 | p :: ps,d :: ds,l=>yJ ps ds ((p,.dv d) :: l)
 | _,_,l=>l
theorem WE:∀ (ps:List Nat) (x:List DV) (l:List (Nat × SV)),Mf ps x (lk l)=lk (yJ ps x l)
 | [],_,_=>by simp [Mf,yJ]
 | _ :: _,[],_=>by simp [Mf,yJ]
 | p :: ps,d :: x,l=>by simp only [Mf,yJ,EY];exact WE ps x _
section
variable {cx:Cx} {P:Program} {N:Nat}
theorem uq {ps:List Nat} {assign body:Code} {l:List (Nat × SV)} {m1 m1' m2:List (Nat × Nat × Option Au)} {x:List DV} (τ:List (Nat × Nat)) (m0 mem:List (Nat × Au)) (rt:List Nat) (l0:List (Nat × SV))
  (hP:cx.P=P:=by assumption) (hn:cx.n=N:=by assumption)
  (h2:Ju τ (AA m1) (Bj m0) m0:=by (simp [Ju,Aa,AX,isLive,AZ,Bj,AA,DZ,BO,BN,Al,BL,BP,BS,BQ,BR,ED]))
  (h3:(τ.map (·.2)).Nodup:=by decide) (h4:τ.all (fun p=>(m0.map (·.1)).contains p.1)=true:=by rfl) (h5:(m0.map (·.1)).Nodup:=by (simp))
  (h6:DK (AZ τ) ⟨lk l,AA m1⟩ (Bj m0) l0:=by (simp [DK,Aa,AX,isLive,AZ,Bj,AA,lk]))
  (h7:Ez (AA m1) τ mem rt:=by (simp [Ez,AA,AZ])) (h8:(mem.map (·.1)).Nodup:=by (simp)) (h9:rt.Nodup:=by decide)
  (hm:Ug (OA m1) (PZ (AA m1) [] τ mem rt)=m2:=by (simp only [Ug,PZ,Ik,drops,puts,FQ,Dq,Ht BL,Fa,Lv,iU,Bj,AA,OA,NH,List.map,List.nil_append,List.cons_append,List.append_nil,Option.map_some,Option.getD_some,reduceIte,Nat.reduceEqDiff,Nat.reduceAdd,Nat.reduceLeDiff]<;>rfl))
  (hle:Le cx ⟨lk l,AA m2⟩ ⟨lk l,AA m1'⟩)
  (k:∀ I7:Cx,I7.P=P -> I7.n=N -> I7.Good -> EF I7 assign (Va P N body (Bj mem)) ⟨lk (yJ ps x l0),AA (m0.map fun p=>(p.1,0,some p.2))⟩) :
  Pw cx ps assign body (lk l) (AA m1) x (AA m1'):=by
 subst hP;subst hn
 have hf:DZ (AA m1) []=AA m1:=by funext t;simp [DZ]
 have hB:=P5 (fz:=[]) h7 h8 h9 (fun t _=>by simp)
 rw [hf,Er,Mg,hm] at hB
 refine ⟨AZ τ,Bj m0,lk l0,Bj mem,AA m2,Me mem rt,Fa (AA m1) mem rt,Ou h2 h3 (fun p hp=>?_) h5,Vj h6,hB,hle,fun I7 h1 h2 h3=>?_⟩
 ·have:=List.all_eq_true.1 h4 p hp
  simpa using this
 ·have:=k I7 h1 h2 h3
  rw [WE]
  exact this
theorem asg {body:Code} {N':Nat -> Nat × Option Au} {S:St} (k:∀ I7:Cx,I7.P=P -> I7.n=N -> I7.Good -> EF I7 body (Yi I7 N') S):Va P N body N' .normal S:=⟨rfl,k⟩
theorem rend {mem:List (Nat × Au)} {S:St} (h:Le cx S ⟨lk [],AA (mem.map fun p=>(p.1,0,some p.2))⟩):Yi cx (Bj mem) .normal S:=⟨rfl,h⟩
theorem rgf (hg:cx.Good) (hrn:cx.KC=none) (fF:cx.dq=[]) {fn:Func} {ds:List DV} (hfin:∀ a w,sP cx.P fn ds cx.w0 cx.Wr a w -> cx.fin a w) (hP:cx.P=P) (hn:cx.n=N)
  {s gf:Nat} {caps:List DV} {xs:List (List DV)} (hseq:sS P gf caps xs) {l:List (Nat × SV)} (bs:Nat -> List (Nat × Nat × Option Au)) {S:St} (hS:Le cx S ⟨lk l,AA (bs 0)⟩)
  {ps:Array Nat} {bid:Nat} {assign body post:Code} {K:Exit -> St -> Prop} 
  (round:∀ k x,xs[k]?=some x -> Pw cx ps.toList assign body (lk l) (AA (bs k)) x (AA (bs (k+1))))
  (hpost:∀ I7:Cx,I7.P=P -> I7.n=N -> I7.Good -> EF I7 post (yD P fn.results.toList ds) ⟨lk l,AA (bs xs.length)⟩)
  (hF:lk l s=.dv (.fn gf [] caps):=by (simp only [lk,reduceIte,Nat.reduceEqDiff])) (hps:∀ p ∈ ps.toList,p < N:=by decide) (hpx:∀ x ∈ xs,x.length=ps.size:=by (intro x hx;simp at hx;obtain ⟨k,_,rfl⟩:=hx;rfl)) :
  sM cx (.block bid (.rangeFunc (.tmp s) ps assign body)) post K S:=by
 subst hP;subst hn
 exact gQ hg hrn fF hfin hseq (fun k=>AA (bs k)) hS hF hps hpx round hpost
theorem xs1 {rv:List ResultVar} {d1:DV} {S:St} (hs:DX P S rv=some [.dv d1]:=by (simp only [DX,lk,Option.map_some,reduceIte,Nat.reduceEqDiff]<;>rfl)) (hf:DV.frees [d1]=true:=by rfl):yD P rv [d1] .ret S:=⟨rfl,hf,hs⟩
end
end Go.Ab
namespace Go.Ab
open Go.RowKit
abbrev i64 (n:Int):DV:=.int .i64 n
abbrev u64 (n:Int):DV:=.int .u64 n
abbrev SK (L:List Int):Au:=QX .i64 3 L
abbrev rI (L:List Int):R1:=rK .i64 3 L
abbrev ints (l:List Int):DV:=.list (l.map (DV.int .i64))
section
variable {P:Program} {S:St} {x y:Operand} {t t2:TypeId} {a b:Nat}
theorem Z0 (hx:S.ev x=.dv (.int .i64 (a:Int)):=by (simp only [St.look,St.ev,lk,AA,AO,Ah,Ag,reduceIte,Nat.reduceAdd,Nat.reduceEqDiff,Nat.reduceMul]<;>rfl)) (hy:S.ev y=.dv (.int .i64 (b:Int)):=by (simp only [St.look,St.ev,lk,AA,AO,Ah,Ag,reduceIte,Nat.reduceAdd,Nat.reduceEqDiff,Nat.reduceMul]<;>rfl)) (hb:0 < b:=by (first | omega | (simp only [Int.toNat_natCast,List.length_map,List.length_append,List.length_cons,List.length_nil,List.length_take,List.length_drop,List.length_set,List.length_replicate,Nat.zero_add,Nat.mul_one]<;>omega) | (simp<;>omega))) (ha:a < 9223372036854775808:=by (first | omega | (simp only [Int.toNat_natCast,List.length_map,List.length_append,List.length_cons,List.length_nil,List.length_take,List.length_drop,List.length_set,List.length_replicate,Nat.zero_add,Nat.mul_one]<;>omega) | (simp<;>omega))):AP P S (.binOp .quo t x y t2)=some (.val (.dv (.int .i64 ((a / b:Nat):Int)))):=by
 simp only [AP,Dj,hx,hy,DU,if_true,Option.map_some]
 rw [if_neg (by omega)]
 have e:(a:Int).tdiv (b:Int)=((a / b:Nat):Int):=by simp
 have h:a / b <= a:=Nat.div_le_self _ _
 rw [e]
 generalize a / b=q at *
 rw [wrap_i64 (by omega) (by omega)]
 rfl
theorem Yz (hx:S.ev x=.dv (.int .i64 (a:Int)):=by (simp only [St.look,St.ev,lk,AA,AO,Ah,Ag,reduceIte,Nat.reduceAdd,Nat.reduceEqDiff,Nat.reduceMul]<;>rfl)) (hy:S.ev y=.dv (.int .i64 (b:Int)):=by (simp only [St.look,St.ev,lk,AA,AO,Ah,Ag,reduceIte,Nat.reduceAdd,Nat.reduceEqDiff,Nat.reduceMul]<;>rfl)) (hb:0 < b:=by (first | omega | (simp only [Int.toNat_natCast,List.length_map,List.length_append,List.length_cons,List.length_nil,List.length_take,List.length_drop,List.length_set,List.length_replicate,Nat.zero_add,Nat.mul_one]<;>omega) | (simp<;>omega))):AP P S (.binOp .rem t x y t2)=some (.val (.dv (.int .i64 ((a % b:Nat):Int)))):=by
 simp only [AP,Dj,hx,hy,DU,if_true,Option.map_some]
 rw [if_neg (by omega)]
 have e:(a:Int).tmod (b:Int)=((a % b:Nat):Int):=by rw [Int.tmod_eq_emod_of_nonneg (by omega)];simp
 rw [e]
 rfl
theorem Z4 (hx:S.ev x=.dv (.int .i64 (a:Int)):=by (simp only [St.look,St.ev,lk,AA,AO,Ah,Ag,reduceIte,Nat.reduceAdd,Nat.reduceEqDiff,Nat.reduceMul]<;>rfl)) (hy:S.ev y=.dv (.int .i64 (b:Int)):=by (simp only [St.look,St.ev,lk,AA,AO,Ah,Ag,reduceIte,Nat.reduceAdd,Nat.reduceEqDiff,Nat.reduceMul]<;>rfl)) (ha:a * b < 9223372036854775808:=by (first | omega | (simp only [Int.toNat_natCast,List.length_map,List.length_append,List.length_cons,List.length_nil,List.length_take,List.length_drop,List.length_set,List.length_replicate,Nat.zero_add,Nat.mul_one]<;>omega) | (simp<;>omega))):AP P S (.binOp .mul t x y t2)=some (.val (.dv (.int .i64 ((a * b:Nat):Int)))):=by
 simp only [AP,Dj,hx,hy,DU,if_true,Option.map_some]
 rw [<- Int.natCast_mul,wrap_i64 (by omega) (by omega)]
theorem DT (hx:S.ev x=.dv (.int .i64 (a:Int)):=by (simp only [St.look,St.ev,lk,AA,AO,Ah,Ag,reduceIte,Nat.reduceAdd,Nat.reduceEqDiff,Nat.reduceMul]<;>rfl)) (hy:S.ev y=.dv (.int .i64 (b:Int)):=by (simp only [St.look,St.ev,lk,AA,AO,Ah,Ag,reduceIte,Nat.reduceAdd,Nat.reduceEqDiff,Nat.reduceMul]<;>rfl)) (ha:a+b < 9223372036854775808:=by (first | omega | (simp only [Int.toNat_natCast,List.length_map,List.length_append,List.length_cons,List.length_nil,List.length_take,List.length_drop,List.length_set,List.length_replicate,Nat.zero_add,Nat.mul_one]<;>omega) | (simp<;>omega))):AP P S (.binOp .add t x y t2)=some (.val (.dv (.int .i64 ((a+b:Nat):Int)))):=by
 simp only [AP,Dj,hx,hy,DU,if_true,Option.map_some]
 rw [<- Int.natCast_add,wrap_i64 (by omega) (by omega)]
theorem vU {k k':IntKind} (h1:Hz P t=some k) (h2:Hz P t2=some .u64) (hx:S.ev x=.dv (.int k' (a:Int)):=by (simp only [St.look,St.ev,lk,AA,AO,Ah,Ag,reduceIte,Nat.reduceAdd,Nat.reduceEqDiff,Nat.reduceMul]<;>rfl)) (ha:a < 18446744073709551616:=by (first | omega | (simp only [Int.toNat_natCast,List.length_map,List.length_append,List.length_cons,List.length_nil,List.length_take,List.length_drop,List.length_set,List.length_replicate,Nat.zero_add,Nat.mul_one]<;>omega) | (simp<;>omega))):AP P S (.convert t t2 x)=some (.val (.dv (.int .u64 (a:Int)))) :=
 FU h1 h2 hx (by rw [Ka (by omega) (by omega)])
theorem vV {k k':IntKind} (h1:Hz P t=some k) (h2:Hz P t2=some .i64) (hx:S.ev x=.dv (.int k' (a:Int)):=by (simp only [St.look,St.ev,lk,AA,AO,Ah,Ag,reduceIte,Nat.reduceAdd,Nat.reduceEqDiff,Nat.reduceMul]<;>rfl)) (ha:a < 9223372036854775808:=by (first | omega | (simp only [Int.toNat_natCast,List.length_map,List.length_append,List.length_cons,List.length_nil,List.length_take,List.length_drop,List.length_set,List.length_replicate,Nat.zero_add,Nat.mul_one]<;>omega) | (simp<;>omega))):AP P S (.convert t t2 x)=some (.val (.dv (.int .i64 (a:Int)))) :=
 FU h1 h2 hx (by rw [wrap_i64 (by omega) (by omega)])
theorem Uv {z u:Int} (c:Nat) (hx:S.ev x=.dv (.int .i64 z):=by (simp only [St.look,St.ev,lk,AA,AO,Ah,Ag,reduceIte,Nat.reduceAdd,Nat.reduceEqDiff,Nat.reduceMul]<;>rfl)) (hy:S.ev y=.dv (.int .i64 u):=by (simp only [St.look,St.ev,lk,AA,AO,Ah,Ag,reduceIte,Nat.reduceAdd,Nat.reduceEqDiff,Nat.reduceMul]<;>rfl)) (hc:z - u=(c:Int):=by (first | omega | (simp only [Int.toNat_natCast,List.length_map,List.length_append,List.length_cons,List.length_nil,List.length_take,List.length_drop,List.length_set,List.length_replicate,Nat.zero_add,Nat.mul_one]<;>omega) | (simp<;>omega))) (h1:c < 9223372036854775808:=by (first | omega | (simp only [Int.toNat_natCast,List.length_map,List.length_append,List.length_cons,List.length_nil,List.length_take,List.length_drop,List.length_set,List.length_replicate,Nat.zero_add,Nat.mul_one]<;>omega) | (simp<;>omega))):AP P S (.binOp .sub t x y t2)=some (.val (.dv (.int .i64 (c:Int)))):=by
 simp only [AP,Dj,hx,hy,DU,if_true,Option.map_some]
 rw [hc,wrap_i64 (by omega) (by omega)]
end
end Go.Ab
namespace Go.Ab.Gi
open Go Go.Ab
def yh (s:Nat) (b:UInt8):Nat:=(s * 257+b.toNat+1) % 1000003
def Cn (s:Nat) (T:Tx):Nat:=T.foldl yh s
theorem iP (s:Nat) (A B:Tx):Cn s (A ++ B)=Cn (Cn s A) B:=by simp [Cn]
theorem Gl {s:Nat} (hs:s < 1000003):∀ T:Tx,Cn s T < 1000003:=by
 intro T
 unfold Cn
 induction T generalizing s with
 | nil=>exact hs
 | cons b T ih=>exact ih (Nat.mod_lt _ (by decide))
def FE (before:Int):Nat:=(before % 1000003).toNat
theorem PV (before:Int):FE before < 1000003:=by unfold FE;omega
def dd (s:Nat):Tx:=Lib.decDigits s
def Dl (s:Nat) (T:Tx):Tx:=dd (Cn s T) ++ [32] ++ T ++ [10]
def Am:Nat -> List Tx -> Tx
 | _,[]=>[]
 | s,T :: l=>Dl s T ++ Am (Cn s T) l
def Gm (s:Nat) (l:List Tx):Nat:=l.foldl Cn s
theorem U5:∀ (s:Nat) (a b:List Tx),Am s (a ++ b)=Am s a ++ Am (Gm s a) b
 | _,[],_=>rfl
 | s,T :: a,b=>by
  show Dl s T ++ Am (Cn s T) (a ++ b)=_
  rw [U5 (Cn s T) a b,<- List.append_assoc];rfl
theorem UY {s:Nat} (hs:s < 1000003):∀ l:List Tx,Gm s l < 1000003:=by
 intro l
 unfold Gm
 induction l generalizing s with
 | nil=>exact hs
 | cons T l ih=>exact ih (Gl hs T)
def Es (T:Tx):Bool:=decide (1 <= T.length) && decide (T.length <= 40) && !T.contains 10
theorem lS:∀ (s:Nat) (b:UInt8),b ∈ dd s -> 48 <= b.toNat /\ b.toNat <= 57:=by
 intro s
 unfold dd
 induction s using Nat.strongRecOn with
 | _ s ih =>
  intro b hb
  rw [Lib.decDigits] at hb
  split at hb
  ·simp only [List.mem_singleton] at hb
   subst hb
   simp;omega
  ·rename_i h
   rcases List.mem_append.1 hb with hb | hb
   ·exact ih (s / 10) (by omega) b hb
   ·simp only [List.mem_singleton] at hb
    subst hb
    simp;omega
theorem lQ {s:Nat} {c:UInt8} (hc:c.toNat < 48):∀ b ∈ dd s,b ≠ c:=fun b hb e=>by
 have:=lS s b hb
 subst e;omega
theorem ZR {s:Nat} (h:s < 1000003):(dd s).length <= 7:=by
 have key:∀ (k s:Nat),s < 10 ^ (k+1) -> (Lib.decDigits s).length <= k+1:=by
  intro k
  induction k with
  | zero=>intro s h;rw [Lib.decDigits,dif_pos (by omega)];simp
  | succ k ih =>
   intro s h
   rw [Lib.decDigits]
   split
   ·simp
   ·have:=ih (s / 10) (by rw [Nat.pow_succ] at h;omega)
    simp;omega
 exact key 6 s (by omega)
def tw (c:UInt8) (T:Tx):Tx:=T.takeWhile (· != c)
theorem QA (c:UInt8):∀ T:Tx,(tw c T).length <= T.length
 | []=>by simp [tw]
 | b :: T=>by
  have:=QA c T
  unfold tw at *
  rw [List.takeWhile_cons]
  split<;>simp<;>omega
theorem MQ (c:UInt8):∀ T:Tx,T.take (tw c T).length=tw c T
 | []=>by simp [tw]
 | b :: T=>by
  have:=MQ c T
  unfold tw at *
  rw [List.takeWhile_cons]
  split<;>simp [this]
theorem Zo (c:UInt8):∀ (T:Tx) (b:UInt8),b ∈ tw c T -> b ≠ c
 | [],b,h=>by simp [tw] at h
 | x :: T,b,h=>by
  unfold tw at h
  rw [List.takeWhile_cons] at h
  split at h
  ·rename_i hx
   rcases List.mem_cons.1 h with rfl | h
   ·simpa using hx
   ·exact Zo c T b h
  ·cases h
theorem iE {c:UInt8}:∀ {T:Tx},(∀ b ∈ T,b ≠ c) -> tw c T=T
 | [],_=>rfl
 | x :: T,h=>by
  unfold tw
  rw [List.takeWhile_cons,if_pos (by simpa using h x (by simp))]
  exact congrArg (x :: ·) (iE fun b hb=>h b (List.mem_cons_of_mem _ hb))
theorem YX {c:UInt8}:∀ {A:Tx} (B:Tx),(∀ b ∈ A,b ≠ c) -> tw c (A ++ c :: B)=A
 | [],B,_=>by simp [tw]
 | x :: A,B,h=>by
  unfold tw
  rw [List.cons_append,List.takeWhile_cons,if_pos (by simpa using h x (by simp))]
  exact congrArg (x :: ·) (YX B fun b hb=>h b (List.mem_cons_of_mem _ hb))
theorem He (c:UInt8):∀ {T:Tx},(tw c T).length < T.length -> T=tw c T ++ c :: T.drop ((tw c T).length+1)
 | [],h=>by simp [tw] at h
 | x :: T,h=>by
  unfold tw at h ⊢
  rw [List.takeWhile_cons] at h ⊢
  split
  ·rename_i hx
   rw [if_pos hx] at h
   have:=He c (T:=T) (by simpa [tw] using h)
   simp only [List.length_cons,List.cons_append,List.drop_succ_cons]
   unfold tw at this
   rw [<- this]
  ·rename_i hx
   have:x=c:=by simpa using hx
   subst this;simp
theorem NJ (c:UInt8):∀ T:Tx,Lib.index T [c]=if (tw c T).length < T.length then ((tw c T).length:Int) else -1:=by
 intro T
 induction T with
 | nil=>simp [Lib.index,tw]
 | cons x T ih =>
  rw [Lib.index]
  by_cases hx:x=c
  ·subst hx;simp [tw]
  ·have hx2:(x != c)=true:=by simpa using hx
   have e:tw c (x :: T)=x :: tw c T:=by unfold tw;rw [List.takeWhile_cons,if_pos hx2]
   rw [if_neg (by simp [Ne.symm hx]),ih,e]
   by_cases h:(tw c T).length < T.length
   ·rw [if_pos h,if_neg (by rw [beq_iff_eq];omega),if_pos (by rw [List.length_cons,List.length_cons];omega)];simp
   ·rw [if_neg h,if_pos (by rfl),if_neg (by rw [List.length_cons,List.length_cons];omega)]
theorem VN (c:UInt8) (T:Tx):Lib.cut T [c]=if (tw c T).length < T.length then (tw c T,T.drop ((tw c T).length+1),true) else (T,[],false):=by
 unfold Lib.cut
 rw [NJ]
 by_cases h:(tw c T).length < T.length
 ·rw [if_pos h,if_pos (by omega),Int.toNat_natCast,MQ,if_pos h];rfl
 ·rw [if_neg h,if_neg (by omega),if_neg h]
def ET (s:Nat) (B:Tx):Option (Tx × Nat × Tx) :=
 if (tw 10 B).length=B.length \/ (tw 32 (tw 10 B)).length=(tw 10 B).length then none
 else if Es ((tw 10 B).drop ((tw 32 (tw 10 B)).length+1))=false then none
 else if dd (Cn s ((tw 10 B).drop ((tw 32 (tw 10 B)).length+1)))=tw 32 (tw 10 B) then some ((tw 10 B).drop ((tw 32 (tw 10 B)).length+1),Cn s ((tw 10 B).drop ((tw 32 (tw 10 B)).length+1)),B.drop ((tw 10 B).length+1))
 else none
def Ak:Nat -> Nat -> Tx -> List Tx × Tx
 | 0,_,B=>([],B)
 | f+1,s,B=>match ET s B with
  | none=>([],B)
  | some (o,s',B')=>(o :: (Ak f s' B').1,(Ak f s' B').2)
theorem pK {T:Tx} (h:Es T=true):∀ b ∈ T,b ≠ 10:=by
 intro b hb e
 subst e
 simp only [Es,Bool.and_eq_true,Bool.not_eq_true'] at h
 have:=List.contains_iff_mem.2 hb
 rw [h.2] at this;cases this
theorem Ta (s:Nat) {T:Tx} (h:Es T=true):∀ b ∈ dd (Cn s T) ++ 32 :: T,b ≠ 10:=by
 intro b hb
 rcases List.mem_append.1 hb with hb | hb
 ·exact lQ (by decide) b hb
 ·rcases List.mem_cons.1 hb with rfl | hb
  ·decide
  ·exact pK h b hb
theorem aO (s:Nat) (T X:Tx):Dl s T ++ X=(dd (Cn s T) ++ 32 :: T) ++ 10 :: X:=by simp [Dl]
theorem Uo {s:Nat} {T:Tx} (h:Es T=true) (X:Tx):ET s (Dl s T ++ X)=some (T,Cn s T,X):=by
 rw [aO]
 unfold ET
 rw [YX X (Ta s h),YX T (lQ (c:=32) (by decide))]
 have e1:(dd (Cn s T) ++ 32 :: T).drop ((dd (Cn s T)).length+1)=T:=by
  rw [<- List.drop_drop,List.drop_left];rfl
 have e2:((dd (Cn s T) ++ 32 :: T) ++ 10 :: X).drop ((dd (Cn s T) ++ 32 :: T).length+1)=X:=by
  rw [<- List.drop_drop,List.drop_left];rfl
 rw [e1,e2,if_neg (by simp),if_neg (by rw [h];simp),if_pos rfl]
theorem rd_some {s:Nat} {B o B':Tx} {s':Nat} (h:ET s B=some (o,s',B')):Es o=true /\ s'=Cn s o /\ B=Dl s o ++ B':=by
 unfold ET at h
 split at h
 ·cases h
 ·rename_i h1
  split at h
  ·cases h
  ·rename_i h2
   split at h
   ·rename_i h3
    simp only [Option.some.injEq,Prod.mk.injEq] at h
    obtain ⟨rfl,rfl,rfl⟩:=h
    have l1:=QA 10 B
    have l2:=QA 32 (tw 10 B)
    have e1:=He 10 (T:=B) (by omega)
    have e2:=He 32 (T:=tw 10 B) (by omega)
    refine ⟨by simpa using h2,rfl,?_⟩
    rw [aO,h3,<- e2,<- e1]
   ·cases h
theorem aC {s:Nat} {B:Tx} (h:∀ b ∈ B,b ≠ 10):ET s B=none:=by
 unfold ET
 rw [if_pos (.inl (by rw [iE h]))]
theorem TM:∀ (l:List Tx) (f s:Nat) (X:Tx),(∀ T ∈ l,Es T=true) -> l.length <= f -> Ak f s (Am s l ++ X)=(l ++ (Ak (f - l.length) (Gm s l) X).1,(Ak (f - l.length) (Gm s l) X).2)
 | [],f,s,X,_,_=>by simp [Am,Gm]
 | T :: l,0,s,X,_,hf=>by simp at hf
 | T :: l,f+1,s,X,h,hf=>by
  have ih:=TM l f (Cn s T) X (fun q hq=>h q (List.mem_cons_of_mem _ hq)) (by simpa using hf)
  rw [Am,List.append_assoc,Ak,Uo (h T (by simp))]
  simp only [ih,List.length_cons,Nat.add_sub_add_right]
  rfl
theorem Qf (f s:Nat):Ak f s []=([],[]):=by
 cases f with
 | zero=>rfl
 | succ f=>rw [Ak,aC (by simp)]
theorem Hu {l:List Tx} {f:Nat} (s:Nat) (h:∀ T ∈ l,Es T=true) (hf:l.length <= f):Ak f s (Am s l)=(l,[]):=by
 have:=TM l f s [] h hf
 rw [List.append_nil,Qf] at this
 simpa using this
theorem Gz:∀ (f s:Nat) (B:Tx),B=Am s (Ak f s B).1 ++ (Ak f s B).2 /\ (∀ T ∈ (Ak f s B).1,Es T=true) /\ (Ak f s B).1.length <= f
 | 0,s,B=>⟨rfl,by simp [Ak],Nat.le_refl _⟩
 | f+1,s,B=>by
  rw [Ak]
  split
  ·exact ⟨rfl,by simp,Nat.zero_le _⟩
  ·rename_i o s' B' e
   obtain ⟨h1,rfl,h2⟩:=rd_some e
   obtain ⟨k1,k2,k3⟩:=Gz f (Cn s o) B'
   refine ⟨?_,fun T hT=>?_,by simpa using k3⟩
   ·rw [Am,List.append_assoc,<- k1];exact h2
   ·rcases List.mem_cons.1 hT with rfl | hT
    ·exact h1
    ·exact k2 T hT
theorem TL:∀ (l:List Tx) (f s k:Nat),(∀ T ∈ l,Es T=true) -> l.length <= f -> ∃ j,(Ak f s ((Am s l).take k)).1=l.take j /\ j <= l.length /\ ((Ak f s ((Am s l).take k)).2=[] \/ j < l.length)
 | [],f,s,k,_,_=>⟨0,by simp [Am,Qf],Nat.le_refl _,.inl (by simp [Am,Qf])⟩
 | T :: l,0,s,k,_,hf=>by simp at hf
 | T :: l,f+1,s,k,h,hf=>by
  have hT:=h T (by simp)
  rcases Nat.lt_or_ge k (Dl s T).length with hk | hk
  ·have e:(Am s (T :: l)).take k=(Dl s T).take k:=by
    rw [Am,List.take_append_of_le_length (by omega)]
   have e2:(Dl s T).take k=(dd (Cn s T) ++ 32 :: T).take k:=by
    have:Dl s T=(dd (Cn s T) ++ 32 :: T) ++ [10]:=by simp [Dl]
    rw [this,List.take_append_of_le_length]
    rw [this,List.length_append,List.length_singleton] at hk
    omega
   have hn:ET s ((Am s (T :: l)).take k)=none:=aC fun b hb=>by
    rw [e,e2] at hb
    exact Ta s hT b (List.mem_of_mem_take hb)
   refine ⟨0,?_,Nat.zero_le _,.inr (by simp)⟩
   rw [Ak,hn];rfl
  ·obtain ⟨j,j1,j2,j3⟩:=TL l f (Cn s T) (k - (Dl s T).length) (fun q hq=>h q (List.mem_cons_of_mem _ hq)) (by simpa using hf)
   have e:(Am s (T :: l)).take k=Dl s T ++ (Am (Cn s T) l).take (k - (Dl s T).length):=by
    rw [Am,List.take_append,List.take_of_length_le hk]
   refine ⟨j+1,?_,by simpa using j2,?_⟩
   ·rw [e,Ak,Uo hT]
    simp only [List.take_succ_cons,j1]
   ·rw [e,Ak,Uo hT]
    simpa using j3
def EO (a b:Tx):Tx × Int × Int :=
 let x:=Ak 100 0 a
 let y:=Ak 100 0 b
 if x.2 ≠ [] \/ y.2 ≠ [] then ([],0,12)
 else match (List.range (min x.1.length y.1.length)).find? (fun i=>x.1.getD i [] != y.1.getD i []) with
  | some i=>([],(i:Int),7)
  | none=>if x.1.length < y.1.length then (b,(y.1.length:Int),0) else (a,(x.1.length:Int),0)
end Go.Ab.Gi
namespace Go.Ab.Gi
open Go Go.Ab
def Uc:Nat -> Tx -> List Tx
 | 0,T=>[T]
 | k+1,T=>if (tw 32 T).length < T.length then tw 32 T :: Uc k (T.drop ((tw 32 T).length+1)) else [T]
def dS (T:Tx):List Tx:=Uc T.length T
theorem lY (c:UInt8) (T:Tx):T.count c=if (tw c T).length < T.length then 1+(T.drop ((tw c T).length+1)).count c else 0:=by
 by_cases h:(tw c T).length < T.length
 ·rw [if_pos h]
  have e:=He c h
  have hz:(tw c T).count c=0:=List.count_eq_zero.2 fun hm=>Zo c T c hm rfl
  conv=>lhs;rw [e]
  rw [List.count_append,List.count_cons_self,hz];omega
 ·rw [if_neg h]
  have e:=MQ c T
  rw [List.take_of_length_le (by have:=QA c T;omega)] at e
  rw [e]
  exact List.count_eq_zero.2 fun hm=>Zo c T c hm rfl
theorem TA:∀ (k m:Nat) (T:Tx),T.length <= k -> T.count 32 <= m -> Uc k T=Lib.splitK [32] 0 m T
 | 0,m,T,hk,hm=>by
  have:T=[]:=List.eq_nil_of_length_eq_zero (by omega)
  subst this
  cases m with
  | zero=>rfl
  | succ m=>simp [Uc,Lib.splitK,Lib.index]
 | k+1,m,T,hk,hm=>by
  have hc:=lY 32 T
  rw [Uc]
  by_cases h:(tw 32 T).length < T.length
  ·rw [if_pos h] at hc ⊢
   cases m with
   | zero=>omega
   | succ m =>
    have hi:=NJ 32 T
    rw [if_pos h] at hi
    have e0:T.take ((tw 32 T).length+0)=tw 32 T:=MQ 32 T
    rw [Lib.splitK,hi,if_neg (by rw [beq_iff_eq];omega),Int.toNat_natCast,e0]
    rw [TA k m (T.drop ((tw 32 T).length+1)) (by simp;omega) (by omega)]
    rfl
  ·rw [if_neg h] at ⊢
   cases m with
   | zero=>rfl
   | succ m =>
    have hi:=NJ 32 T
    rw [if_neg h] at hi
    rw [Lib.splitK,hi,if_pos (by rfl)]
theorem dR (T:Tx):Lib.split T [32]=dS T:=by
 unfold Lib.split dS
 rw [Lib.count_one]
 exact (TA _ _ T (Nat.le_refl _) (Nat.le_refl _)).symm
theorem ug:∀ (k:Nat) (T:Tx),Uc k T ≠ []
 | 0,T=>by simp [Uc]
 | k+1,T=>by rw [Uc];split<;>simp
theorem Zv:∀ (k:Nat) (T W:Tx),W ∈ Uc k T -> W.length <= T.length
 | 0,T,W,h=>by simp only [Uc,List.mem_singleton] at h;rw [h];exact Nat.le_refl _
 | k+1,T,W,h=>by
  rw [Uc] at h
  split at h
  ·rcases List.mem_cons.1 h with rfl | h
   ·exact QA 32 T
   ·have:=Zv k _ W h
    simp at this;omega
  ·simp only [List.mem_singleton] at h;rw [h];exact Nat.le_refl _
theorem TB:∀ (k:Nat) (T:Tx),(Uc k T).length <= T.length+1
 | 0,T=>by simp [Uc]
 | k+1,T=>by
  rw [Uc]
  split
  ·have:=TB k (T.drop ((tw 32 T).length+1))
   simp at this ⊢;omega
  ·simp
def Iq (w:Tx):Option Nat:=(List.range 1000).find? fun n=>dd n == w
set_option maxRecDepth 100000 in
theorem NV:∀ n < 1000,Lib.atoiAll (dd n)=.ok (n:Int) /\ (dd n).length <= 3:=by decide +kernel
theorem JF {w:Tx} {n:Nat} (h:Iq w=some n):n < 1000 /\ dd n=w:=by
 have h1:=List.find?_some h
 have h2:=List.mem_of_find?_eq_some h
 exact ⟨List.mem_range.1 h2,by simpa using h1⟩
theorem xJ {a b:Nat} (ha:a < 1000) (hb:b < 1000) (h:dd a=dd b):a=b:=by
 have h1:=(NV a ha).1
 have h2:=(NV b hb).1
 rw [h,h2] at h1
 have:(b:Int)=(a:Int):=by injection h1
 omega
theorem oK {n:Nat} (hn:n < 1000):Iq (dd n)=some n:=by
 cases h:Iq (dd n) with
 | none =>
  have:=List.find?_eq_none.1 h n (List.mem_range.2 hn)
  simp at this
 | some m =>
  obtain ⟨h1,h2⟩:=JF h
  rw [xJ h1 hn h2]
theorem H7 {w:Tx} {v:Int} (h1:Lib.atoiAll w=.ok v):Iq w=if Lib.itoa v=w /\ 0 <= v /\ v <= 999 then some v.toNat else none:=by
 split
 ·rename_i h
  obtain ⟨h2,h3,h4⟩:=h
  have e:w=dd v.toNat:=by
   rw [<- h2]
   unfold Lib.itoa dd
   rw [if_neg (by omega)]
  rw [e]
  exact oK (by omega)
 ·rename_i h
  cases hn:Iq w with
  | none=>rfl
  | some n =>
   obtain ⟨k1,k2⟩:=JF hn
   have k3:=(NV n k1).1
   rw [k2,h1] at k3
   have:v=(n:Int):=by injection k3
   subst this
   refine absurd ⟨?_,Int.natCast_nonneg n,by omega⟩ h
   unfold Lib.itoa
   rw [if_neg (by omega),Int.toNat_natCast]
   exact k2
theorem jS {w:Tx} (h:∀ v,Lib.atoiAll w ≠ .ok v):Iq w=none:=by
 cases hn:Iq w with
 | none=>rfl
 | some n =>
  obtain ⟨k1,k2⟩:=JF hn
  exact absurd (by rw [<- k2];exact (NV n k1).1) (h n)
abbrev nV:Tx:=[100,97,121]
abbrev nW:Tx:=[99,117,116]
abbrev Zl:Tx:=[108,111,97,100]
abbrev nU:Tx:=[119,101,116]
abbrev Zk:Tx:=[115,104,117,116]
def Dm (w:Tx):Option (Nat × Nat) :=
 if w=nV then some (0,0) else if w=nW then some (1,1) else if w=Zl then some (2,2) else if w=nU then some (3,2) else if w=Zk then some (4,0) else none
def Js:List Tx -> Option (List Nat)
 | []=>some []
 | w :: l=>(Iq w).bind fun n=>(Js l).map (n :: ·)
def CQ (T:Tx):Option (Nat × List Nat) :=
 match dS T with
 | []=>none
 | w :: ws=>match Dm w with
  | none=>none
  | some (k,c)=>if 40 < T.length \/ ws.length ≠ c then none else (Js ws).map fun ns=>(k,ns)
theorem Lg {w:Tx} {ws:List Tx} {ns:List Nat} (h:Js (w :: ws)=some ns):∃ n ns',Iq w=some n /\ Js ws=some ns' /\ ns=n :: ns':=by
 have h':(Iq w).bind (fun n=>(Js ws).map (n :: ·))=some ns:=h
 obtain ⟨n,h1,h3⟩:=Option.bind_eq_some_iff.1 h'
 obtain ⟨ns',h2,h4⟩:=Option.map_eq_some_iff.1 h3
 exact ⟨n,ns',h1,h2,h4.symm⟩
theorem eH {ws:List Tx} {ns:List Nat} (h:Js ws=some ns):ns.length=ws.length /\ ∀ n ∈ ns,n < 1000:=by
 induction ws generalizing ns with
 | nil =>
  have:some []=some ns:=h
  cases this
  simp
 | cons w ws ih =>
  obtain ⟨n,ns',h1,h2,rfl⟩:=Lg h
  obtain ⟨k1,k2⟩:=ih h2
  refine ⟨by simp [k1],fun m hm=>?_⟩
  rcases List.mem_cons.1 hm with rfl | hm
  ·exact (JF h1).1
  ·exact k2 m hm
theorem aL:∀ (k:Nat) (T:Tx) (b:UInt8),b ∈ T -> b=32 \/ ∃ W ∈ Uc k T,b ∈ W
 | 0,T,b,h=>.inr ⟨T,by simp [Uc],h⟩
 | k+1,T,b,h=>by
  rw [Uc]
  by_cases hl:(tw 32 T).length < T.length
  ·rw [if_pos hl]
   have e:=He 32 hl
   rw [e] at h
   rcases List.mem_append.1 h with h | h
   ·exact .inr ⟨_,by simp,h⟩
   ·rcases List.mem_cons.1 h with h | h
    ·exact .inl h
    ·rcases aL k _ b h with h | ⟨W,h1,h2⟩
     ·exact .inl h
     ·exact .inr ⟨W,List.mem_cons_of_mem _ h1,h2⟩
  ·rw [if_neg hl]
   exact .inr ⟨T,by simp,h⟩
theorem pG {w:Tx} {x:Nat × Nat} (h:Dm w=some x):∀ b ∈ w,b ≠ 10:=by
 unfold Dm at h
 split at h
 ·rename_i e;subst e;decide
 ·split at h
  ·rename_i e;subst e;decide
  ·split at h
   ·rename_i e;subst e;decide
   ·split at h
    ·rename_i e;subst e;decide
    ·split at h
     ·rename_i e;subst e;decide
     ·cases h
theorem oJ {ws:List Tx} {ns:List Nat} (h:Js ws=some ns):∀ W ∈ ws,∀ b ∈ W,b ≠ 10:=by
 induction ws generalizing ns with
 | nil=>intro W hW;cases hW
 | cons w ws ih =>
  obtain ⟨n,ns',h1,h2,rfl⟩:=Lg h
  intro W hW b hb
  rcases List.mem_cons.1 hW with rfl | hW
  ·rw [<- (JF h1).2] at hb
   exact lQ (by decide) b hb
  ·exact ih h2 W hW b hb
theorem Yo {T:Tx} {x:Nat × List Nat} (h:CQ T=some x):Es T=true:=by
 unfold CQ at h
 split at h
 ·cases h
 ·rename_i w ws hs
  split at h
  ·cases h
  ·rename_i k c hk
   split at h
   ·cases h
   ·rename_i hc
    obtain ⟨ns,hns,_⟩:=Option.map_eq_some_iff.1 h
    have hno:∀ b ∈ T,b ≠ 10:=fun b hb=>by
     rcases aL T.length T b hb with rfl | ⟨W,hW,hb2⟩
     ·decide
     ·have hW2:W ∈ w :: ws:=hs ▸ hW
      rcases List.mem_cons.1 hW2 with rfl | hW3
      ·exact pG hk b hb2
      ·exact oJ hns W hW3 b hb2
    have hne:1 <= T.length:=by
     cases T with
     | nil =>
      have:dS []=[[]]:=rfl
      rw [this] at hs
      simp only [List.cons.injEq] at hs
      rw [<- hs.1] at hk
      cases hk
     | cons b T=>simp
    have hl:T.length <= 40:=by omega
    have hn:T.contains 10=false:=by
     cases h9:T.contains 10 with
     | false=>rfl
     | true=>exact absurd rfl (hno 10 (List.contains_iff_mem.1 h9))
    unfold Es
    rw [hn,decide_eq_true hne,decide_eq_true hl];rfl
end Go.Ab.Gi
namespace Go.Ab.Tryz
open Go Go.Ab Go.Proofs Go.RowKit Go.Ab.Gi
theorem en87:ES Tryz.prog 87:=⟨_,Tryz.func87,rfl,rfl⟩
theorem en83:ES Tryz.prog 83:=⟨_,Tryz.func83,rfl,rfl⟩
theorem A0R:ES Tryz.prog 127:=⟨_,Tryz.func127,rfl,rfl⟩
theorem A0Q:ES Tryz.prog 148:=⟨_,Tryz.func148,rfl,rfl⟩
theorem A0P:ES Tryz.prog 149:=⟨_,Tryz.func149,rfl,rfl⟩
theorem Uz {w:World} (h:Laid w) {g:Nat} {C:Value -> Prop} (hm:(g,[C]) ∈ FC):∃ v,w.cell? ⟨g,0,none⟩=some v /\ C v :=
 (h (g,[C]) hm).2 0 C rfl
theorem len1 {w:World} (h:Laid w):∃ m,w.cell? ⟨1,0,none⟩=some (.int .i64 m):=by
 obtain ⟨v,hv,m,rfl⟩:=Uz h (g:=1) (C:=fun v=>∃ m,v=.int .i64 m) (by simp [FC])
 exact ⟨m,hv⟩
theorem err3 {w:World} (h:Laid w):∃ v,w.cell? ⟨3,0,none⟩=some v /\ (v=.nilIface \/ ∃ t p,v=.iface t p) :=
 Uz h (g:=3) (C:=fun v=>v=.nilIface \/ ∃ t p,v=.iface t p) (by simp [FC])
theorem err4 {w:World} (h:Laid w):∃ v,w.cell? ⟨4,0,none⟩=some v /\ (v=.nilIface \/ ∃ t p,v=.iface t p) :=
 Uz h (g:=4) (C:=fun v=>v=.nilIface \/ ∃ t p,v=.iface t p) (by simp [FC])
theorem tab2 {w:World} (h:Laid w):Lib.TabIs Tryz.prog w "internal/strconv.uint64pow10" .u64 Lib.pow10Tab:=by
 have hm:(2,Lc.map fun n v=>v=Value.int .u64 n) ∈ FC:=by simp [FC]
 obtain ⟨⟨cur,t,hc,hs⟩,hv⟩:=h _ hm
 have hg:Tryz.prog.globalNamed "internal/strconv.uint64pow10"=some 2:=by kernel_rfl
 have hp:Lib.pow10Tab=Lc:=by decide +kernel
 unfold Lib.TabIs World.var?
 rw [hg]
 simp only [Option.bind_some]
 simp only at hc
 rw [hc,hp]
 simp only [Option.some.injEq]
 simp only [List.length_map] at hs
 refine Array.ext (by simpa using hs) fun j h1 h2=>?_
 have hj:j < Lc.length:=by simpa using h2
 obtain ⟨v,e1,e2⟩:=hv j (fun v=>v=Value.int .u64 Lc[j]) (by simp [hj])
 subst e2
 have e3:=Lib.cell_of_heap hc j
 simp only at e1
 rw [e1] at e3
 rw [Array.getElem?_eq_getElem h1] at e3
 have:=Option.some.inj e3
 rw [<- this];simp
theorem f87 (n:Int) (h0:-9223372036854775808 <= n) (h1:n <= 9223372036854775807):AR Tryz.prog 87 [i64 n] (.one (.dv (.str (bs (Lib.itoa n))))):=by
 refine ⟨en87,fun w vs hl ha=>?_⟩
 obtain rfl:=args1 ha fun u hu=>Un hu
 refine (Tryz.strconv_Itoa n h0 h1 w (tab2 hl)).mono fun e w' ⟨he,k,os,hw⟩=>?_
 subst he;subst hw
 exact ⟨_,rfl,Go.Lib.below_grow _ w (Nat.le_refl _) k os,La (.str _)⟩
theorem f83 (s p:Tx) (hs:s.length < 4294967281):AR Tryz.prog 83 [.str (bs s),.str (bs p)] (.many [.dv (.str (bs (Lib.cut s p).1)),.dv (.str (bs (Lib.cut s p).2.1)),.dv (.bool (Lib.cut s p).2.2)]):=by
 refine ⟨en83,fun w vs hl ha=>?_⟩
 obtain rfl:=args2 ha (fun u hu=>G9 hu) (fun u hu=>G9 hu)
 obtain ⟨m,hm⟩:=len1 hl
 refine (Tryz.strings_Cut (bs s) (bs p) m w (by rw [FD];exact hs) hm).mono fun e w' ⟨he,n,hw⟩=>?_
 subst he;subst hw
 exact ⟨_,rfl,below_drewN (Below.refl _ _) n,oC (.str _) (.str _) (.bool _)⟩
theorem f127 (s p:Tx) (hs:s.length < 4294967281):AR Tryz.prog 127 [.str (bs s),.str (bs p)] (.one (.dv (.bool (Lib.contains s p)))):=by
 refine ⟨A0R,fun w vs hl ha=>?_⟩
 obtain rfl:=args2 ha (fun u hu=>G9 hu) (fun u hu=>G9 hu)
 obtain ⟨m,hm⟩:=len1 hl
 refine (Tryz.strings_Contains (bs s) (bs p) m w (by rw [FD];exact hs) hm).mono fun e w' ⟨he,hw⟩=>?_
 subst he;subst hw
 exact ⟨_,rfl,Below.refl _ _,La (.bool _)⟩
def spl (s p:ByteArray):List ByteArray:=Lib.splitB p 0 (Lib.countB s p) s
theorem iW (s p:ByteArray):(spl s p).map (·.data.toList)=Lib.split s.data.toList p.data.toList:=Lib.splitB_data ..
theorem uf (s p:Tx):spl (bs s) (bs p)=(Lib.split s p).map bs:=by
 have h:=iW (bs s) (bs p)
 have:(spl (bs s) (bs p)).map (fun x=>bs x.data.toList)=(Lib.split s p).map bs:=by
  have h2:=congrArg (List.map bs) h
  rw [List.map_map] at h2
  exact h2
 rw [<- this]
 conv=>lhs;rw [<- List.map_id (spl (bs s) (bs p))]
 exact List.map_congr_left fun x _=>(Pt x).symm
abbrev Cg (T:Tx):DV:=.str (bs T)
theorem f148 (s p:Tx) (hs:s.length < 4294967281) (hp:1 <= p.length):AR Tryz.prog 148 [Cg s,Cg p] (.one (.dv (.list ((Lib.split s p).map Cg)))):=by
 refine ⟨A0Q,fun w vs hl ha=>?_⟩
 obtain rfl:=args2 ha (fun u hu=>G9 hu) (fun u hu=>G9 hu)
 obtain ⟨m,hm⟩:=len1 hl
 have hp':1 <= (bs p).size:=by rw [FD];exact hp
 refine (Tryz.strings_Split (bs s) (bs p) m w (by rw [FD];exact hs) hm hp').mono fun e w' ⟨he,hw⟩=>?_
 have hlen:(spl (bs s) (bs p)).length=Lib.countB (bs s) (bs p)+1:=Lib.splitB_all (bs p) hp' 0 _ (bs s) rfl
 have e1:(Lib.split s p).map Cg=(spl (bs s) (bs p)).map DV.str:=by rw [uf,List.map_map];rfl
 subst he
 rw [e1]
 refine ⟨_,rfl,?_,La ?_⟩
 ·rw [hw];exact (Below.refl _ _).alloc (Nat.le_refl _) _
 ·have h:=iq (w:=w) (w':=w') (Y:=fun b=>b < w.heap.size \/ El [none] b) (l:=spl (bs s) (bs p)) (cap:=Lib.countB (bs s) (bs p)+1) hw (fun b hb=>hb.elim id fun h=>(YW h).elim) (by omega)
  rw [hlen] at h
  exact h
def Rn (x:List UInt8):Int × DV:=match Lib.atoiAll x with
 | .ok v=>(v,.nilIface)
 | .range=>(Lib.atoiSat x,.iface 241 (.Cy []))
 | _=>(0,.iface 241 (.Cy []))
theorem WO {w:World} {X:Nat -> Prop} {b:Nat} (hb:b < w.heap.size) (hx:¬ X b):Bn w X (.iface 241 (.Cy [])) (.iface 241 (.pointer (some ⟨b,0,none⟩))) :=
 .iface _ _ _ (.Cy [] b 0 (fun _=>undef) hx hb (fun j c h=>by simp at h) (fun j c h=>by simp at h))
theorem f149 (s:Tx) (hs:s.length <= 4294967281):AR Tryz.prog 149 [Cg s] (.many [.dv (i64 (Rn s).1),.dv (Rn s).2]):=by
 refine ⟨A0P,fun w vs hl ha=>?_⟩
 obtain rfl:=args1 ha fun u hu=>G9 hu
 have hz:(bs s).size <= 4294967281:=by rw [FD];exact hs
 unfold Rn
 cases he:Lib.atoiAll s with
 | ok v =>
  refine (Tryz.strconv_Atoi_ok (bs s) (by omega) v he w).mono fun e w' ⟨he,hw⟩=>?_
  subst he
  refine ⟨_,rfl,?_,Um (.int _ _) .nilIface⟩
  rcases hw with rfl | ⟨t,rfl⟩
  ·exact Below.refl _ _
  ·exact Lib.bytesWorld_below _ _ _
 | range =>
  obtain ⟨ev,hv,hev⟩:=err4 hl
  refine (Tryz.strconv_Atoi_range (bs s) (by omega) he ev w hv hev).mono fun e w' ⟨N,he,h1,h2,hb⟩=>?_
  subst he
  have hN:N < w'.heap.size:=by
   by_cases h:N < w'.heap.size
   ·exact h
   ·rw [Array.getElem?_eq_none (by omega)] at h2;cases h2
  exact ⟨_,rfl,hb,Um (.int _ _) (WO hN fun h=>h.elim (fun h=>by omega) Q7)⟩
 | _ =>
  obtain ⟨ev,hv,hev⟩:=err3 hl
  refine (Any.strconv_Atoi_syntax Tryz.laysC172 (bs s) (by omega) he ev w hv hev).mono fun e w' ⟨N,he,h1,h2,hb⟩=>?_
  subst he
  have hN:N < w'.heap.size:=by
   by_cases h:N < w'.heap.size
   ·exact h
   ·rw [Array.getElem?_eq_none (by omega)] at h2;cases h2
  exact ⟨_,rfl,hb,Um (.int _ _) (WO hN fun h=>h.elim (fun h=>by omega) Q7)⟩
end Go.Ab.Tryz
set_option linter.unusedSimpArgs false
namespace Go.Ab
open Go.RowKit
section
variable {F:Fence} {n:Nat} {P:Program} {Q:Exit -> Act -> World -> Prop} {a:Act} {w:World}
def LoopIn (F:Fence) (n:Nat) (P:Program) (c:Code) (Q:Exit -> Act -> World -> Prop) (a:Act) (w:World):Prop :=
 ∀ (b:Frame) (k:List Item) (cs:List Frame),b.roundOf=F.round -> F.fn b.fn -> F.room (cs.length+1+n) →
  ∃ e a' w',Q e a' w' /\ ArrivesIn (Machine.fenced P F) P (lone (b.atR a (.code c :: .inLoop c :: k)) cs w) b k cs e a' w'
theorem Od {b:Frame} {a:Act} {k:List Item} {cs:List Frame} {w:World} {c:Code}:step P (lone (b.atR a (.code (.scope c) :: k)) cs w)=.next (lone (b.atR a (.code c :: .inScope c :: k)) cs w) :=
 step_lone_go (by simp [stepG,stepG.exec,Frame.atR])
theorem SG {b:Frame} {a:Act} {k:List Item} {cs:List Frame} {w:World} {c:Code}:step P (lone (b.atR a (.inScope c :: k)) cs w)=.next (lone (b.atR a k) cs w) :=
 step_lone_go (by simp [stepG,stepG.exec,Frame.atR])
theorem Nv {c rest:Code} (l:Nat) (J:Act -> World -> Prop) (μ:Act -> World -> Nat) (hf:findLabel c l=some rest)
  (first:c.wpIn F n P (Exit.jump l J Q) a w)
  (pass:∀ a w,J a w -> rest.wpIn F n P (Exit.jump l (fun a' w'=>J a' w' /\ μ a' w' < μ a w) Q) a w):(Code.scope c).wpIn F n P Q a w:=by
 intro b k cs hro hb hr
 have hg:gotoIn l (.inScope c :: k)=some (.code rest :: .inScope c :: k):=by simp [gotoIn,hf]
 have leave:∀ {m:Machine} {e:Exit} {a₁:Act} {w₁:World},(∀ l',e ≠ .goto l') -> ArrivesIn (Machine.fenced P F) P m b (.inScope c :: k) cs e a₁ w₁ -> ArrivesIn (Machine.fenced P F) P m b k cs e a₁ w₁:=by
  intro m e a₁ w₁ hne harr
  cases e with
  | normal=>exact StepsIn.trans harr (.one (fenced_calm hb hr rfl) SG)
  | exit id =>
   have hx:exitTo id (.inScope c :: k)=exitTo id k:=by simp [exitTo]
   exact ⟨fun k' hk=>harr.1 k' (by rw [hx];exact hk),fun hr' hk=>harr.2 hr' (by rw [hx];exact hk)⟩
  | goto l'=>exact absurd rfl (hne l')
  | ret=>exact harr
  | panic ch=>exact harr
  | outgrown=>exact harr
 have key:∀ n a w,μ a w=n -> J a w -> ∃ e a' w',Q e a' w' /\ ArrivesIn (Machine.fenced P F) P (lone (b.atR a (.code rest :: .inScope c :: k)) cs w) b k cs e a' w':=by
  intro n
  induction n using Nat.strongRecOn with
  | _ n ih =>
   intro a w hn hJ
   obtain ⟨e,a₁,w₁,hq,harr⟩:=pass a w hJ b (.inScope c :: k) cs hro hb hr
   by_cases hgt:∃ l',e=.goto l'
   ·obtain ⟨l',rfl⟩:=hgt
    obtain ⟨rfl,hJ',hlt⟩:=hq
    obtain ⟨e₂,a₂,w₂,hq₂,harr₂⟩:=ih _ (by omega) a₁ w₁ rfl hJ'
    exact ⟨e₂,a₂,w₂,hq₂,.of_steps (harr.1 _ hg) harr₂⟩
   ·have hne:∀ l',e ≠ .goto l':=fun l' h=>hgt ⟨l',h⟩
    refine ⟨e,a₁,w₁,?_,leave hne harr⟩
    cases e with
    | goto l'=>exact absurd rfl (hne l')
    | _=>exact hq
 obtain ⟨e,a₁,w₁,hq,harr⟩:=first b (.inScope c :: k) cs hro hb hr
 have h0:(lone (b.atR a (.code (.scope c) :: k)) cs w).fenced P F:=fenced_calm hb hr rfl
 by_cases hgt:∃ l',e=.goto l'
 ·obtain ⟨l',rfl⟩:=hgt
  obtain ⟨rfl,hJ'⟩:=hq
  obtain ⟨e₂,a₂,w₂,hq₂,harr₂⟩:=key _ a₁ w₁ rfl hJ'
  exact ⟨e₂,a₂,w₂,hq₂,.of_steps (.head h0 Od (harr.1 _ hg)) harr₂⟩
 ·have hne:∀ l',e ≠ .goto l':=fun l' h=>hgt ⟨l',h⟩
  refine ⟨e,a₁,w₁,?_,.of_steps (.one h0 Od) (leave hne harr)⟩
  cases e with
  | goto l'=>exact absurd rfl (hne l')
  | _=>exact hq
end
section
variable {cx:Cx} {S S0:St}
def tL (cx:Cx) {ι:Type} (l:Nat) (inv:ι -> St) (φ:ι -> Prop) (K:Exit -> St -> Prop):Exit -> St -> Prop
 | .goto l',S=>l'=l /\ ∃ j,φ j /\ Le cx S (inv j)
 | e,S=>K e S
theorem PN {ι:Type} {c rest:Code} {K:Exit -> St -> Prop} (l:Nat) (inv:ι -> St) (φ:ι -> Prop) (m:ι -> Nat) (hf:findLabel c l=some rest) (first:EF cx c (tL cx l inv φ K) S)
  (pass:∀ i,φ i -> EF cx rest (tL cx l inv (fun j=>φ j /\ m j < m i) K) (inv i)):EF cx (.scope c) K S:=by
 intro a w hs
 refine Nv l (fun a w=>∃ n,∃ i,φ i /\ m i=n /\ JQ cx (inv i) a w) (fun a w=>leastOf (fun n=>∃ i,φ i /\ m i=n /\ JQ cx (inv i) a w)) hf ?_ ?_
 ·refine wpIn_mono (first a w hs) ?_
  rintro e a' w' (⟨S',h1,h2⟩ | ⟨rfl,hf⟩)
  ·cases e with
   | goto l' =>
    obtain ⟨rfl,j,hj,hle⟩:=h2
    exact ⟨rfl,m j,j,hj,rfl,hle a' w' h1⟩
   | _=>exact .inl ⟨S',h1,h2⟩
  ·exact .inr ⟨rfl,hf⟩
 ·rintro a w hJ
  obtain ⟨i,hi,hm,h⟩:=(leastOf_spec hJ).1
  refine wpIn_mono (pass i hi a w h) ?_
  rintro e a' w' (⟨S',h1,h2⟩ | ⟨rfl,hf⟩)
  ·cases e with
   | goto l' =>
    obtain ⟨rfl,j,⟨hj,hlt⟩,hle⟩:=h2
    have hn:∃ n,∃ i,φ i /\ m i=n /\ JQ cx (inv i) a' w':=⟨m j,j,hj,rfl,hle a' w' h1⟩
    refine ⟨rfl,hn,?_⟩
    have:=(leastOf_spec hn).2 (m j) ⟨j,hj,rfl,hle a' w' h1⟩
    rw [<- hm]
    exact Nat.lt_of_le_of_lt this hlt
   | _=>exact .inl ⟨S',h1,h2⟩
  ·exact .inr ⟨rfl,hf⟩
theorem Y9 {l:Nat} {K:Exit -> St -> Prop} (h:K (.goto l) S):EF cx (.goto l) K S:=fun _ _ hs=>wpIn_goto (.inl ⟨S,hs,h⟩)
end
section
variable {cx:Cx} {S:St} {a:Act} {w:World} {o:Oper}
theorem BJ.Bd {μ:Nat -> Option (Nat × Nat)} (h:BJ cx S a w μ):BJ cx ⟨S.F,Bd S.M⟩ a w μ:=h.weak (fun i=>.inr rfl) fun t=>by
 show Ab.Bd S.M t=S.M t \/ Ab.Bd S.M t=((S.M t).1,none)
 unfold Ab.Bd
 cases hq:(S.M t).2 with
 | none=>exact .inl rfl
 | some b' =>
  simp only
  split
  ·exact .inr rfl
  ·exact .inl rfl
theorem Nw {M:Nat -> Nat × Option Au} {t g:Nat} {b:Au} (hM:M t=(g,some b)) (hst:ED b.st):upd (Bd M) t (g,some b)=Bd M:=by
 funext q
 by_cases hq:q=t
 ·subst hq
  rw [upd_same]
  unfold Bd
  rw [hM]
  have:¬ b.st=2:=by unfold ED at hst;omega
  simp [this]
 ·rw [upd_ne _ _ _ _ hq]
theorem gG (h0:JQ cx S a w) {x y:Operand} {t ty e ey:TypeId} (ho:o.op=.call { callee:=.builtin .copy,args:=#[x,y],argTypes:=#[t,ty] }) {d:Nat} (hd:o.dst=some d) (hdn:d < cx.n) {tg g n:Nat} {blk:Au} {news:List SV}
  (hx:S.look x=(.sl tg g 0 n,some blk)) (he:Cr cx.P t=some e) (hey:Cr cx.P ty=some ey) (hs1:Ec cx.P e=some 1) (hb1:blk.C8=1) (hst:ED blk.st) (hlen:blk.cells.length=n) (hsrc:Ee 1 (S.look y)=some (n,news)) :
  Does cx ⟨upd S.F d (.dv (.int .i64 n)),upd (Bd S.M) tg (g,some { blk with cells:=news })⟩ o a w:=by
 obtain ⟨μ,h⟩:=h0
 have ex:S.ev x=.sl tg g 0 n:=congrArg Prod.fst hx
 have eb:AO S.M (S.ev x)=some blk:=congrArg Prod.snd hx
 have hv:=h.ev x
 rw [ex] at hv eb
 have hM:=IC eb
 simp only [AJ] at hv
 have hv2:=hv.2 _ hM
 have hb:=h.blk tg g _ hM
 have hu:=ER he
 obtain ⟨nv,Ji,hnews⟩:=Zt (w:=w) h (s:=S.ev y) hsrc (h.ev y) (ER hey)
 have hnl:=Ji.newsLen
 rw [Nat.mul_one] at hnl
 have hnl2:=hnews.length
 obtain ⟨i,hi,hi1⟩:=Option.map_eq_some_iff.1 (show (cx.P.info? e).map (·.size)=some 1 from hs1)
 have z8:∀ w',(Builtin.copy_ #[t,ty] o.type #[a.eval x,a.eval y]).run cx.P w=.ok (.int .i64 n) w' -> (execOp a.eval o).run cx.P w=.ok (.value (.int .i64 n)) w':=fun w' hr=>by
  refine Gw ho ?_
  simp only [builtin,Sem.run_bind,List.map_toArray,List.map_cons,List.map_nil,hr,Result.andThen_ok]
  rfl
 unfold Bt at hb
 cases hm:μ tg with
 | none =>
  rw [hm] at hv2 hb
  simp only at hv2 hb
  obtain ⟨hv3,rfl,_⟩:=hv2
  have hnil:news=[]:=List.eq_nil_of_length_eq_zero (by omega)
  have yN:nv=[]:=List.eq_nil_of_length_eq_zero hnl
  subst hnil;subst yN
  have hblk:({ blk with cells:=[] }:Au)=blk:=by rw [<- hb.1]
  intro Q
  unfold Oper.wp
  have hc:=Ji.cells
  have hl:=Ji.len w
  rw [z8 w (by rw [hv3];simp [Builtin.copy_,run_underlying hu,sizeOf,typeInfo,hi,hi1,hl,hc,goInt])]
  show JQ cx _ (a.put o.dst _) w
  rw [hd,hblk,Nw hM hst]
  exact ⟨μ,h.Bd.set hdn (by simp only [AJ];exact .int _ _)⟩
 | some p =>
  obtain ⟨b,cap⟩:=p
  rw [hm] at hv2 hb
  simp only at hv2 hb
  obtain ⟨hv3,hcap⟩:=hv2
  obtain ⟨cur,q1,q2,q3,q4,q5⟩:=hb
  simp only [Nat.zero_mul,Nat.sub_zero] at hv3
  have hst':=run_storeCells_at cx.P b 0 blk.elem nv 0 cur w q1 (by simp;omega) Ji.one
  simp only [Nat.add_zero] at hst'
  have hW:=h.write hM hst hm q1 0 news nv (by omega) (fun j c u hc hu=>hnews.get j c u hc hu) (by omega)
  have hcells:putCells blk.cells 0 news=news:=by
   unfold putCells
   rw [List.take_zero,List.nil_append,List.drop_of_length_le (by omega),List.append_nil]
  rw [hcells] at hW
  intro Q
  unfold Oper.wp
  have hc:=Ji.cells
  have hl:=Ji.len w
  rw [z8 (w.setRow b (putCells cur.toList 0 nv).toArray) (by
   rw [hv3]
   unfold putCells
   simp [Builtin.copy_,run_underlying hu,sizeOf,typeInfo,hi,hi1,hl,hc,goInt,hst'])]
  show JQ cx _ (a.put o.dst _) _
  rw [hd]
  exact ⟨μ,hW.set hdn (by simp only [AJ];exact .int _ _)⟩
end
end Go.Ab
set_option linter.unusedVariables false
namespace Go.Ab
open Go.RowKit
section
variable {cx:Cx} {S:St} {a:Act} {w:World} {o:Oper}
end
section
variable {cx:Cx} {P:Program} {N:Nat} {ops:Array Oper} {rest:List Oper} {l:List (Nat × SV)} {m m':List (Nat × Nat × Option Au)} {K:St -> Prop} {KD:List It -> St -> Prop} {its:List It}
 {d:Nat} {ty ty':TypeId} {p:String} {af:Array Edge} {gd:Option (Nat × Bool)} {x y lo hi mx:Operand} {t e ey:TypeId} {tg g n st:Nat} {k:IntKind} {L L0:List Int}
theorem qcp {ob:Option Au} (he:Cr P t=some e) (hey:Cr P ty'=some ey) (hs1:Ec P e=some 1) (kk:Chain cx ops rest ⟨lk ((d,.dv (.int .i64 n)) :: l),AA ((tg,g,some ⟨L.map fun q=>.dv (.int k q),1,e,st,true⟩) :: m')⟩ K)
  (hx:St.look ⟨lk l,AA m⟩ x=(.sl tg g 0 n,some ⟨L0.map fun q=>.dv (.int k q),1,e,st,true⟩):=by (simp only [St.look,St.ev,lk,AA,AO,Ah,Ag,reduceIte,Nat.reduceAdd,Nat.reduceEqDiff,Nat.reduceMul]<;>rfl)) (hy:St.look ⟨lk l,AA m⟩ y=(.dv (.list (L.map (DV.int k))),ob):=by (simp only [St.look,St.ev,lk,AA,AO,Ah,Ag,reduceIte,Nat.reduceAdd,Nat.reduceEqDiff,Nat.reduceMul]<;>rfl)) (hst:ED st:=by (first | exact .inl rfl | exact .inr (Nat.le_of_ble_eq_true rfl))) (hl0:L0.length=n:=by (first | rfl | (simp;done) | (simp;omega))) (hl:L.length=n:=by (first | rfl | (simp;done) | (simp;omega))) (hm:OA m=m':=by (simp only [OA,NH]<;>rfl)) (hP:cx.P=P:=by assumption) (hn:cx.n=N:=by assumption) (hd:d < N:=by decide) (hgd:G8 ops ⟨lk l,AA m⟩ gd:=by (first | exact trivial | exact ⟨_,rfl,by (simp only [lk,reduceIte,Nat.reduceEqDiff])⟩)) :
  Chain cx ops (⟨some d,.call { callee:=.builtin .copy,args:=#[x,y],argTypes:=#[t,ty'] },ty,p,af,gd⟩ :: rest) ⟨lk l,AA m⟩ K:=by
 subst hP;subst hn;subst hm
 refine ⟨_,Fe hgd (.sem fun _ a w h=>gG h rfl rfl hd hx he hey hs1 rfl hst (by simpa using hl0) (by rw [hy,<- hl];exact Hg)),?_⟩
 simp only [Er,EM,EY]
 exact kk
end
end Go.Ab
namespace Go.Ab.Tryz
open Go Go.Ab Go.Proofs Go.RowKit Go.Ab.Gi
abbrev GL (L:List Tx):DV:=.list (L.map Cg)
abbrev rX (L:List Tx):R1:=.row 1 9 L.length (L.map Cg)
abbrev Jz (L:List Tx):Au:=⟨L.map fun T=>.dv (Cg T),1,9,0,true⟩
theorem rJ {a b:Tx}:Cg a=Cg b ↔ a=b:=⟨fun h=>by injection h with h;exact xU.1 h,fun h=>by rw [h]⟩
theorem CW {τ:Nat -> Option Nat} {M M':Nat -> Nat × Option Au}:∀ {L L':List Tx},Aa τ M M' (L.map fun T=>.dv (Cg T)) (L'.map fun T=>.dv (Cg T)) ↔ L=L'
 | [],[]=>by simp [Aa]
 | [],_ :: _=>by simp [Aa]
 | _ :: _,[]=>by simp [Aa]
 | a :: L,b :: L'=>by
  simp only [List.map_cons,Aa,AX,List.cons.injEq]
  rw [CW (L:=L) (L':=L'),rJ]
theorem MP {L:List Tx} {v:Tx}:(L.map fun T=>SV.dv (Cg T)) ++ [SV.dv (Cg v)]=(L ++ [v]).map fun T=>.dv (Cg T):=by simp
theorem iD {L L':List Tx}:(L.map fun T=>SV.dv (Cg T)) ++ (L'.map fun T=>SV.dv (Cg T))=(L ++ L').map fun T=>.dv (Cg T):=by simp
theorem Mc {ob:Option Au} {L:List Tx}:Ee 1 (.dv (.list (L.map Cg)),ob)=some (L.length,L.map fun T=>.dv (Cg T)):=Zu (M:=fun _=>(0,none)) (fun _=>rfl) (fun _=>rfl)
section
variable {l:List (Nat × SV)} {m:List (Nat × Nat × Option Au)} {d g:Nat} {L:List Tx}
theorem Zx:(⟨(L.map Cg).map .dv,1,9,0,true⟩:Au)=Jz L:=by simp
theorem o9 (hg:(AA m d).1=g):(CG d ⟨lk l,AA m⟩ (.one (rX L))).app ⟨lk l,AA m⟩=⟨lk ((d,.sl d (g+1) 0 L.length) :: l),AA ((d,g+1,some (Jz L)) :: m)⟩:=by
 rw [JY hg,Zx]
theorem EN {x:DV} (hg:(AA m d).1=g):(CG d ⟨lk l,AA m⟩ (.many [rX L,.dv x])).app ⟨lk l,AA m⟩=⟨lk ((d,.Em [.sl d (g+1) 0 L.length,.dv x]) :: l),AA ((d,g+1,some (Jz L)) :: m)⟩:=by
 rw [Fy hg,Zx]
end
theorem Qa {Cv:DV -> Prop} {M:Nat -> Nat × Option Au} {t g n:Nat} {L:List Tx} (hM:M t=(g,some (Jz L))) (hl:n=L.length):E5 Cv M (.sl t g 0 n) (rX L):=by
 subst hl
 refine .inr ⟨t,g,rfl,?_,by simp,fun c hc=>?_⟩
 ·rw [hM,List.map_map];rfl
 ·obtain ⟨q,_,rfl⟩:=List.mem_map.1 hc;exact .str _
theorem zC {Cv:DV -> Prop} {M:Nat -> Nat × Option Au} {t g n:Nat} {L L':List Tx} (h:L=L':=by (first | rfl | (simp_all;done))) (hM:M t=(g,some (Jz L)):=by (simp only [AA,reduceIte,Nat.reduceEqDiff]<;>rfl)) (hl:n=L.length:=by (first | rfl | (simp;done) | (simp;omega))):E5 Cv M (.sl t g 0 n) (rX L'):=by subst h;exact Qa hM hl
theorem RV {ok:Nat -> Prop} {Cv:DV -> Prop} {M:Nat -> Nat × Option Au} {t g n:Nat} {L:List Tx} (hM:M t=(g,some (Jz L))) (hst:ok 0) (hl:L.length=n) (hd:∀ T,Cv (Cg T)):Data ok Cv M (.sl t g 0 n) (GL L):=by
 have hf:flat (L.map Cg)=L.map Cg:=GU fun _=>rfl
 refine NW hM hst (by simpa using hl) (fun d hd'=>?_) ?_ fun c hc'=>?_
 ·obtain ⟨q,_,rfl⟩:=List.mem_map.1 hd';rfl
 ·rw [hf];simp
 ·rw [hf] at hc';obtain ⟨q,_,rfl⟩:=List.mem_map.1 hc';exact hd q
end Go.Ab.Tryz
