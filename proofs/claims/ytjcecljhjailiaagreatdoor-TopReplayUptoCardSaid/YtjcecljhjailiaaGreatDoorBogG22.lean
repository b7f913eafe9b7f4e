/- BogWs, BogWr, BogB6, Ab53, BogN1, BogCs, BogN2, BogN3, BogN4, BogN5, BogN6, BogO1. -/
import Derived.Test.YtjcecljhjailiaaGreatDoorBogG08
import Derived.Shelf.RegionOpenPlain
import Derived.Lib.Strings
import Derived.Lib.Slices
import Derived.Lib.Walk
import Derived.Lib.Builder
import Derived.Lib.AppendStr
import Derived.Lib.UnsafeStr
import Derived.Lib.MakeNoZero
import Derived.WalkKit
import Derived.Laws.Externs
import Derived.Laws.IdiomCopy
import Derived.Laws.BitsLemmas
import Derived.Test.YtjcecljhjailiaaGreatDoorBogG21
import Derived.Test.YtjcecljhjailiaaGreatDoorBogB5
import Derived.Test.YtjcecljhjailiaaGreatDoorBogG07
import Derived.Test.YtjcecljhjailiaaGreatDoorBogG10
import Derived.Test.YtjcecljhjailiaaGreatDoorBogG09
set_option linter.all false
namespace Go.Proofs
open Go.Shelf Go.RowKit
set_option maxHeartbeats 2000000 in
set_option maxRecDepth 100000 in
theorem Tryz.Bcopy_used (b:Nat) (w:World) (h0:w.cell? ⟨b,0,none⟩=some (.pointer (some ⟨b,0,none⟩))) :
  Calls Tryz.prog 161 #[.pointer (some ⟨b,0,none⟩)] w fun e w'=>e=.returned (.tuple #[]) /\ w'=w:=by
 obtain ⟨j,hj,_⟩:=Option.map_eq_some_iff.1 (Tryz.Builder_Extra_169).sizeBuilder
 have mixed:Tryz.prog.follows .mixedOrders=true:=by kernel_rfl
 have X:=Tryz.Builder_Extra_169
 have t72:=Tryz.underlying164;have a72:=Tryz.isAgg164;have z72:=Tryz.sizeOf164;have v72:=Tryz.zeroValue164;have u72:=run_underlying Tryz.underlying164
 have t70:=Tryz.underlying161;have a70:=Tryz.isAgg161;have z70:=Tryz.sizeOf161;have v70:=Tryz.zeroValue161;have u70:=run_underlying Tryz.underlying161
 have t9:=Tryz.underlying9;have a9:=Tryz.isAgg9;have z9:=Tryz.sizeOf9;have v9:=Tryz.zeroValue9;have u9:=run_underlying Tryz.underlying9
 have t4:=Tryz.underlying4;have a4:=Tryz.isAgg4;have z4:=Tryz.sizeOf4;have v4:=Tryz.zeroValue4;have u4:=run_underlying Tryz.underlying4
 have t164:=Tryz.underlying174;have a164:=Tryz.isAgg174;have z164:=Tryz.sizeOf174;have v164:=Tryz.zeroValue174;have u164:=run_underlying Tryz.underlying174
 go_enter Tryz.func161,Tryz.ntmps161
 go_wp2
 rw [Lib.run_neq_ptr_same w _ Tryz.underlying161 hj]
 go_wp2
 go_end0
 exact ⟨rfl,rfl⟩
set_option maxHeartbeats 2000000 in
set_option maxRecDepth 100000 in
theorem Tryz.Bcopy_fresh (b:Nat) (w:World) (h0:w.cell? ⟨b,0,none⟩=some (.pointer none)) (hsh:w.shape? b=some (164,2)) (hfz:w.frozen? ⟨b,0,none⟩=false) :
  Calls Tryz.prog 161 #[.pointer (some ⟨b,0,none⟩)] w fun e w'=>e=.returned (.tuple #[]) /\ w'=w.setCell ⟨b,0,none⟩ (.pointer (some ⟨b,0,none⟩)):=by
 obtain ⟨j,hj,hjs⟩:=Option.map_eq_some_iff.1 (Tryz.Builder_Extra_169).sizeBuilder
 have mixed:Tryz.prog.follows .mixedOrders=true:=by kernel_rfl
 have X:=Tryz.Builder_Extra_169
 have t72:=Tryz.underlying164;have a72:=Tryz.isAgg164;have z72:=Tryz.sizeOf164;have v72:=Tryz.zeroValue164;have u72:=run_underlying Tryz.underlying164
 have t70:=Tryz.underlying161;have a70:=Tryz.isAgg161;have z70:=Tryz.sizeOf161;have v70:=Tryz.zeroValue161;have u70:=run_underlying Tryz.underlying161
 have t9:=Tryz.underlying9;have a9:=Tryz.isAgg9;have z9:=Tryz.sizeOf9;have v9:=Tryz.zeroValue9;have u9:=run_underlying Tryz.underlying9
 have t4:=Tryz.underlying4;have a4:=Tryz.isAgg4;have z4:=Tryz.sizeOf4;have v4:=Tryz.zeroValue4;have u4:=run_underlying Tryz.underlying4
 have t164:=Tryz.underlying174;have a164:=Tryz.isAgg174;have z164:=Tryz.sizeOf174;have v164:=Tryz.zeroValue174;have u164:=run_underlying Tryz.underlying174
 go_enter Tryz.func161,Tryz.ntmps161
 go_wp2
 rw [Lib.run_to_unsafe w ⟨b,0,none⟩ Tryz.underlying161 Tryz.underlying174 hj (by rw [hjs];decide) hsh (Nat.zero_lt_succ 1)]
 simp only [Result.andThen]
 rw [Oper.upon_value]
 go_wp2
 rw [run_callFunc_extern Tryz.func190 (by kernel_rfl) (by kernel_rfl) (by kernel_rfl) (e:=Extern.AbiNoEscape.same) (by kernel_rfl)]
 rw [Lib.run_noEscape]
 simp only [Result.andThen]
 rw [Oper.upon_value]
 go_wp2
 rw [Lib.run_from_unsafe w ⟨b,0,none⟩ Tryz.underlying174 Tryz.underlying161 hj hsh X.liesBuilder]
 simp only [Result.andThen]
 rw [Oper.upon_value]
 go_wp2
 go_end0
 exact ⟨rfl,rfl⟩
set_option maxHeartbeats 2000000 in
set_option maxRecDepth 100000 in
theorem Tryz.Bcopy (B b:Nat) (bs:List Value) (w:World) (h:Lib.IsBuilder 164 5 B b bs w) :
  Calls Tryz.prog 161 #[.pointer (some ⟨b,0,none⟩)] w fun e w'=>e=.returned (.tuple #[]) /\ (Lib.BuilderAt 164 5 B b (.pointer (some ⟨b,0,none⟩)) bs w' /\ Below B w w'):=by
 rcases h with h | h
 ·refine (Tryz.Bcopy_fresh b w h.cell0 h.shape h.frozen0).mono ?_
  rintro e w' ⟨rfl,rfl⟩
  exact ⟨rfl,h.used _,(Below.refl B w).setCell (p:=⟨b,0,none⟩) h.1 _⟩
 ·refine (Tryz.Bcopy_used b w h.cell0).mono ?_
  rintro e w' ⟨rfl,rfl⟩
  exact ⟨rfl,h,Below.refl B _⟩
set_option maxHeartbeats 2000000 in
set_option maxRecDepth 100000 in
theorem Tryz.Bwrite (B b:Nat) (bs:List Value) (s:ByteArray) (w:World) (h:Lib.IsBuilder 164 5 B b bs w) (hlen:bs.length+s.size <= 140737488355328) (hBw:B <= w.heap.size) :
  Calls Tryz.prog 123 #[.pointer (some ⟨b,0,none⟩),.string s] w fun e w'=>e=.returned (.tuple #[.int .i64 s.size,.nilIface]) /\ (Lib.BuilderAt 164 5 B b (.pointer (some ⟨b,0,none⟩)) (bs ++ Lib.strCells s) w' /\ Below B w w'):=by
 obtain ⟨i0,hi,hz0,hz1,hz2⟩:=info_parts (Tryz.Builder_Extra_169).infoByte
 have mixed:Tryz.prog.follows .mixedOrders=true:=by kernel_rfl
 have X:=Tryz.Builder_Extra_169
 have t72:=Tryz.underlying164;have a72:=Tryz.isAgg164;have z72:=Tryz.sizeOf164;have v72:=Tryz.zeroValue164;have u72:=run_underlying Tryz.underlying164
 have t70:=Tryz.underlying161;have a70:=Tryz.isAgg161;have z70:=Tryz.sizeOf161;have v70:=Tryz.zeroValue161;have u70:=run_underlying Tryz.underlying161
 have t37:=Tryz.underlying162;have a37:=Tryz.isAgg162;have z37:=Tryz.sizeOf162;have v37:=Tryz.zeroValue162;have u37:=run_underlying Tryz.underlying162
 have t3:=Tryz.underlying3;have a3:=Tryz.isAgg3;have z3:=Tryz.sizeOf3;have v3:=Tryz.zeroValue3;have u3:=run_underlying Tryz.underlying3
 have t9:=Tryz.underlying9;have a9:=Tryz.isAgg9;have z9:=Tryz.sizeOf9;have v9:=Tryz.zeroValue9;have u9:=run_underlying Tryz.underlying9
 have t4:=Tryz.underlying4;have a4:=Tryz.isAgg4;have z4:=Tryz.sizeOf4;have v4:=Tryz.zeroValue4;have u4:=run_underlying Tryz.underlying4
 have t164:=Tryz.underlying174;have a164:=Tryz.isAgg174;have z164:=Tryz.sizeOf174;have v164:=Tryz.zeroValue174;have u164:=run_underlying Tryz.underlying174
 have t5:=Tryz.underlying5;have a5:=Tryz.isAgg5;have z5:=Tryz.sizeOf5;have v5:=Tryz.zeroValue5;have u5:=run_underlying Tryz.underlying5
 have e240:∀ args w,(callFunc 161 args).run Tryz.prog w=.ok (.enter 161 args) w:=enters_of Tryz.func161 (by kernel_rfl) rfl
 go_enter Tryz.func123,Tryz.ntmps123
 go_wp2_with (go_at_fn 161;refine (Tryz.Bcopy B b bs _ h).mono ?_)
 rintro e w1 ⟨rfl,h1,hb1⟩
 obtain ⟨hB,v,hbk,hown,hne⟩:=h1
 have c0:w1.cell? ⟨b,0,none⟩=some (.pointer (some ⟨b,0,none⟩)):=by rw [Lib.cell_of_heap hbk];rfl
 have c1:w1.cell? ⟨b,1,none⟩=some v:=by rw [Lib.cell_of_heap hbk];rfl
 go_wp2_with (at_builtin;refine Lib.wpList_append_own_string _ rfl _ _ 162 9 rfl B 5 i0 Tryz.underlying162 Tryz.underlying9 hi hz0 hz1 hz2 _ _ _ rfl hown s rfl ?c3 ?c4 ?c5 ?_)
 case c3=>unfold maxLen;omega
 case c4=>omega
 case c5=>have:=hb1.size;omega
 intro v' w2 hown' hgrow _
 have hlt:b < w1.heap.size:=by
  rcases Nat.lt_or_ge b w1.heap.size with h' | h'
  ·exact h'
  ·simp [Array.getElem?_eq_none h'] at hbk
 have hb2:w2.heap[b]?=some (.cells #[.pointer (some ⟨b,0,none⟩),v] 164 (0,0)):=by
  rw [hgrow.block b hlt (fun e=>hne e.symm)]
  exact hbk
 have d0:w2.cell? ⟨b,0,none⟩=some (.pointer (some ⟨b,0,none⟩)):=by rw [Lib.cell_of_heap hb2];rfl
 have d1:w2.cell? ⟨b,1,none⟩=some v:=by rw [Lib.cell_of_heap hb2];rfl
 have f1:w2.frozen? ⟨b,1,none⟩=false:=Lib.frozen_of_heap hb2 1
 obtain ⟨ao,n',cap,rfl⟩:∃ ao n' cap,v'=.slice ao n' cap:=by
  rcases hown'.2 with ⟨hv,_⟩ | ⟨g,cap,cur,hv,_⟩
  ·exact ⟨_,_,_,hv⟩
  ·exact ⟨_,_,_,hv⟩
 go_wp2
 go_ret2
 refine ⟨rfl,?_,?_⟩
 ·exact Lib.BuilderAt.put (T:=164) (e:=5) hB hb2 (bs':=bs ++ Lib.strCells s) (by simpa [Lib.strCells_length] using hown') X.neB5
 ·exact (hb1.grown hgrow (by have:=hb1.size;omega) (fun k hk=>(hown.lt k hk).1)).setCell (p:=⟨b,1,none⟩) hB _
end Go.Proofs
namespace Go.Ab.Tryz
open Go Go.Ab Go.Proofs Go.RowKit Go.Ab.Gi
theorem Z8 {w w':World} (h:Laid w) (hb:Below w.heap.size w w'):Laid w':=h.keep fun g hk=>hb.block g (h.lt hk)
theorem jc (s:Int) (T:Tx) (hT:T.length < 2000000) (w:World) (hl:Laid w) :
  Calls Tryz.prog 85 #[.int .i64 s,.string (bs T)] w fun e w'=>e=.returned (.tuple #[.string (bs (Dl (FE s) T)),.int .i64 (Cn (FE s) T:Nat)]) /\ Below w.heap.size w w':=by
 refine ((f85 s T hT).2 w #[.int .i64 s,.string (bs T)] hl ⟨rfl,fun j d hj=>?_⟩).mono fun e w' ⟨v,he,hb,hr⟩=>?_
 ·match j,hj with
  | 0,hj=>cases hj;exact .int _ _
  | 1,hj=>cases hj;exact .str _
 ·obtain ⟨vs,obs,hvt,hv,_⟩:=hr
  subst he
  obtain ⟨v1,v2,rfl⟩:∃ v1 v2,vs=[v1,v2]:=by
   rcases vs with _ | ⟨v1,_ | ⟨v2,_ | ⟨v3,vs⟩⟩⟩
   ·cases obs<;>simp [Dc] at hv
   ·rcases obs with _ | ⟨o1,_ | ⟨o2,obs⟩⟩<;>simp [Dc] at hv
   ·exact ⟨v1,v2,rfl⟩
   ·rcases obs with _ | ⟨o1,_ | ⟨o2,_ | ⟨o3,obs⟩⟩⟩<;>simp [Dc] at hv
  rcases obs with _ | ⟨o1,_ | ⟨o2,_ | ⟨o3,obs⟩⟩⟩
  ·simp [Dc] at hv
  ·simp [Dc] at hv
  ·obtain ⟨h1,h2,_⟩:=hv
   have e1:=G9 h1.2
   have e2:=Un h2.2
   subst e1;subst e2;subst hvt
   exact ⟨rfl,hb⟩
  ·simp [Dc] at hv
theorem Zd {A B:Nat} {w w':World} (h:Below B w w') (hA:A <= B):Below A w w':=⟨h.os,h.tape,h.output,h.size,fun k hk=>h.block k (by omega)⟩
theorem Si {T e:TypeId} {B b:Nat} {bs:List Value} {w w':World} (h:Lib.IsBuilder T e B b bs w) (hb:Below w.heap.size w w'):Lib.IsBuilder T e B b bs w':=by
 have go:∀ p,Lib.BuilderAt T e B b p bs w -> Lib.BuilderAt T e B b p bs w':=by
  rintro p ⟨hB,v,hk,hown,hne⟩
  have hlt:b < w.heap.size:=(Array.getElem?_eq_some_iff.1 hk).1
  refine ⟨hB,v,by rw [hb.block b hlt];exact hk,⟨hown.1,hown.2.imp id ?_⟩,hne⟩
  rintro ⟨g,cap,cur,e1,e2,e3,e4⟩
  exact ⟨g,cap,cur,e1,e2,by rw [hb.block g (Array.getElem?_eq_some_iff.1 e3).1];exact e3,e4⟩
 exact h.imp (go _) (go _)
theorem hidJ {p:Prop} (h:p):Hid p:=h
theorem en81:ES Tryz.prog 81:=⟨_,Tryz.func81,rfl,rfl⟩
set_option maxHeartbeats 4000000 in
set_option maxRecDepth 100000 in
theorem dI (L:List Tx) (hF:uK L) (ao:Option Addr) (cap:Nat) (w:World) (hl:Laid w) (hc:∀ (i:Nat) (hi:i < L.length),∃ b o,ao=some ⟨b,o,none⟩ /\ b < w.heap.size /\ w.cell? ⟨b,o+i,none⟩=some (.string (bs L[i]))) :
  Calls Tryz.prog 81 #[.slice ao L.length cap] w fun e w'=>e=.returned (.string (bs (Am 0 L))) /\ Below w.heap.size w w':=by
 have mixed:Tryz.prog.follows .mixedOrders=true:=by kernel_rfl
 have e85:∀ args w,(callFunc 85 args).run Tryz.prog w=.ok (.enter 85 args) w:=enters_of Tryz.func85 (by kernel_rfl) rfl
 have e123:∀ args w,(callFunc 123 args).run Tryz.prog w=.ok (.enter 123 args) w:=enters_of Tryz.func123 (by kernel_rfl) rfl
 have e124:∀ args w,(callFunc 124 args).run Tryz.prog w=.ok (.enter 124 args) w:=enters_of Tryz.func124 (by kernel_rfl) rfl
 have t164:=Tryz.underlying164;have a164:=Tryz.isAgg164;have z164:=Tryz.sizeOf164;have v164:=Tryz.zeroValue164;have u164:=run_underlying Tryz.underlying164
 have t30:=Tryz.underlying30;have a30:=Tryz.isAgg30;have z30:=Tryz.sizeOf30;have v30:=Tryz.zeroValue30;have u30:=run_underlying Tryz.underlying30
 have t9:=Tryz.underlying9;have a9:=Tryz.isAgg9;have z9:=Tryz.sizeOf9;have v9:=Tryz.zeroValue9;have u9:=run_underlying Tryz.underlying9
 have t3:=Tryz.underlying3;have a3:=Tryz.isAgg3;have z3:=Tryz.sizeOf3;have v3:=Tryz.zeroValue3;have u3:=run_underlying Tryz.underlying3
 have t4:=Tryz.underlying4;have a4:=Tryz.isAgg4;have z4:=Tryz.sizeOf4;have v4:=Tryz.zeroValue4;have u4:=run_underlying Tryz.underlying4
 go_enter Tryz.func81,Tryz.ntmps81
 go_wp2_with fail
 go_loopw [4,11] (fun s i wr=>∃ k:Nat,k <= L.length /\ i=.int .i64 k /\ s=.int .i64 (Gm 0 (L.take k):Nat) /\ Hid (Lib.IsBuilder 164 5 w.heap.size w.heap.size (Lib.byteCells (Am 0 (L.take k))) wr) /\ Hid (Below w.heap.size w wr)) (fun _ i _=>L.length - (intOf i).toNat)
 case atStart=>exact ⟨0,Nat.zero_le _,rfl,rfl,Lib.fresh_isBuilder 164 5 w,(Below.refl w.heap.size w).alloc (Nat.le_refl _) _⟩
 case round =>
  obtain ⟨k,hk',rfl,rfl,HB,HW⟩:=hrel
  by_cases hkr:k < L.length
  ·obtain ⟨b,o,hao,hbb,hcell⟩:=hc k hkr
   subst hao
   have hcy:wr.cell? ⟨b,o+k,none⟩=some (.string (bs L[k])):=by
    rw [HW.out.cell (p:=⟨b,o+k,none⟩) hbb];exact hcell
   have hT:=hF.2 k hkr
   have hL:=hF.1
   have hse:=UY (s:=0) (by decide) (L.take k)
   have hs0:=LX hse
   have hbl:=Rh hF k (by omega)
   have hll:=Qw (s:=Gm 0 (L.take k)) (T:=L[k]) hse
   go_wp2_with fail
   refine (jc (Gm 0 (L.take k):Nat) L[k] hT wr (Z8 hl HW.out)).mono ?_
   rintro e w2 ⟨rfl,hb2⟩
   rw [hs0]
   have hBw:w.heap.size <= wr.heap.size:=HW.out.size
   have HW2:=hidJ (HW.out.trans (Zd hb2 hBw))
   have HB2:=hidJ (Si HB.out hb2)
   clear hb2
   have hBw2:w.heap.size <= w2.heap.size:=HW2.out.size
   go_wp2_with fail
   refine (Tryz.Bwrite w.heap.size w.heap.size _ (bs (Dl (Gm 0 (L.take k)) L[k])) w2 HB2.out (by rw [Lib.byteCells_length,FD];omega) hBw2).mono ?_
   rintro e w3 ⟨rfl,h3,hb3⟩
   have hnext:Lib.byteCells (Am 0 (L.take k)) ++ Lib.strCells (bs (Dl (Gm 0 (L.take k)) L[k]))=Lib.byteCells (Am 0 (L.take (k+1))):=by
    rw [Lib.strCells_eq,<- Lib.byteCells_append,MG hkr]
   rw [hnext] at h3
   have H3:=hidJ (Or.inr h3:Lib.IsBuilder 164 5 w.heap.size w.heap.size _ w3)
   have HW3:=hidJ (HW2.out.trans hb3)
   have hsn:=Sv (s:=0) hkr
   clear h3 hb3 hnext
   go_wp2
   exact ⟨⟨k+1,by omega,by go_num,by rw [hsn],H3,HW3⟩,by simp [intOf];omega⟩
  ·have hke:k=L.length:=by omega
   subst hke
   have hB':=HB.out
   rw [List.take_length] at hB'
   have hBw:w.heap.size <= wr.heap.size:=HW.out.size
   go_wp2_with fail
   refine (Tryz.Builder_String_any w.heap.size w.heap.size _ wr hB' hBw).mono ?_
   rintro e w5 ⟨rfl,hb5⟩
   have Hb5:=hidJ (HW.out.trans hb5)
   clear hb5 hB'
   go_wp2
   go_ret
   exact ⟨rfl,Hb5.out⟩
theorem f81 (L:List Tx) (hF:uK L):AR Tryz.prog 81 [GL L] (.one (.dv (Cg (Am 0 L)))):=by
 refine ⟨en81,fun w vs hl ha=>?_⟩
 have fin:∀ ao cap,(∀ (i:Nat) (hi:i < L.length),∃ b o,ao=some ⟨b,o,none⟩ /\ b < w.heap.size /\ w.cell? ⟨b,o+i,none⟩=some (.string (bs L[i]))) -> Calls Tryz.prog 81 #[.slice ao L.length cap] w fun e w'=>∃ v,e=.returned v /\ Below w.heap.size w w' /\ Jq w.heap.size w' (fun b=>b < w.heap.size) (.one (.dv (Cg (Am 0 L)))) v:=fun ao cap hc =>
  (dI L hF ao cap w hl hc).mono fun e w' ⟨he,hb⟩=>⟨_,he,hb,La (.str _)⟩
 obtain ⟨hs,hv⟩:=ha
 have h0:=hv 0 _ rfl
 obtain ⟨v,rfl⟩:∃ v,vs=#[v]:=by
  cases vs with
  | mk l =>
   simp at hs
   match l,hs with
   | [v],_=>exact ⟨v,rfl⟩
 simp only [Array.getD_eq_getD_getElem?] at h0
 have h0':Bn w (fun _=>False) (.list (L.map Cg)) v:=h0
 clear h0
 generalize hL:(L.map Cg)=D at h0'
 have hlen:D.length=L.length:=by rw [<- hL];simp
 cases h0' with
 | Cq a cap =>
  have:L=[]:=by
   cases L with
   | nil=>rfl
   | cons a l=>simp at hL
  subst this
  exact fin a cap fun i hi=>absurd hi (Nat.not_lt_zero i)
 | list _ b off cap C8 u h1 h2 h3 h4 h5 h6 =>
  rw [hlen]
  refine fin _ cap fun i hi=>⟨b,off,rfl,h2,?_⟩
  have hf:flat D=D:=by rw [<- hL];exact GU fun _=>rfl
  have hi2:(flat D)[i]?=some (Cg L[i]):=by rw [hf,<- hL];simp [hi]
  rw [h5 i _ hi2]
  exact congrArg some (G9 (h6 i _ hi2))
end Go.Ab.Tryz
namespace Go.Ab.Tryz
open Go Go.Ab Go.Proofs Go.Ab.Ck Go.Ab.Gi
open Go.Ab.Heap (Az Ap BX)
def Qu (L:List Tx):Bool:=L.any (fun T=>decide (400 < T.length)) || decide (300 < L.length)
theorem oU {L:List Tx} {i:Nat} (hi:i < L.length) (h:400 < L[i].length):Qu L=true:=by
 unfold Qu
 rw [List.any_eq_true.2 ⟨_,List.getElem_mem hi,by simpa using h⟩];rfl
theorem oQ {L:List Tx} (h:∀ i (hi:i < L.length),L[i].length <= 400):Qu L=decide (300 < L.length):=by
 unfold Qu
 have:L.any (fun T=>decide (400 < T.length))=false:=by
  rw [List.any_eq_false]
  intro T hT
  obtain ⟨i,hi,rfl⟩:=List.getElem_of_mem hT
  have:=h i hi
  simp;omega
 rw [this,Bool.false_or]
theorem N7 {L:List Tx} (h:Qu L=false):uK L /\ L.length <= 300 /\ ∀ i (hi:i < L.length),L[i].length <= 400:=by
 unfold Qu at h
 rw [Bool.or_eq_false_iff,List.any_eq_false,decide_eq_false_iff_not] at h
 have h1:∀ i (hi:i < L.length),L[i].length <= 400:=fun i hi=>by have:=h.1 _ (List.getElem_mem hi);simp at this;omega
 exact ⟨⟨by omega,fun i hi=>by have:=h1 i hi;omega⟩,by omega,h1⟩
theorem f41 (L:List Tx) (hF:uK L):AR Tryz.prog 41 [GL L] (.many [.dv (Cg (yE L)),.dv (i64 (iB L))]):=by
 have hL:=hF.1
 refine Bv Tryz.func41 rfl rfl (by rw [Tryz.ntmps41];simp) fun cx hP hn hg=>?_
 rw [Tryz.ntmps41] at hn
 rw [Br,Bq]
 simp only [List.nil_append,List.append_nil,List.cons_append,BH,Nat.reduceAdd]
 refine sg ?_
 iterate 2 refine qv A9 ?_
 refine AL ?_
 refine sg ?_
 refine qv A8 ?_
 refine qv (BD Ce) ?_
 refine qv Dk ?_
 refine cd (fun hc0=>?_) (fun hc0=>?_)
 ·try simp at hc0
  have hbg:100 < L.length:=by omega
  have hw:=nQ hbg
  refine sg ?_
  iterate 2 refine qv A9 ?_
  refine AV ?_
  exact x2 (hr:=(Uq (by rw [gy (by rw [hw];decide)]))) (hr':=(Cc (by rw [hw])))
 ·try simp at hc0
  have hbg:¬ 100 < L.length:=by omega
  refine Af ?_
  refine AL ?_
  refine sg ?_
  refine qv A8 ?_
  refine qv (BD Ce) ?_
  refine qv A8 ?_
  refine BI ?_
  refine Ao (ι:=Nat) (fun i=>⟨lk [(0,.dv (.list ((L).map Cg))),(9,.dv (.list ((L).map Cg))),(10,.dv (i64 ((L.length:Int)))),(11,.dv (i64 (i:Nat)))],AA []⟩) (fun i=>i <= L.length /\ ∀ j (hj:j < L.length),j < i -> Es L[j]=true) (fun i=>L.length - i) 0 (by simp) (tl []) ?_
  intro i BM
  refine sg ?_
  refine qv BK ?_
  refine AL ?_
  refine cd (fun hc1=>?_) (fun hc1=>?_)
  ·try simp at hc1
   refine Af ?_
   refine AL ?_
   refine BI ?_
   refine sg ?_
   have hi:i < L.length:=by omega
   have hx:L[i]?=some L[i]:=List.getElem?_eq_getElem hi
   have hfi:=hF.2 i hi
   first | refine qv (BF CS Dh) ?_ | refine qv (Bf CS Dh) ?_
   refine qv (Bb Dh MK) ?_
   refine qv A9 ?_
   refine sg ?_
   refine qv A8 ?_
   refine CF (f84 L[i] hfi) ?_
   refine qv CP ?_
   refine cd (fun hc2=>?_) (fun hc2=>?_)
   ·try simp at hc2
    have hw:=nR hbg hi (by simpa using hc2)
    refine sg ?_
    iterate 2 refine qv A9 ?_
    refine AV ?_
    exact x2 (hr:=(Uq (by rw [gy (by rw [hw];decide)]))) (hr':=(Cc (by rw [hw])))
   ·try simp at hc2
    refine Af ?_
    refine rg ?_
    refine qv Aq ?_
    refine qv A8 ?_
    exact ⟨i+1,⟨hi,fun j hj h=>by
     rcases Nat.lt_or_ge j i with h1 | h1
     ·exact BM.2 j hj h1
     ·obtain rfl:j=i:=by omega
      simpa using hc2⟩,(by simp only;omega),(tl [])⟩
  ·try simp at hc1
   have hw:=iA hbg fun j hj=>BM.2 j hj (by omega)
   refine Ai ?_
   refine sg ?_
   refine qv A8 ?_
   refine CF (f81 L hF) ?_
   iterate 2 refine qv A9 ?_
   refine AV ?_
   exact x2 (hr:=(Uq (by rw [Zj hw]))) (hr':=(Cc (by rw [hw])))
theorem f19 (L:List Tx) (hl:L.length <= 9223372036854775807):AR Tryz.prog 19 [GL L] (.one (.dv (.bool (Qu L)))):=by
 refine Bv Tryz.func19 rfl rfl (by rw [Tryz.ntmps19];simp) fun cx hP hn hg=>?_
 rw [Tryz.ntmps19] at hn
 rw [Br,Bq]
 simp only [List.nil_append,List.append_nil,List.cons_append,BH,Nat.reduceAdd]
 refine sg ?_
 refine qv A9 ?_
 refine AL ?_
 refine sg ?_
 refine qv A9 ?_
 refine BI ?_
 refine Ao (ι:=Nat) (fun i=>⟨lk [(0,.dv (.list ((L).map Cg))),(3,.dv (i64 (i:Nat)))],AA []⟩) (fun i=>i <= L.length /\ ∀ j (hj:j < L.length),j < i -> L[j].length <= 400) (fun i=>L.length - i) 0 (by simp) (tl []) ?_
 intro i BM
 refine AL ?_
 refine sg ?_
 iterate 2 refine qv A8 ?_
 refine qv (BD Ce) ?_
 refine qv BK ?_
 refine cd (fun hc0=>?_) (fun hc0=>?_)
 ·try simp at hc0
  refine Af ?_
  refine AL ?_
  refine BI ?_
  refine sg ?_
  have hi:i < L.length:=by omega
  have hx:L[i]?=some L[i]:=List.getElem?_eq_getElem hi
  iterate 2 refine qv A8 ?_
  first | refine qv (BF CS Dh) ?_ | refine qv (Bf CS Dh) ?_
  refine qv (Bb Dh MK) ?_
  refine qv (EH K4) ?_
  refine qv Dk ?_
  refine cd (fun hc1=>?_) (fun hc1=>?_)
  ·try simp at hc1
   refine sg ?_
   refine qv A9 ?_
   refine AV ?_
   exact x1 (hr:=(Ej (by rw [oU hi (by omega)])))
  ·try simp at hc1
   refine Af ?_
   refine rg ?_
   refine qv A8 ?_
   refine qv Aq ?_
   refine qv A9 ?_
   exact ⟨i+1,⟨hi,fun j hj h=>by
    rcases Nat.lt_or_ge j i with h1 | h1
    ·exact BM.2 j hj h1
    ·obtain rfl:j=i:=by omega
     omega⟩,(by simp only;omega),(tl [])⟩
 ·try simp at hc0
  refine Ai ?_
  refine sg ?_
  refine qv A8 ?_
  refine qv (BD Ce) ?_
  refine qv Dk ?_
  refine qv A9 ?_
  refine AV ?_
  exact x1 (hr:=(Ej (by rw [oQ fun j hj=>BM.2 j hj (by omega)];first | rfl | (rw [Bool.eq_iff_iff];simp<;>omega))))
end Go.Ab.Tryz
namespace Go.Ab
open Go.RowKit
section
variable {cx:Cx} {S:St} {ops:Array Oper} {o:Oper} {rest:List Oper} {K:St -> Prop} {l:List (Nat × SV)} {m:List (Nat × Nat × Option Au)}
theorem iL {a:Act} {w:World} (hg:cx.Good) (h:JQ cx S a w) {d:Nat} {x:DV} (hD:Df S.M (S.F d) x):JQ cx ⟨fun i=>if i=d then .dv x else S.F i,S.M⟩ a w:=by
 obtain ⟨μ,h⟩:=h
 refine ⟨μ,h.blk,fun i=>?_,h.place,h.uniq,h.Ei,h.below,h.size,h.defers⟩
 by_cases hi:i=d
 ·subst hi
  simp only [if_true]
  have:=RB hg h hD _ (h.slot i)
  simpa only [AJ] using this
 ·simp only [if_neg hi]
  exact h.slot i
theorem Gv (t d:Nat) {g:Nat} {b:Au} {x:DV} (k:Chain cx ops (o :: rest) ⟨lk ((d,.dv x) :: l),AA ((t,g,some { b with st:=1 }) :: m)⟩ K) (h0:AA m t=(g,some b):=by (simp only [AA,reduceIte,Nat.reduceEqDiff]<;>rfl)) (h1:ED b.st \/ b.st=1:=by (first | exact .inl (.inl rfl) | exact .inr rfl | exact .inl (.inr (Nat.le_of_ble_eq_true rfl))))
  (hD:Df (AA ((t,g,some { b with st:=1 }) :: m)) (lk l d) x) (hgd:o.guard=none:=by rfl):Chain cx ops (o :: rest) ⟨lk l,AA m⟩ K:=by
 obtain ⟨S',hs,hk⟩:=k
 refine ⟨S',?_,hk⟩
 unfold GStep at hs ⊢
 rw [hgd] at hs ⊢
 simp only at hs ⊢
 have hl:=Le.freeze (cx:=cx) (S:=⟨lk l,AA m⟩) h0 h1
 rw [EM] at hl
 exact .sem fun hg a w h=>Step.does hg (iL hg (hl a w h) (d:=d) (x:=x) hD) hs
end
end Go.Ab
namespace Go.Ab.Tryz
open Go Go.Ab Go.Proofs Go.Ab.Ck Go.Ab.Gi
open Go.Ab.Heap (Az Ap BX)
open H (SL Et)
theorem Tf:∀ {a b:List Int},a.map (DV.int .i64)=b.map (DV.int .i64) -> a=b
 | [],[],_=>rfl
 | [],_ :: _,h=>by simp at h
 | _ :: _,[],h=>by simp at h
 | x :: a,y :: b,h=>by
  simp only [List.map_cons,List.cons.injEq,DV.int.injEq,true_and] at h
  rw [h.1,Tf h.2]
theorem V3 {τ:Nat -> Option Nat} {M M':Nat -> Nat × Option Au}:∀ {L L':List (List Int)},Aa τ M M' (L.map fun r=>.dv (ints r)) (L'.map fun r=>.dv (ints r)) ↔ L=L'
 | [],[]=>by simp [Aa]
 | [],_ :: _=>by simp [Aa]
 | _ :: _,[]=>by simp [Aa]
 | a :: L,b :: L'=>by
  simp only [List.map_cons,Aa,AX,List.cons.injEq]
  rw [V3 (L:=L) (L':=L')]
  refine and_congr_left fun _=>⟨fun h=>?_,fun h=>by rw [h]⟩
  have h2:a.map (DV.int .i64)=b.map (DV.int .i64):=by simpa [ints] using h
  exact Tf h2
theorem dU {L:List (List Int)} {v:List Int}:(L.map fun r=>SV.dv (ints r)) ++ [SV.dv (ints v)]=(L ++ [v]).map fun r=>.dv (ints r):=by simp
theorem f96 (b:List (List Int)) (hb:b.length < 1000) (hr:∀ i (hi:i < b.length),b[i].length < 2000000):FN Tryz.prog 96 [.list (b.map ints)] (.one (.dv (.list (b.map ints)))):=by
 refine JM Tryz.func96 rfl rfl (by rw [Tryz.ntmps96];simp) fun cx hP hn hg=>?_
 rw [Tryz.ntmps96] at hn
 rw [Br,Bq]
 simp only [List.nil_append,List.append_nil,List.cons_append,BH,Nat.reduceAdd]
 refine sg ?_
 refine qv A9 ?_
 refine sg ?_
 refine qv A9 ?_
 refine AL ?_
 refine sg ?_
 refine qv A8 ?_
 refine qv (BD KO) ?_
 refine qv A8 ?_
 refine BI ?_
 refine Ao (ι:=Nat) (fun i=>⟨lk [(3,.sl 3 0 0 i),(6,.dv (.list ((b).map ints))),(7,.dv (i64 ((b.length:Int)))),(8,.dv (i64 (i:Nat)))],AA [(3,0,some (SL (b.take i)))]⟩) (fun i=>i <= b.length) (fun i=>b.length - i) 0 (by simp) (tl [] (hF:=by simp [DK,AX,lk,AA,isLive,AZ,V3]) (hM:=by simp [Cm,Ar,AX,Aa,lk,AA,isLive,AZ,BO,BN,Al,BL,BP,BS,BQ,BR,V3])) ?_
 intro i BM
 refine sg ?_
 refine qv BK ?_
 refine AL ?_
 refine cd (fun hc0=>?_) (fun hc0=>?_)
 ·try simp at hc0
  refine Af ?_
  refine AL ?_
  refine BI ?_
  refine sg ?_
  have hi:i < b.length:=by omega
  have hx:b[i]?=some b[i]:=List.getElem?_eq_getElem hi
  have hri:=hr i hi
  have hts:b.take (i+1)=b.take i ++ [b[i]]:=by rw [List.take_succ,hx];rfl
  have htl:(b.take i).length=i:=by simp;omega
  first | refine qv (BF CJ Av) ?_ | refine qv (Bf CJ Av) ?_
  refine qv (Bb Av Bz) ?_
  refine qv A9 ?_
  refine rg ?_
  iterate 2 refine qv A8 ?_
  refine CF (f97 b[i] hri) ?_
  refine Gv 14 14 (x:=ints b[i]) ?_ (hD:=(Bc (L:=b[i]) (by simp only [AA,reduceIte,Nat.reduceEqDiff]<;>rfl) rfl (by first | rfl | omega) rfl rfl (fun _=>trivial)))
  refine qr (FV CJ UM Av) ?_
  refine vG (Iu CJ CJ UM Av xS (hc:=dU)) ?_
  refine qv A9 ?_
  refine rg ?_
  refine qv Aq ?_
  refine qv A8 ?_
  exact ⟨i+1,hi,(by simp only;omega),(tl [(3,16)] (hF:=by simp [DK,AX,lk,AA,isLive,AZ,V3]) (hM:=by simp [Cm,Ar,AX,Aa,lk,AA,isLive,AZ,BO,BN,Al,BL,BP,BS,BQ,BR,V3]))⟩
 ·try simp at hc0
  refine Ai ?_
  refine sg ?_
  refine qv A8 ?_
  refine qv A9 ?_
  refine AV ?_
  obtain rfl:i=b.length:=by omega
  exact x1 (hr:=zD (Et (L:=b) (by simp only [AA,reduceIte,Nat.reduceEqDiff,List.take_length]<;>rfl) trivial rfl (fun _=>trivial)))
end Go.Ab.Tryz
namespace Go.Ab.Tryz
open Go Go.Ab Go.Proofs Go.Ab.Ck Go.Ab.Gi
theorem RL {P:Program} {Cv:DV -> Prop} {S:St} {x:Exit} {t:Nat} {s1:SV} {L:List Tx} (he:x=.normal \/ x=.ret) (hs:S.F t=s1) (h1:E5 Cv S.M s1 (rX L)):PU P Cv [.tmp t] (.one (rX L)) x S :=
 bQ he hs h1 (.inr fun d hd=>by cases hd)
theorem A0K (l:List Tx) (h:l.length < 2000000) (hl:l ≠ []):AR Tryz.prog 105 [GL l] (.one (rX l)):=by
 refine Bv Tryz.func105 rfl rfl (by rw [Tryz.ntmps105];simp) fun cx hP hn hg=>?_
 rw [Tryz.ntmps105] at hn
 rw [Br,Bq]
 simp only [BH,Nat.reduceAdd]
 refine AL ?_
 refine Db hg ?_
 refine Dn hP hn (by decide) trivial (EJ (by simp only [St.look,St.ev,lk,AA,AO,Ah,Ag,reduceIte,Nat.reduceAdd,Nat.reduceEqDiff,Nat.reduceMul];rfl)) ?_
 refine AL ?_
 refine AL ?_
 refine Db hg ?_
 refine Dn hP hn (by decide) trivial (I6 (by simp only [St.look,St.ev,lk,AA,AO,Ah,Ag,reduceIte,Nat.reduceAdd,Nat.reduceEqDiff,Nat.reduceMul];rfl)) ?_
 refine Dn hP hn (by decide) trivial (by simp only [AP,Dj,Om,Ir,Ce,if_true,Option.map_some,St.look,St.ev,lk,AA,AO,Ah,Ag,reduceIte,Nat.reduceAdd,Nat.reduceEqDiff,Nat.reduceMul];rw [if_neg (by simpa using hl)];rfl) ?_
 refine Fq (by simp only [St.look,St.ev,lk,AA,AO,Ah,Ag,reduceIte,Nat.reduceAdd,Nat.reduceEqDiff,Nat.reduceMul];rfl) (fun hc0=>?_) (fun hc0=>?_)
 ·exact absurd hc0 (by simp)
 refine Af ?_
 refine AL ?_
 refine Db hg ?_
 refine Xx hP hn (by decide) trivial (Fp (by simp only [List.map,St.look,St.ev,lk,AA,AO,Ah,Ag,reduceIte,Nat.reduceAdd,Nat.reduceEqDiff,Nat.reduceMul];rfl) CS YQ Dh rfl (by decide) (by decide) (by simp [EP,putCells,Cb,List.replicate];rfl)) rfl (by simp only [AA,reduceIte,Nat.reduceEqDiff];rfl) ?_
 refine Dn hP hn (by decide) trivial (I6 (by simp only [St.look,St.ev,lk,AA,AO,Ah,Ag,reduceIte,Nat.reduceAdd,Nat.reduceEqDiff,Nat.reduceMul];rfl)) ?_
 first
 | refine Rc hP hn (by decide) trivial (RP (by simp only [St.look,St.ev,lk,AA,AO,Ah,Ag,reduceIte,Nat.reduceAdd,Nat.reduceEqDiff,Nat.reduceMul];rfl) (by simp only [St.look,St.ev,lk,AA,AO,Ah,Ag,reduceIte,Nat.reduceAdd,Nat.reduceEqDiff,Nat.reduceMul];first | exact Mc | rfl | (simp [Ee,DI];rfl)) CS CS YQ Dh uI (by first | omega | (simp;try omega)) (by first | omega | (simp;try omega)) rfl) (by simp only [AA,reduceIte,Nat.reduceEqDiff];rfl) ?_
 | refine VT hP hn (by decide) trivial (RO (by simp only [St.look,St.ev,lk,AA,AO,Ah,Ag,reduceIte,Nat.reduceAdd,Nat.reduceEqDiff,Nat.reduceMul];rfl) (by simp only [St.look,St.ev,lk,AA,AO,Ah,Ag,reduceIte,Nat.reduceAdd,Nat.reduceEqDiff,Nat.reduceMul];first | exact Mc | rfl | (simp [Ee,DI];rfl)) CS CS YQ Dh uI (by rfl) (by rfl) (by rfl) (by first | omega | (simp;try omega)) (by first | omega | (simp;try omega)) (by first | omega | (simp;try omega)) rfl (by first | exact MP | exact iD | rfl)) (by simp only [AA,reduceIte,Nat.reduceEqDiff];rfl) (by simp only [AA,reduceIte,Nat.reduceEqDiff];rfl) rfl ?_
 refine Dn hP hn (by decide) trivial (EJ (by simp only [St.look,St.ev,lk,AA,AO,Ah,Ag,reduceIte,Nat.reduceAdd,Nat.reduceEqDiff,Nat.reduceMul];rfl)) ?_
 refine AV ?_
 exact RL (.inr rfl) (by first | (simp only [lk,reduceIte,Nat.reduceEqDiff];done) | (simp only [lk,reduceIte,Nat.reduceEqDiff];rfl)) (Qa (by simp only [AA,reduceIte,Nat.reduceEqDiff];rfl) (by simp))
theorem A0L:AR Tryz.prog 105 [GL []] (.one (rX [])):=by
 refine Bv Tryz.func105 rfl rfl (by rw [Tryz.ntmps105];simp) fun cx hP hn hg=>?_
 rw [Tryz.ntmps105] at hn
 rw [Br,Bq]
 simp only [BH,Nat.reduceAdd]
 refine EF.split (t:=0) (by simp [lk]) fun b=>?_
 cases b
 ·skip
  refine AL ?_
  refine Db hg ?_
  refine Dn hP hn (by decide) trivial (EJ (by simp only [St.look,St.ev,lk,AA,AO,Ah,Ag,reduceIte,Nat.reduceAdd,Nat.reduceEqDiff,Nat.reduceMul];rfl)) ?_
  refine AL ?_
  refine AL ?_
  refine Db hg ?_
  refine Dn hP hn (by decide) trivial (I6 (by simp only [St.look,St.ev,lk,AA,AO,Ah,Ag,reduceIte,Nat.reduceAdd,Nat.reduceEqDiff,Nat.reduceMul];rfl)) ?_
  refine Dn hP hn (by decide) trivial (by simp only [AP,Dj,Om,Ir,Ce,if_true,Option.map_some,St.look,St.ev,lk,AA,AO,Ah,Ag,reduceIte,Nat.reduceAdd,Nat.reduceEqDiff,Nat.reduceMul];rfl) ?_
  refine Fq (by simp only [St.look,St.ev,lk,AA,AO,Ah,Ag,reduceIte,Nat.reduceAdd,Nat.reduceEqDiff,Nat.reduceMul];rfl) (fun hc0=>?_) (fun hc0=>?_)
  ·exact absurd hc0 (by simp)
  refine Af ?_
  refine AL ?_
  refine Db hg ?_
  refine Xx hP hn (by decide) trivial (Fp (by simp only [List.map,St.look,St.ev,lk,AA,AO,Ah,Ag,reduceIte,Nat.reduceAdd,Nat.reduceEqDiff,Nat.reduceMul];rfl) CS YQ Dh rfl (by decide) (by decide) (by simp [EP,putCells,Cb,List.replicate];rfl)) rfl (by simp only [AA,reduceIte,Nat.reduceEqDiff];rfl) ?_
  refine Dn hP hn (by decide) trivial (I6 (by simp only [St.look,St.ev,lk,AA,AO,Ah,Ag,reduceIte,Nat.reduceAdd,Nat.reduceEqDiff,Nat.reduceMul];rfl)) ?_
  first
  | refine Rc hP hn (by decide) trivial (RP (by simp only [St.look,St.ev,lk,AA,AO,Ah,Ag,reduceIte,Nat.reduceAdd,Nat.reduceEqDiff,Nat.reduceMul];rfl) (by simp only [St.look,St.ev,lk,AA,AO,Ah,Ag,reduceIte,Nat.reduceAdd,Nat.reduceEqDiff,Nat.reduceMul];first | exact Mc | rfl | (simp [Ee,DI];rfl)) CS CS YQ Dh uI (by first | omega | (simp;try omega)) (by first | omega | (simp;try omega)) rfl) (by simp only [AA,reduceIte,Nat.reduceEqDiff];rfl) ?_
  | refine VT hP hn (by decide) trivial (RO (by simp only [St.look,St.ev,lk,AA,AO,Ah,Ag,reduceIte,Nat.reduceAdd,Nat.reduceEqDiff,Nat.reduceMul];rfl) (by simp only [St.look,St.ev,lk,AA,AO,Ah,Ag,reduceIte,Nat.reduceAdd,Nat.reduceEqDiff,Nat.reduceMul];first | exact Mc | rfl | (simp [Ee,DI];rfl)) CS CS YQ Dh uI (by rfl) (by rfl) (by rfl) (by first | omega | (simp;try omega)) (by first | omega | (simp;try omega)) (by first | omega | (simp;try omega)) rfl (by first | exact MP | exact iD | rfl)) (by simp only [AA,reduceIte,Nat.reduceEqDiff];rfl) (by simp only [AA,reduceIte,Nat.reduceEqDiff];rfl) rfl ?_
  refine Dn hP hn (by decide) trivial (EJ (by simp only [St.look,St.ev,lk,AA,AO,Ah,Ag,reduceIte,Nat.reduceAdd,Nat.reduceEqDiff,Nat.reduceMul];rfl)) ?_
  refine AV ?_
  exact RL (.inr rfl) (by first | (simp only [lk,reduceIte,Nat.reduceEqDiff];done) | (simp only [lk,reduceIte,Nat.reduceEqDiff];rfl)) (Qa (by simp only [AA,reduceIte,Nat.reduceEqDiff];rfl) (by simp))
 ·skip
  refine AL ?_
  refine Db hg ?_
  refine Dn hP hn (by decide) trivial (EJ (by simp only [St.look,St.ev,lk,AA,AO,Ah,Ag,reduceIte,Nat.reduceAdd,Nat.reduceEqDiff,Nat.reduceMul];rfl)) ?_
  refine AL ?_
  refine AL ?_
  refine Db hg ?_
  refine Dn hP hn (by decide) trivial (I6 (by simp only [St.look,St.ev,lk,AA,AO,Ah,Ag,reduceIte,Nat.reduceAdd,Nat.reduceEqDiff,Nat.reduceMul];rfl)) ?_
  refine Dn hP hn (by decide) trivial (by simp only [AP,Dj,Om,Ir,Ce,if_true,Option.map_some,St.look,St.ev,lk,AA,AO,Ah,Ag,reduceIte,Nat.reduceAdd,Nat.reduceEqDiff,Nat.reduceMul];rfl) ?_
  refine Fq (by simp only [St.look,St.ev,lk,AA,AO,Ah,Ag,reduceIte,Nat.reduceAdd,Nat.reduceEqDiff,Nat.reduceMul];rfl) (fun hc0=>?_) (fun hc0=>?_)
  rotate_left
  ·exact absurd hc0 (by simp)
  refine AL ?_
  refine Db hg ?_
  refine Dn hP hn (by decide) trivial (EJ (by simp only [St.look,St.ev,lk,AA,AO,Ah,Ag,reduceIte,Nat.reduceAdd,Nat.reduceEqDiff,Nat.reduceMul];rfl)) ?_
  refine AV ?_
  exact RL (.inr rfl) (by first | (simp only [lk,reduceIte,Nat.reduceEqDiff];done) | (simp only [lk,reduceIte,Nat.reduceEqDiff];rfl)) TJ
theorem f105 (l:List Tx) (h:l.length < 2000000):AR Tryz.prog 105 [GL l] (.one (rX l)):=by
 by_cases hl:l=[]
 ·subst hl;exact A0L
 ·exact A0K l h hl
end Go.Ab.Tryz
namespace Go.Ab.Tryz
open Go Go.Ab Go.Proofs Go.Ab.Ck Go.Ab.Gi
open Go.Ab.Heap (Az Ap BX)
open Go.Ab.Heap (Hp)
structure Fm where
 bog:Bg
 heaps:Hp
 need:Int
abbrev Vk (f:Fm):DV:=.agg [.list (f.bog.worth.map ints),.list (f.heaps.links.map ints),ints f.heaps.ground,i64 f.need]
def Nn (l:List (List Int)):Bool:=l.any fun r=>decide (50 < r.length)
def OE (f:Fm):Bool:=Nn f.bog.worth || Nn f.heaps.links || decide (50 < f.bog.worth.length) || decide (50 < f.heaps.links.length) || decide (50 < f.heaps.ground.length)
theorem dA {l:List (List Int)} {i:Nat} (hi:i < l.length) (h:50 < l[i].length):Nn l=true:=List.any_eq_true.2 ⟨_,List.getElem_mem hi,by simpa using h⟩
theorem d9 {l:List (List Int)} (h:∀ i (hi:i < l.length),l[i].length <= 50):Nn l=false:=by
 unfold Nn
 rw [List.any_eq_false]
 intro r hr
 obtain ⟨i,hi,rfl⟩:=List.getElem_of_mem hr
 have:=h i hi
 simp;omega
theorem f18 (f:Fm) (h1:f.bog.worth.length <= 9223372036854775807) (h2:f.heaps.links.length <= 9223372036854775807):AR Tryz.prog 18 [Vk f] (.one (.dv (.bool (OE f)))):=by
 refine Bv Tryz.func18 rfl rfl (by rw [Tryz.ntmps18];simp) fun cx hP hn hg=>?_
 rw [Tryz.ntmps18] at hn
 rw [Br,Bq]
 simp only [List.nil_append,List.append_nil,List.cons_append,BH,Nat.reduceAdd]
 refine sg ?_
 refine qp Bu ?_
 refine qv A9 ?_
 refine AL ?_
 refine sg ?_
 refine qv A9 ?_
 refine BI ?_
 refine Ao (ι:=Nat) (fun i=>⟨lk [(1,.pt 1 0 0),(3,.dv (i64 (i:Nat)))],AA [(1,0,some ⟨[.dv (.list ((f.bog.worth).map ints)),.dv (.list ((f.heaps.links).map ints)),.dv (ints (f.heaps.ground)),.dv (i64 (f.need))],0,29,0,false⟩)]⟩) (fun i=>i <= f.bog.worth.length /\ ∀ j (hj:j < f.bog.worth.length),j < i -> f.bog.worth[j].length <= 50) (fun i=>f.bog.worth.length - i) 0 (by simp) (tl [(1,1)]) ?_
 intro i BM
 refine AL ?_
 refine sg ?_
 refine qv A8 ?_
 refine qv (AB F8) ?_
 refine qv (AB Ch) ?_
 refine qv (AQ DJ DW) ?_
 refine qv (BD KO) ?_
 refine qv BK ?_
 refine cd (fun hc0=>?_) (fun hc0=>?_)
 ·try simp at hc0
  refine Af ?_
  refine AL ?_
  refine BI ?_
  refine sg ?_
  have hi:i < f.bog.worth.length:=by omega
  have hx:f.bog.worth[i]?=some f.bog.worth[i]:=List.getElem?_eq_getElem hi
  refine qv (AB F8) ?_
  refine qv (AB Ch) ?_
  refine qv (AQ DJ DW) ?_
  refine qv A8 ?_
  first | refine qv (BF CJ Av) ?_ | refine qv (Bf CJ Av) ?_
  refine qv (Bb Av Bz) ?_
  refine qv (BD Cj) ?_
  refine qv Dk ?_
  refine cd (fun hc1=>?_) (fun hc1=>?_)
  ·try simp at hc1
   refine sg ?_
   refine qv A9 ?_
   refine AV ?_
   exact x1 (hr:=(Ej (by unfold OE;rw [dA hi (by omega)];rfl)))
  ·try simp at hc1
   refine Af ?_
   refine rg ?_
   refine qv A8 ?_
   refine qv Aq ?_
   refine qv A9 ?_
   exact ⟨i+1,⟨by omega,fun j hj h=>by
    rcases Nat.lt_or_ge j i with h1 | h1
    ·exact BM.2 j hj h1
    ·obtain rfl:j=i:=by omega
     omega⟩,(by simp only;omega),(tl [(1,1)])⟩
 ·try simp at hc0
  have hn1:=d9 fun j hj=>BM.2 j hj (by omega)
  refine Ai ?_
  refine AL ?_
  refine sg ?_
  refine qv A9 ?_
  refine BI ?_
  refine Ao (ι:=Nat) (fun i=>⟨lk [(1,.pt 1 0 0),(4,.dv (i64 (i:Nat)))],AA [(1,0,some ⟨[.dv (.list ((f.bog.worth).map ints)),.dv (.list ((f.heaps.links).map ints)),.dv (ints (f.heaps.ground)),.dv (i64 (f.need))],0,29,0,false⟩)]⟩) (fun i=>i <= f.heaps.links.length /\ ∀ j (hj:j < f.heaps.links.length),j < i -> f.heaps.links[j].length <= 50) (fun i=>f.heaps.links.length - i) 0 (by simp) (tl [(1,1)]) ?_
  intro i IL
  refine AL ?_
  refine sg ?_
  refine qv A8 ?_
  refine qv (AB F7) ?_
  refine qv (AB EA) ?_
  refine qv (AQ DJ DW) ?_
  refine qv (BD KO) ?_
  refine qv BK ?_
  refine cd (fun hc2=>?_) (fun hc2=>?_)
  ·try simp at hc2
   refine Af ?_
   refine AL ?_
   refine BI ?_
   refine sg ?_
   have hi:i < f.heaps.links.length:=by omega
   have hx:f.heaps.links[i]?=some f.heaps.links[i]:=List.getElem?_eq_getElem hi
   refine qv (AB F7) ?_
   refine qv (AB EA) ?_
   refine qv (AQ DJ DW) ?_
   refine qv A8 ?_
   first | refine qv (BF CJ Av) ?_ | refine qv (Bf CJ Av) ?_
   refine qv (Bb Av Bz) ?_
   refine qv (BD Cj) ?_
   refine qv Dk ?_
   refine cd (fun hc3=>?_) (fun hc3=>?_)
   ·try simp at hc3
    refine sg ?_
    refine qv A9 ?_
    refine AV ?_
    exact x1 (hr:=(Ej (by unfold OE;rw [dA (l:=f.heaps.links) hi (by omega),Bool.or_true];rfl)))
   ·try simp at hc3
    refine Af ?_
    refine rg ?_
    refine qv A8 ?_
    refine qv Aq ?_
    refine qv A9 ?_
    exact ⟨i+1,⟨by omega,fun j hj h=>by
     rcases Nat.lt_or_ge j i with h1 | h1
     ·exact IL.2 j hj h1
     ·obtain rfl:j=i:=by omega
      omega⟩,(by simp only;omega),(tl [(1,1)])⟩
  ·try simp at hc2
   have hn2:=d9 fun j hj=>IL.2 j hj (by omega)
   refine Ai ?_
   refine sg ?_
   refine qv (AB F8) ?_
   refine qv (AB Ch) ?_
   refine qv (AQ DJ DW) ?_
   refine qv (BD KO) ?_
   refine qv Dk ?_
   refine qx A8 (fun fE=>?_) (fun fE=>?_)
   ·try simp at fE
    iterate 5 refine qk ?_
    refine qv Ae ?_
    refine qv A8 ?_
    iterate 5 refine qk ?_
    refine qv Ae ?_
    refine qv A9 ?_
    refine AV ?_
    exact x1 (hr:=(Ej (by unfold OE;rw [hn1,hn2,Bool.eq_iff_iff];simp<;>omega)))
   ·try simp at fE
    refine qv (AB F7) ?_
    refine qv (AB EA) ?_
    refine qv (AQ DJ DW) ?_
    refine qv (BD KO) ?_
    refine qv Dk ?_
    refine qv Ae ?_
    refine qx A8 (fun PE=>?_) (fun PE=>?_)
    ·try simp at PE
     iterate 5 refine qk ?_
     refine qv Ae ?_
     refine qv A9 ?_
     refine AV ?_
     exact x1 (hr:=(Ej (by unfold OE;rw [hn1,hn2,Bool.eq_iff_iff];simp<;>omega)))
    ·try simp at PE
     refine qv (AB F7) ?_
     refine qv (AB FK) ?_
     refine qv (AQ Av Bz) ?_
     refine qv (BD Cj) ?_
     refine qv Dk ?_
     refine qv Ae ?_
     refine qv A9 ?_
     refine AV ?_
     exact x1 (hr:=(Ej (by unfold OE;rw [hn1,hn2,Bool.eq_iff_iff];simp<;>omega)))
end Go.Ab.Tryz
namespace Go.Ab.Tryz
open Go Go.Ab Go.Proofs Go.Ab.Ck Go.Ab.Gi
open Go.Ab.Heap (Az Ap BX)
theorem f23 (L:List Tx) (hl:L.length < 2000000):FN Tryz.prog 23 [GL L] (.one (.dv (GL (L.take 30)))):=by
 refine JM Tryz.func23 rfl rfl (by rw [Tryz.ntmps23];simp) fun cx hP hn hg=>?_
 rw [Tryz.ntmps23] at hn
 rw [Br,Bq]
 simp only [List.nil_append,List.append_nil,List.cons_append,BH,Nat.reduceAdd]
 refine sg ?_
 refine qv A9 ?_
 refine AL ?_
 refine sg ?_
 refine qv A8 ?_
 refine qv (BD Ce) ?_
 refine qv Dk ?_
 refine cd (fun hc0=>?_) (fun hc0=>?_)
 ·try simp at hc0
  refine sg ?_
  refine qr (FV CS YQ Dh) ?_
  refine qv A8 ?_
  refine qv (aM (L':=L.take 30) CS Dh (hL:=by simp)) ?_
  refine vG (Iu CS CS YQ Dh uI (hx:=by (simp only [St.look,St.ev,lk,AA,AO,Ah,Ag,reduceIte,Nat.reduceAdd,Nat.reduceEqDiff,Nat.reduceMul]<;>exact Mc))) ?_
  refine qv A9 ?_
  refine AV ?_
  exact x1 (hr:=zD (RV (L:=L.take 30) (by simp only [AA,reduceIte,Nat.reduceEqDiff,List.nil_append]<;>rfl) trivial (by simp<;>omega) (fun _=>trivial)))
 ·try simp at hc0
  refine Af ?_
  refine sg ?_
  refine qv A8 ?_
  refine qv A9 ?_
  refine AV ?_
  exact x1 (hr:=Uq (by rw [List.take_of_length_le (by omega)]))
end Go.Ab.Tryz
namespace Go.Ab.Tryz
open Go Go.Ab Go.Proofs Go.Ab.Ck Go.Ab.Gi
open Go.Ab.Heap (Az Ap BX)
open H (SL Et)
open Go.Ab.Heap (Hp)
def two:Fm:=⟨⟨[[1,2],[3,4]]⟩,⟨[[0,1],[1,0]],[1,1]⟩,2⟩
theorem f61:FN Tryz.prog 61 [] (.one (.dv (Vk two))):=by
 refine JM Tryz.func61 rfl rfl (by rw [Tryz.ntmps61];simp) fun cx hP hn hg=>?_
 rw [Tryz.ntmps61] at hn
 rw [Br,Bq]
 simp only [List.nil_append,List.append_nil,List.cons_append,BH,Nat.reduceAdd]
 refine sg ?_
 refine qp (IJ uO) ?_
 refine sg ?_
 refine qr (FV BG Nu Aw) ?_
 refine Gv 1 1 (x:=ints [1,2]) ?_ (hD:=(Bc (L:=[1,2]) (by simp only [AA,reduceIte,Nat.reduceEqDiff]<;>rfl) rfl rfl rfl rfl (fun _=>trivial)))
 refine qr (FV BG Nu Aw) ?_
 refine Gv 2 2 (x:=ints [3,4]) ?_ (hD:=(Bc (L:=[3,4]) (by simp only [AA,reduceIte,Nat.reduceEqDiff]<;>rfl) rfl rfl rfl rfl (fun _=>trivial)))
 refine qr (FV CJ UM Av) ?_
 refine Gv 3 3 (x:=.list (([[1,2],[3,4]]:List (List Int)).map ints)) ?_ (hD:=Heap.MB (l:=([[1,2],[3,4]]:List (List Int)).map ints) (by simp only [AA,reduceIte,Nat.reduceEqDiff]<;>rfl) rfl rfl (fun d hd=>by simp at hd;rcases hd with rfl | rfl<;>rfl) (CV (.dv _ trivial) (CV (.dv _ trivial) FI)))
 refine qv (DC zJ nP) ?_
 refine qr (FV BG Nu Aw) ?_
 refine Gv 5 5 (x:=ints [0,1]) ?_ (hD:=(Bc (L:=[0,1]) (by simp only [AA,reduceIte,Nat.reduceEqDiff]<;>rfl) rfl rfl rfl rfl (fun _=>trivial)))
 refine qr (FV BG Nu Aw) ?_
 refine Gv 6 6 (x:=ints [1,0]) ?_ (hD:=(Bc (L:=[1,0]) (by simp only [AA,reduceIte,Nat.reduceEqDiff]<;>rfl) rfl rfl rfl rfl (fun _=>trivial)))
 refine qr (FV CJ UM Av) ?_
 refine Gv 7 7 (x:=.list (([[0,1],[1,0]]:List (List Int)).map ints)) ?_ (hD:=Heap.MB (l:=([[0,1],[1,0]]:List (List Int)).map ints) (by simp only [AA,reduceIte,Nat.reduceEqDiff]<;>rfl) rfl rfl (fun d hd=>by simp at hd;rcases hd with rfl | rfl<;>rfl) (CV (.dv _ trivial) (CV (.dv _ trivial) FI)))
 refine qr (FV BG Nu Aw) ?_
 refine Gv 8 8 (x:=ints [1,1]) ?_ (hD:=(Bc (L:=[1,1]) (by simp only [AA,reduceIte,Nat.reduceEqDiff]<;>rfl) rfl rfl rfl rfl (fun _=>trivial)))
 refine qv (DC zI yT) ?_
 refine qv (DC pl29 uO) ?_
 refine qs (Cu Jy) ?_
 refine AV ?_
 exact Heap.Xj (.inr rfl) (s1:=.dv (Vk two)) (by simp only [Dr,Jy,LA,St.look,St.ev,lk,AA,AO,Ah,Ag,reduceIte,Nat.reduceAdd,Nat.reduceEqDiff,Nat.reduceMul];rfl) (.dv _ trivial)
end Go.Ab.Tryz
namespace Go.Ab.Tryz
open Go Go.Ab Go.Proofs Go.Ab.Ck Go.Ab.Gi
open Go.Ab.Heap (Az Ap BX)
open Go.Ab.Heap (Hp GX validate)
def PD (b:Bg) (n:Int):Mw:=⟨(b.dep:Int),(b.worth.length:Int),n⟩
def newE (b:Bg) (h:Hp) (n:Int):Int :=
 if Nj b ≠ 0 then Nj b else if validate h ≠ 0 then validate h else if h.ground.length ≠ b.worth.length then 1 else valid (PD b n)
theorem NU (b:Bg) (h:Hp) (n:Int) (hE:newE b h n ≠ 0):BA Tryz.prog 59 [.dv (RX b),.dv (GX h),.dv (i64 n)] (Bj []) ⟨[.dv .CU,.dv (i64 (newE b h n))],Bj []⟩:=by
 unfold newE at hE ⊢
 refine EI Tryz.func59 rfl rfl (by rw [Tryz.ntmps59];simp) fun cx hP hn hg=>?_
 rw [Tryz.ntmps59] at hn
 refine CB ?_
 refine sg ?_
 iterate 2 refine qp Bu ?_
 iterate 2 refine qv A9 ?_
 refine AL ?_
 refine sg ?_
 refine qv (AY Dw EC) ?_
 refine CF (f93 b) ?_
 refine qv A9 ?_
 refine sg ?_
 refine qv A8 ?_
 refine qv Ay ?_
 refine cd (fun hc0=>?_) (fun hc0=>?_)
 ·skip
  have hv:Nj b ≠ 0:=by simpa using hc0
  rw [if_pos hv]
  refine sg ?_
  refine qv A8 ?_
  iterate 2 refine qv A9 ?_
  refine AV ?_
  exact xg []
 ·skip
  have hv:Nj b=0:=by simpa using hc0
  rw [if_neg (by simp [hv])] at hE ⊢
  have ok:=U6 hv
  have hn0:=ok.n0
  have hg0:=Eu hn0
  refine Af ?_
  refine AL ?_
  refine sg ?_
  refine qv (AY Dp Dt) ?_
  refine CF (H.f94 h) ?_
  refine qv A9 ?_
  refine sg ?_
  refine qv A8 ?_
  refine qv Ay ?_
  refine cd (fun hc1=>?_) (fun hc1=>?_)
  ·skip
   have hw:validate h ≠ 0:=by simpa using hc1
   rw [if_pos hw]
   refine sg ?_
   refine qv A8 ?_
   iterate 2 refine qv A9 ?_
   refine AV ?_
   exact xg []
  ·skip
   have hw:validate h=0:=by simpa using hc1
   rw [if_neg (by simp [hw])] at hE ⊢
   refine Af ?_
   refine sg ?_
   refine qv (AB Ch) ?_
   refine qv (AQ DJ DW) ?_
   refine qv (BD KO) ?_
   refine qv A9 ?_
   refine AL ?_
   refine sg ?_
   refine qv (AB FK) ?_
   refine qv (AQ Av Bz) ?_
   refine qv (BD Cj) ?_
   refine qv A8 ?_
   refine qv Ay ?_
   refine cd (fun hc2=>?_) (fun hc2=>?_)
   ·try simp at hc2
    have hl:h.ground.length ≠ b.worth.length:=by omega
    rw [if_pos hl]
    refine sg ?_
    iterate 2 refine qv A9 ?_
    refine AV ?_
    exact xg []
   ·try simp at hc2
    have hl:h.ground.length=b.worth.length:=by omega
    rw [if_neg (by simp [hl])] at hE ⊢
    refine Af ?_
    refine sg ?_
    refine qv (AB Ch) ?_
    refine qv (AQ DJ DW) ?_
    first | refine qv (BF CJ Av) ?_ | refine qv (Bf CJ Av) ?_
    refine qv (Bb Av Bz) ?_
    refine qv (BD Cj) ?_
    iterate 2 refine qv A8 ?_
    refine qv (DC oF Vn) ?_
    refine qp (IJ Vn) ?_
    refine qs (Cu Jw) ?_
    refine AL ?_
    refine sg ?_
    refine qv (AY Jw Np) ?_
    refine CF (f95 (PD b n)) ?_
    refine qv A9 ?_
    refine sg ?_
    refine qv A8 ?_
    refine qv Ay ?_
    refine G5 (hb:=(by simpa using hE)) (ht:=?_)
    refine sg ?_
    refine qv A8 ?_
    iterate 2 refine qv A9 ?_
    refine AV ?_
    exact xg []
end Go.Ab.Tryz
namespace Go.Ab.Tryz
open Go Go.Ab Go.Proofs Go.Ab.Ck Go.Ab.Gi
open Go.Ab.Heap (Az Ap BX)
open Go.Ab.Heap (Hp GX validate)
structure Cs where
 day:Int
 AU:List Int
 Ad:List Int
 Gj:Nat
 EL:Int
 cut:Int
 loaded:Int
 shut:Bool
 orders:List Tx
abbrev rT (b:Bg) (h:Hp) (n:Int) (c:Cs) (s:Int):List SV:=[.dv (.int .i32 s),.dv (.int .u32 0),.dv (.list (b.worth.map ints)),.dv (.list (h.links.map ints)),.dv (ints h.ground),.dv (i64 (b.dep:Int)),.dv (i64 (b.worth.length:Int)),.dv (i64 n),
 .dv (i64 c.day),.dv (ints c.AU),.dv (ints c.Ad),.dv (i64 (c.Gj:Int)),.dv (i64 c.EL),.dv (i64 c.cut),.dv (i64 c.loaded),.dv (.bool c.shut),.sl 100001 0 0 c.orders.length]
abbrev Il (b:Bg) (h:Hp) (n:Int) (c:Cs):Au:=⟨rT b h n c 0,0,100,0,false⟩
def cs0 (k:Nat):Cs:=⟨0,List.replicate k 0,List.replicate k 0,0,0,0,0,false,[]⟩
theorem Yu {b:Bg} {h:Hp} {n:Int} (hE:newE b h n=0):Nj b=0 /\ validate h=0 /\ h.ground.length=b.worth.length /\ valid (PD b n)=0:=by
 unfold newE at hE
 split at hE
 ·rename_i h1;exact absurd hE h1
 ·rename_i h1
  split at hE
  ·rename_i h2;exact absurd hE h2
  ·rename_i h2
   split at hE
   ·cases hE
   ·rename_i h3;exact ⟨by simpa using h1,by simpa using h2,by simpa using h3,hE⟩
set_option maxHeartbeats 2000000 in
theorem M9 (b:Bg) (h:Hp) (n:Int) (hE:newE b h n=0):BA Tryz.prog 59 [.dv (RX b),.dv (GX h),.dv (i64 n)] (Bj []) ⟨[.pt 100000 0 0,.dv (i64 0)],Bj [(100000,Il b h n (cs0 b.worth.length)),(100001,Jz [])]⟩:=by
 obtain ⟨hv,hw,hl,hm⟩:=Yu hE
 have ok:=U6 hv
 have hn0:=ok.n0
 have X8:=ok.n6
 have hd4:=ok.d4
 have hg0:=Eu hn0
 have hh:=H.Q5 hw
 have hr1:∀ i (hi:i < b.worth.length),b.worth[i].length < 2000000:=fun i hi=>by
  have:=ok.len i hi
  have e:b.col i=b.worth[i]:=Option.some.inj ((Eu hi).symm.trans (List.getElem?_eq_getElem hi))
  rw [e] at this;omega
 have vh:=Heap.Vq hw
 have hll:=vh.len
 have hr2:∀ i (hi:i < h.links.length),h.links[i].length < 2000000:=fun i hi=>by
  have h1:=vh.row i (by omega)
  have e:=H.Ux vh.len (i:=i) (by omega)
  rw [List.getElem?_eq_getElem hi] at e
  rw [Option.some.inj e];omega
 refine EI Tryz.func59 rfl rfl (by rw [Tryz.ntmps59];simp) fun cx hP hn hg=>?_
 rw [Tryz.ntmps59] at hn
 refine CB ?_
 refine sg ?_
 iterate 2 refine qp Bu ?_
 iterate 2 refine qv A9 ?_
 refine AL ?_
 refine sg ?_
 refine qv (AY Dw EC) ?_
 refine CF (f93 b) ?_
 refine qv A9 ?_
 refine sg ?_
 refine qv A8 ?_
 refine qv Ay ?_
 refine Dy (hb:=(by simp [hv])) (ht:=?_)
 refine Af ?_
 refine AL ?_
 refine sg ?_
 refine qv (AY Dp Dt) ?_
 refine CF (H.f94 h) ?_
 refine qv A9 ?_
 refine sg ?_
 refine qv A8 ?_
 refine qv Ay ?_
 refine Dy (hb:=(by simp [hw])) (ht:=?_)
 refine Af ?_
 refine sg ?_
 refine qv (AB Ch) ?_
 refine qv (AQ DJ DW) ?_
 refine qv (BD KO) ?_
 refine qv A9 ?_
 refine AL ?_
 refine sg ?_
 refine qv (AB FK) ?_
 refine qv (AQ Av Bz) ?_
 refine qv (BD Cj) ?_
 refine qv A8 ?_
 refine qv Ay ?_
 refine Dy (hb:=(by simp [hl])) (ht:=?_)
 refine Af ?_
 refine sg ?_
 refine qv (AB Ch) ?_
 refine qv (AQ DJ DW) ?_
 first | refine qv (BF CJ Av) ?_ | refine qv (Bf CJ Av) ?_
 refine qv (Bb Av Bz) ?_
 refine qv (BD Cj) ?_
 iterate 2 refine qv A8 ?_
 refine qv (DC oF Vn) ?_
 refine qp (IJ Vn) ?_
 refine qs (Cu Jw) ?_
 refine AL ?_
 refine sg ?_
 refine qv (AY Jw Np) ?_
 refine CF (f95 (PD b n)) ?_
 refine qv A9 ?_
 refine sg ?_
 refine qv A8 ?_
 refine qv Ay ?_
 refine Dy (hb:=(by simp [hm])) (ht:=?_)
 refine Af ?_
 refine AL ?_
 refine rd mixed ?_
 refine zv (AB Ch) ?_
 refine zv (AQ DJ DW) ?_
 refine zqA (R:=[]) (f96 b.worth (by omega) hr1) ?_
 refine zv (DC zJ nP) ?_
 refine zv (AB EA) ?_
 refine zv (AQ DJ DW) ?_
 refine zqA (R:=[]) (f96 h.links (by omega) hr2) ?_
 refine zv (AB FK) ?_
 refine zv (AQ Av Bz) ?_
 refine Kz (R:=[]) (f97 h.ground (by omega)) ?_
 refine zv (DC zI yT) ?_
 refine zv (AY Jw Np) ?_
 refine zv A8 ?_
 refine zr (TW BG Nu Aw ZY) ?_
 refine zv A8 ?_
 refine zr (TW BG Nu Aw ZY) ?_
 refine zv (DC zH Vm) ?_
 refine zv (DC zK yV) ?_
 refine zp Bu ?_
 iterate 2 refine zv A9 ?_
 refine ⟨by rfl,?_⟩
 refine Dz 53 ?_
 refine Dz 57 ?_
 refine Dz 59 ?_
 refine AV ?_
 exact xg [(100000,62)] (h2:=by
  simp [Cm,Ar,Aa,AX,isLive,AZ,Bj,AA,DZ,BO,BN,Al,BL,BP,BS,BQ,BR,ED]
  repeat' (first | rfl | exact Bc (L:=h.ground) rfl rfl rfl rfl rfl (fun _=>trivial) | exact Bc (L:=List.replicate b.worth.length 0) rfl rfl (by simp) rfl (by simp) (fun _=>trivial) | refine And.intro ?_ ?_))
end Go.Ab.Tryz
namespace Go.Ab.Tryz
open Go Go.Ab Go.Proofs Go.Ab.Ck Go.Ab.Gi
open Go.Ab.Heap (Az Ap BX)
open Go.Ab.Heap (Hp GX validate)
abbrev rR (b:Bg) (h:Hp) (n:Int) (c:Cs) (s:Int):List DV:=[.int .i32 s,.int .u32 0,.list (b.worth.map ints),.list (h.links.map ints),ints h.ground,i64 (b.dep:Int),i64 (b.worth.length:Int),i64 n,
 i64 c.day,ints c.AU,ints c.Ad,i64 (c.Gj:Int),i64 c.EL,i64 c.cut,i64 c.loaded,.bool c.shut]
def gX (b:Bg) (r k:Nat):Nat:=2 ^ (r * b.worth.length+k)
def Nb (b:Bg) (k:Nat):Nat -> Nat
 | 0=>0
 | r+1=>Nb b k r ||| gX b r k
def GY (b:Bg) (l:List Int):Nat -> Nat
 | 0=>0
 | k+1=>GY b l k ||| Nb b k (Az l k).toNat
theorem iV {b:Bg} (ok:Ob b) {r k:Nat} (hr:r < b.dep) (hk:k < b.worth.length):r * b.worth.length+k < 24:=by
 have h1:=ok.n6
 have h2:=ok.d4
 have:(r+1) * b.worth.length <= 4 * 6:=Nat.mul_le_mul (by omega) h1
 rw [Nat.add_mul] at this
 omega
theorem Sz {b:Bg} (ok:Ob b) {r k:Nat} (hr:r < b.dep) (hk:k < b.worth.length):gX b r k < 16777216:=by
 have:=Nat.pow_lt_pow_right (a:=2) (by decide) (iV ok hr hk)
 exact this
theorem vJ {x y:Nat} (hx:x < 16777216) (hy:y < 16777216):x ||| y < 16777216:=Nat.or_lt_two_pow (n:=24) hx hy
theorem VP {b:Bg} (ok:Ob b) {k:Nat} (hk:k < b.worth.length):∀ r,r <= b.dep -> Nb b k r < 16777216
 | 0,_=>by simp [Nb]
 | r+1,h=>vJ (VP ok hk r (by omega)) (Sz ok (by omega) hk)
theorem cB {b:Bg} {l:List Int} (ok:Oa b l):∀ k,k <= l.length -> GY b l k < 16777216
 | 0,_=>by simp [GY]
 | k+1,h=>vJ (cB ok k (by omega)) (VP ok.bg (by rw [<- ok.len];omega) _ (by have:=ok.bd k (by omega);omega))
theorem f90 (b:Bg) (ok:Ob b) (h:Hp) (n:Int) (c:Cs) (s:Int) (r k:Nat) (hr:r < b.dep) (hk:k < b.worth.length):AR Tryz.prog 90 [.Cy (rR b h n c s),i64 (r:Int),i64 (k:Int)] (.one (.dv (i64 (gX b r k:Nat)))):=by
 have hb:=iV ok hr hk
 have h6:=ok.n6
 have hmul:r * b.worth.length < 24:=by omega
 refine Bv Tryz.func90 rfl rfl (by rw [Tryz.ntmps90];simp) fun cx hP hn hg=>?_
 rw [Tryz.ntmps90] at hn
 rw [Br,Bq]
 simp only [List.nil_append,List.append_nil,List.cons_append,BH,Nat.reduceAdd]
 refine sg ?_
 refine qv A9 ?_
 refine sg ?_
 iterate 2 refine qv A8 ?_
 refine qv CK ?_
 first | refine qv (oP Jl) ?_ | refine qv (AB Jl) ?_
 first | refine qv (oP DF) ?_ | refine qv (AB DF) ?_
 first | refine qv (Bb Aw Bw) ?_ | refine qv (AQ Aw Bw) ?_
 refine qv Z4 ?_
 refine qv A8 ?_
 refine qv DT ?_
 refine qv (EZ (r * b.worth.length+k)) ?_
 refine qv A9 ?_
 refine AV ?_
 exact x1 (hr:=(Cc (by simp [gX])))
end Go.Ab.Tryz
