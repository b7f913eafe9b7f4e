/- BogWs, BogWr, BogB6, Ab53, BogN1, BogCs, BogN2, BogN3, BogN4, BogN5, BogN6, BogO1. -/
import Derived.Test.YtjcecljhjailiaaGreatDoorBogG08
import Derived.Shelf.RegionOpenPlain
import Derived.Lib.Strings
import Derived.Lib.Slices
import Derived.Lib.Walk
import Derived.Lib.Builder
import Derived.Lib.AppendStr
import Derived.Lib.UnsafeStr
import Derived.Lib.MakeNoZero
import Derived.WalkKit
import Derived.Laws.Externs
import Derived.Laws.IdiomCopy
import Derived.Laws.BitsLemmas
import Derived.Test.YtjcecljhjailiaaGreatDoorBogG21
import Derived.Test.YtjcecljhjailiaaGreatDoorBogB5
import Derived.Test.YtjcecljhjailiaaGreatDoorBogG07
import Derived.Test.YtjcecljhjailiaaGreatDoorBogG10
import Derived.Test.YtjcecljhjailiaaGreatDoorBogG09
set_option linter.all false
namespace Go.Proofs
open Go.Shelf Go.RowKit
set_option maxHeartbeats 2000000 in
set_option maxRecDepth 100000 in
theorem Tryz.Bcopy_used (b:Nat) (w:World) (h0:w.cell? ⟨b,0,none⟩=some (.pointer (some ⟨b,0,none⟩))) :
  Calls Tryz.prog 161 #[.pointer (some ⟨b,0,none⟩)] w fun e w'=>e=.returned (.tuple #[]) /\ w'=w:=by
 obtain ⟨j,hj,_⟩:=Option.map_eq_some_iff.1 (Tryz.Builder_Extra_169).sizeBuilder
 have mixed:Tryz.prog.follows .mixedOrders=true:=by kernel_rfl
 have X:=Tryz.Builder_Extra_169
 have t72:=Tryz.underlying164;have a72:=Tryz.isAgg164;have z72:=Tryz.sizeOf164;have v72:=Tryz.zeroValue164;have u72:=run_underlying Tryz.underlying164
 have t70:=Tryz.underlying161;have a70:=Tryz.isAgg161;have z70:=Tryz.sizeOf161;have v70:=Tryz.zeroValue161;have u70:=run_underlying Tryz.underlying161
 have t9:=Tryz.underlying9;have a9:=Tryz.isAgg9;have z9:=Tryz.sizeOf9;have v9:=Tryz.zeroValue9;have u9:=run_underlying Tryz.underlying9
 have t4:=Tryz.underlying4;have a4:=Tryz.isAgg4;have z4:=Tryz.sizeOf4;have v4:=Tryz.zeroValue4;have u4:=run_underlying Tryz.underlying4
 have t164:=Tryz.underlying174;have a164:=Tryz.isAgg174;have z164:=Tryz.sizeOf174;have v164:=Tryz.zeroValue174;have u164:=run_underlying Tryz.underlying174
 go_enter Tryz.func161,Tryz.ntmps161
 go_wp2
 rw [Lib.run_neq_ptr_same w _ Tryz.underlying161 hj]
 go_wp2
 go_end0
 exact ⟨rfl,rfl⟩
set_option maxHeartbeats 2000000 in
set_option maxRecDepth 100000 in
theorem Tryz.Bcopy_fresh (b:Nat) (w:World) (h0:w.cell? ⟨b,0,none⟩=some (.pointer none)) (hsh:w.shape? b=some (164,2)) (hfz:w.frozen? ⟨b,0,none⟩=false) :
  Calls Tryz.prog 161 #[.pointer (some ⟨b,0,none⟩)] w fun e w'=>e=.returned (.tuple #[]) /\ w'=w.setCell ⟨b,0,none⟩ (.pointer (some ⟨b,0,none⟩)):=by
 obtain ⟨j,hj,hjs⟩:=Option.map_eq_some_iff.1 (Tryz.Builder_Extra_169).sizeBuilder
 have mixed:Tryz.prog.follows .mixedOrders=true:=by kernel_rfl
 have X:=Tryz.Builder_Extra_169
 have t72:=Tryz.underlying164;have a72:=Tryz.isAgg164;have z72:=Tryz.sizeOf164;have v72:=Tryz.zeroValue164;have u72:=run_underlying Tryz.underlying164
 have t70:=Tryz.underlying161;have a70:=Tryz.isAgg161;have z70:=Tryz.sizeOf161;have v70:=Tryz.zeroValue161;have u70:=run_underlying Tryz.underlying161
 have t9:=Tryz.underlying9;have a9:=Tryz.isAgg9;have z9:=Tryz.sizeOf9;have v9:=Tryz.zeroValue9;have u9:=run_underlying Tryz.underlying9
 have t4:=Tryz.underlying4;have a4:=Tryz.isAgg4;have z4:=Tryz.sizeOf4;have v4:=Tryz.zeroValue4;have u4:=run_underlying Tryz.underlying4
 have t164:=Tryz.underlying174;have a164:=Tryz.isAgg174;have z164:=Tryz.sizeOf174;have v164:=Tryz.zeroValue174;have u164:=run_underlying Tryz.underlying174
 go_enter Tryz.func161,Tryz.ntmps161
 go_wp2
 rw [Lib.run_to_unsafe w ⟨b,0,none⟩ Tryz.underlying161 Tryz.underlying174 hj (by rw [hjs];decide) hsh (Nat.zero_lt_succ 1)]
 simp only [Result.andThen]
 rw [Oper.upon_value]
 go_wp2
 rw [run_callFunc_extern Tryz.func190 (by kernel_rfl) (by kernel_rfl) (by kernel_rfl) (e:=Extern.AbiNoEscape.same) (by kernel_rfl)]
 rw [Lib.run_noEscape]
 simp only [Result.andThen]
 rw [Oper.upon_value]
 go_wp2
 rw [Lib.run_from_unsafe w ⟨b,0,none⟩ Tryz.underlying174 Tryz.underlying161 hj hsh X.liesBuilder]
 simp only [Result.andThen]
 rw [Oper.upon_value]
 go_wp2
 go_end0
 exact ⟨rfl,rfl⟩
set_option maxHeartbeats 2000000 in
set_option maxRecDepth 100000 in
theorem Tryz.Bcopy (B b:Nat) (bs:List Value) (w:World) (h:Lib.IsBuilder 164 5 B b bs w) :
  Calls Tryz.prog 161 #[.pointer (some ⟨b,0,none⟩)] w fun e w'=>e=.returned (.tuple #[]) /\ (Lib.BuilderAt 164 5 B b (.pointer (some ⟨b,0,none⟩)) bs w' /\ Below B w w'):=by
 rcases h with h | h
 ·refine (Tryz.Bcopy_fresh b w h.cell0 h.shape h.frozen0).mono ?_
  rintro e w' ⟨rfl,rfl⟩
  exact ⟨rfl,h.used _,(Below.refl B w).setCell (p:=⟨b,0,none⟩) h.1 _⟩
 ·refine (Tryz.Bcopy_used b w h.cell0).mono ?_
  rintro e w' ⟨rfl,rfl⟩
  exact ⟨rfl,h,Below.refl B _⟩
set_option maxHeartbeats 2000000 in
set_option maxRecDepth 100000 in
theorem Tryz.Bwrite (B b:Nat) (bs:List Value) (s:ByteArray) (w:World) (h:Lib.IsBuilder 164 5 B b bs w) (hlen:bs.length+s.size <= 140737488355328) (hBw:B <= w.heap.size) :
  Calls Tryz.prog 123 #[.pointer (some ⟨b,0,none⟩),.string s] w fun e w'=>e=.returned (.tuple #[.int .i64 s.size,.nilIface]) /\ (Lib.BuilderAt 164 5 B b (.pointer (some ⟨b,0,none⟩)) (bs ++ Lib.strCells s) w' /\ Below B w w'):=by
 obtain ⟨i0,hi,hz0,hz1,hz2⟩:=info_parts (Tryz.Builder_Extra_169).infoByte
 have mixed:Tryz.prog.follows .mixedOrders=true:=by kernel_rfl
 have X:=Tryz.Builder_Extra_169
 have t72:=Tryz.underlying164;have a72:=Tryz.isAgg164;have z72:=Tryz.sizeOf164;have v72:=Tryz.zeroValue164;have u72:=run_underlying Tryz.underlying164
 have t70:=Tryz.underlying161;have a70:=Tryz.isAgg161;have z70:=Tryz.sizeOf161;have v70:=Tryz.zeroValue161;have u70:=run_underlying Tryz.underlying161
 have t37:=Tryz.underlying162;have a37:=Tryz.isAgg162;have z37:=Tryz.sizeOf162;have v37:=Tryz.zeroValue162;have u37:=run_underlying Tryz.underlying162
 have t3:=Tryz.underlying3;have a3:=Tryz.isAgg3;have z3:=Tryz.sizeOf3;have v3:=Tryz.zeroValue3;have u3:=run_underlying Tryz.underlying3
 have t9:=Tryz.underlying9;have a9:=Tryz.isAgg9;have z9:=Tryz.sizeOf9;have v9:=Tryz.zeroValue9;have u9:=run_underlying Tryz.underlying9
 have t4:=Tryz.underlying4;have a4:=Tryz.isAgg4;have z4:=Tryz.sizeOf4;have v4:=Tryz.zeroValue4;have u4:=run_underlying Tryz.underlying4
 have t164:=Tryz.underlying174;have a164:=Tryz.isAgg174;have z164:=Tryz.sizeOf174;have v164:=Tryz.zeroValue174;have u164:=run_underlying Tryz.underlying174
 have t5:=Tryz.underlying5;have a5:=Tryz.isAgg5;have z5:=Tryz.sizeOf5;have v5:=Tryz.zeroValue5;have u5:=run_underlying Tryz.underlying5
 have e240:∀ args w,(callFunc 161 args).run Tryz.prog w=.ok (.enter 161 args) w:=enters_of Tryz.func161 (by kernel_rfl) rfl
 go_enter Tryz.func123,Tryz.ntmps123
 go_wp2_with (go_at_fn 161;refine (Tryz.Bcopy B b bs _ h).mono ?_)
 rintro e w1 ⟨rfl,h1,hb1⟩
 obtain ⟨hB,v,hbk,hown,hne⟩:=h1
 have c0:w1.cell? ⟨b,0,none⟩=some (.pointer (some ⟨b,0,none⟩)):=by rw [Lib.cell_of_heap hbk];rfl
 have c1:w1.cell? ⟨b,1,none⟩=some v:=by rw [Lib.cell_of_heap hbk];rfl
 go_wp2_with (at_builtin;refine Lib.wpList_append_own_string _ rfl _ _ 162 9 rfl B 5 i0 Tryz.underlying162 Tryz.underlying9 hi hz0 hz1 hz2 _ _ _ rfl hown s rfl ?c3 ?c4 ?c5 ?_)
 case c3=>unfold maxLen;omega
 case c4=>omega
 case c5=>have:=hb1.size;omega
 intro v' w2 hown' hgrow _
 have hlt:b < w1.heap.size:=by
  rcases Nat.lt_or_ge b w1.heap.size with h' | h'
  ·exact h'
  ·simp [Array.getElem?_eq_none h'] at hbk
 have hb2:w2.heap[b]?=some (.cells #[.pointer (some ⟨b,0,none⟩),v] 164 (0,0)):=by
  rw [hgrow.block b hlt (fun e=>hne e.symm)]
  exact hbk
 have d0:w2.cell? ⟨b,0,none⟩=some (.pointer (some ⟨b,0,none⟩)):=by rw [Lib.cell_of_heap hb2];rfl
 have d1:w2.cell? ⟨b,1,none⟩=some v:=by rw [Lib.cell_of_heap hb2];rfl
 have f1:w2.frozen? ⟨b,1,none⟩=false:=Lib.frozen_of_heap hb2 1
 obtain ⟨ao,n',cap,rfl⟩:∃ ao n' cap,v'=.slice ao n' cap:=by
  rcases hown'.2 with ⟨hv,_⟩ | ⟨g,cap,cur,hv,_⟩
  ·exact ⟨_,_,_,hv⟩
  ·exact ⟨_,_,_,hv⟩
 go_wp2
 go_ret2
 refine ⟨rfl,?_,?_⟩
 ·exact Lib.BuilderAt.put (T:=164) (e:=5) hB hb2 (bs':=bs ++ Lib.strCells s) (by simpa [Lib.strCells_length] using hown') X.neB5
 ·exact (hb1.grown hgrow (by have:=hb1.size;omega) (fun k hk=>(hown.lt k hk).1)).setCell (p:=⟨b,1,none⟩) hB _
end Go.Proofs
namespace Go.Ab.Tryz
open Go Go.Ab Go.Proofs Go.RowKit Go.Ab.Gx
theorem bS {w w':World} (h:Laid w) (hb:Below w.heap.size w w'):Laid w':=h.keep fun g hk=>hb.block g (h.lt hk)
theorem nS (s:Int) (T:Tx) (hT:T.length < 2000000) (w:World) (hl:Laid w) :
  Calls Tryz.prog 85 #[.int .i64 s,.string (bs T)] w fun e w'=>e=.returned (.tuple #[.string (bs (Fq (HY s) T)),.int .i64 (Cj (HY s) T:Nat)]) /\ Below w.heap.size w w':=by
 refine ((f85 s T hT).2 w #[.int .i64 s,.string (bs T)] hl ⟨rfl,fun j d hj=>?_⟩).mono fun e w' ⟨v,he,hb,hr⟩=>?_
 ·match j,hj with
  | 0,hj=>cases hj;exact .int _ _
  | 1,hj=>cases hj;exact .str _
 ·obtain ⟨vs,obs,hvt,hv,_⟩:=hr
  subst he
  obtain ⟨v1,v2,rfl⟩:∃ v1 v2,vs=[v1,v2]:=by
   rcases vs with _ | ⟨v1,_ | ⟨v2,_ | ⟨v3,vs⟩⟩⟩
   ·cases obs<;>simp [EB] at hv
   ·rcases obs with _ | ⟨o1,_ | ⟨o2,obs⟩⟩<;>simp [EB] at hv
   ·exact ⟨v1,v2,rfl⟩
   ·rcases obs with _ | ⟨o1,_ | ⟨o2,_ | ⟨o3,obs⟩⟩⟩<;>simp [EB] at hv
  rcases obs with _ | ⟨o1,_ | ⟨o2,_ | ⟨o3,obs⟩⟩⟩
  ·simp [EB] at hv
  ·simp [EB] at hv
  ·obtain ⟨h1,h2,_⟩:=hv
   have e1:=Hq h1.2
   have e2:=X5 h2.2
   subst e1;subst e2;subst hvt
   exact ⟨rfl,hb⟩
  ·simp [EB] at hv
theorem dU {A B:Nat} {w w':World} (h:Below B w w') (hA:A <= B):Below A w w':=⟨h.os,h.tape,h.output,h.size,fun k hk=>h.block k (by omega)⟩
theorem V8 {T e:TypeId} {B b:Nat} {bs:List Value} {w w':World} (h:Lib.IsBuilder T e B b bs w) (hb:Below w.heap.size w w'):Lib.IsBuilder T e B b bs w':=by
 have go:∀ p,Lib.BuilderAt T e B b p bs w -> Lib.BuilderAt T e B b p bs w':=by
  rintro p ⟨hB,v,hk,hown,hne⟩
  have hlt:b < w.heap.size:=(Array.getElem?_eq_some_iff.1 hk).1
  refine ⟨hB,v,by rw [hb.block b hlt];exact hk,⟨hown.1,hown.2.imp id ?_⟩,hne⟩
  rintro ⟨g,cap,cur,e1,e2,e3,e4⟩
  exact ⟨g,cap,cur,e1,e2,by rw [hb.block g (Array.getElem?_eq_some_iff.1 e3).1];exact e3,e4⟩
 exact h.imp (go _) (go _)
theorem hidJ {p:Prop} (h:p):Hid p:=h
theorem en81:F8 Tryz.prog 81:=⟨_,Tryz.func81,rfl,rfl⟩
set_option maxHeartbeats 4000000 in
set_option maxRecDepth 100000 in
theorem iT (L:List Tx) (hF:xK L) (ao:Option Addr) (cap:Nat) (w:World) (hl:Laid w) (hc:∀ (i:Nat) (hi:i < L.length),∃ b o,ao=some ⟨b,o,none⟩ /\ b < w.heap.size /\ w.cell? ⟨b,o+i,none⟩=some (.string (bs L[i]))) :
  Calls Tryz.prog 81 #[.slice ao L.length cap] w fun e w'=>e=.returned (.string (bs (Co 0 L))) /\ Below w.heap.size w w':=by
 have mixed:Tryz.prog.follows .mixedOrders=true:=by kernel_rfl
 have e85:∀ args w,(callFunc 85 args).run Tryz.prog w=.ok (.enter 85 args) w:=enters_of Tryz.func85 (by kernel_rfl) rfl
 have e123:∀ args w,(callFunc 123 args).run Tryz.prog w=.ok (.enter 123 args) w:=enters_of Tryz.func123 (by kernel_rfl) rfl
 have e124:∀ args w,(callFunc 124 args).run Tryz.prog w=.ok (.enter 124 args) w:=enters_of Tryz.func124 (by kernel_rfl) rfl
 have t164:=Tryz.underlying164;have a164:=Tryz.isAgg164;have z164:=Tryz.sizeOf164;have v164:=Tryz.zeroValue164;have u164:=run_underlying Tryz.underlying164
 have t30:=Tryz.underlying30;have a30:=Tryz.isAgg30;have z30:=Tryz.sizeOf30;have v30:=Tryz.zeroValue30;have u30:=run_underlying Tryz.underlying30
 have t9:=Tryz.underlying9;have a9:=Tryz.isAgg9;have z9:=Tryz.sizeOf9;have v9:=Tryz.zeroValue9;have u9:=run_underlying Tryz.underlying9
 have t3:=Tryz.underlying3;have a3:=Tryz.isAgg3;have z3:=Tryz.sizeOf3;have v3:=Tryz.zeroValue3;have u3:=run_underlying Tryz.underlying3
 have t4:=Tryz.underlying4;have a4:=Tryz.isAgg4;have z4:=Tryz.sizeOf4;have v4:=Tryz.zeroValue4;have u4:=run_underlying Tryz.underlying4
 go_enter Tryz.func81,Tryz.ntmps81
 go_wp2_with fail
 go_loopw [4,11] (fun s i wr=>∃ k:Nat,k <= L.length /\ i=.int .i64 k /\ s=.int .i64 (IW 0 (L.take k):Nat) /\ Hid (Lib.IsBuilder 164 5 w.heap.size w.heap.size (Lib.byteCells (Co 0 (L.take k))) wr) /\ Hid (Below w.heap.size w wr)) (fun _ i _=>L.length - (intOf i).toNat)
 case atStart=>exact ⟨0,Nat.zero_le _,rfl,rfl,Lib.fresh_isBuilder 164 5 w,(Below.refl w.heap.size w).alloc (Nat.le_refl _) _⟩
 case round =>
  obtain ⟨k,hk',rfl,rfl,HB,HW⟩:=hrel
  by_cases hkr:k < L.length
  ·obtain ⟨b,o,hao,hbb,hcell⟩:=hc k hkr
   subst hao
   have hcy:wr.cell? ⟨b,o+k,none⟩=some (.string (bs L[k])):=by
    rw [HW.out.cell (p:=⟨b,o+k,none⟩) hbb];exact hcell
   have hT:=hF.2 k hkr
   have hL:=hF.1
   have hse:=Wp (s:=0) (by decide) (L.take k)
   have hs0:=KO hse
   have hbl:=U8 hF k (by omega)
   have hll:=TK (s:=IW 0 (L.take k)) (T:=L[k]) hse
   go_wp2_with fail
   refine (nS (IW 0 (L.take k):Nat) L[k] hT wr (bS hl HW.out)).mono ?_
   rintro e w2 ⟨rfl,hb2⟩
   rw [hs0]
   have hBw:w.heap.size <= wr.heap.size:=HW.out.size
   have HW2:=hidJ (HW.out.trans (dU hb2 hBw))
   have HB2:=hidJ (V8 HB.out hb2)
   clear hb2
   have hBw2:w.heap.size <= w2.heap.size:=HW2.out.size
   go_wp2_with fail
   refine (Tryz.Bwrite w.heap.size w.heap.size _ (bs (Fq (IW 0 (L.take k)) L[k])) w2 HB2.out (by rw [Lib.byteCells_length,G8];omega) hBw2).mono ?_
   rintro e w3 ⟨rfl,h3,hb3⟩
   have hnext:Lib.byteCells (Co 0 (L.take k)) ++ Lib.strCells (bs (Fq (IW 0 (L.take k)) L[k]))=Lib.byteCells (Co 0 (L.take (k+1))):=by
    rw [Lib.strCells_eq,<- Lib.byteCells_append,Nn hkr]
   rw [hnext] at h3
   have H3:=hidJ (Or.inr h3:Lib.IsBuilder 164 5 w.heap.size w.heap.size _ w3)
   have HW3:=hidJ (HW2.out.trans hb3)
   have hsn:=Vd (s:=0) hkr
   clear h3 hb3 hnext
   go_wp2
   exact ⟨⟨k+1,by omega,by go_num,by rw [hsn],H3,HW3⟩,by simp [intOf];omega⟩
  ·have hke:k=L.length:=by omega
   subst hke
   have hB':=HB.out
   rw [List.take_length] at hB'
   have hBw:w.heap.size <= wr.heap.size:=HW.out.size
   go_wp2_with fail
   refine (Tryz.Builder_String_any w.heap.size w.heap.size _ wr hB' hBw).mono ?_
   rintro e w5 ⟨rfl,hb5⟩
   have Hb5:=hidJ (HW.out.trans hb5)
   clear hb5 hB'
   go_wp2
   go_ret
   exact ⟨rfl,Hb5.out⟩
theorem f81 (L:List Tx) (hF:xK L):AR Tryz.prog 81 [Gi L] (.one (.dv (CY (Co 0 L)))):=by
 refine ⟨en81,fun w vs hl ha=>?_⟩
 have fin:∀ ao cap,(∀ (i:Nat) (hi:i < L.length),∃ b o,ao=some ⟨b,o,none⟩ /\ b < w.heap.size /\ w.cell? ⟨b,o+i,none⟩=some (.string (bs L[i]))) -> Calls Tryz.prog 81 #[.slice ao L.length cap] w fun e w'=>∃ v,e=.returned v /\ Below w.heap.size w w' /\ Kz w.heap.size w' (fun b=>b < w.heap.size) (.one (.dv (CY (Co 0 L)))) v:=fun ao cap hc =>
  (iT L hF ao cap w hl hc).mono fun e w' ⟨he,hb⟩=>⟨_,he,hb,NH (.str _)⟩
 obtain ⟨hs,hv⟩:=ha
 have h0:=hv 0 _ rfl
 obtain ⟨v,rfl⟩:∃ v,vs=#[v]:=by
  cases vs with
  | mk l =>
   simp at hs
   match l,hs with
   | [v],_=>exact ⟨v,rfl⟩
 simp only [Array.getD_eq_getD_getElem?] at h0
 have h0':CQ w (fun _=>False) (.list (L.map CY)) v:=h0
 clear h0
 generalize hL:(L.map CY)=D at h0'
 have hlen:D.length=L.length:=by rw [<- hL];simp
 cases h0' with
 | Dp a cap =>
  have:L=[]:=by
   cases L with
   | nil=>rfl
   | cons a l=>simp at hL
  subst this
  exact fin a cap fun i hi=>absurd hi (Nat.not_lt_zero i)
 | list _ b off cap CS u h1 h2 h3 h4 h5 h6 =>
  rw [hlen]
  refine fin _ cap fun i hi=>⟨b,off,rfl,h2,?_⟩
  have hf:flat D=D:=by rw [<- hL];exact II fun _=>rfl
  have hi2:(flat D)[i]?=some (CY L[i]):=by rw [hf,<- hL];simp [hi]
  rw [h5 i _ hi2]
  exact congrArg some (Hq (h6 i _ hi2))
end Go.Ab.Tryz
namespace Go.Ab.Tryz
open Go Go.Ab Go.Proofs Go.Ab.Ci Go.Ab.Gx
open Go.Ab.Heap (Az Ah BZ)
def TI (L:List Tx):Bool:=L.any (fun T=>decide (400 < T.length)) || decide (300 < L.length)
theorem tF {L:List Tx} {i:Nat} (hi:i < L.length) (h:400 < L[i].length):TI L=true:=by
 unfold TI
 rw [List.any_eq_true.2 ⟨_,List.getElem_mem hi,by simpa using h⟩];rfl
theorem tC {L:List Tx} (h:∀ i (hi:i < L.length),L[i].length <= 400):TI L=decide (300 < L.length):=by
 unfold TI
 have:L.any (fun T=>decide (400 < T.length))=false:=by
  rw [List.any_eq_false]
  intro T hT
  obtain ⟨i,hi,rfl⟩:=List.getElem_of_mem hT
  have:=h i hi
  simp;omega
 rw [this,Bool.false_or]
theorem E9 {L:List Tx} (h:TI L=false):xK L /\ L.length <= 300 /\ ∀ i (hi:i < L.length),L[i].length <= 400:=by
 unfold TI at h
 rw [Bool.or_eq_false_iff,List.any_eq_false,decide_eq_false_iff_not] at h
 have h1:∀ i (hi:i < L.length),L[i].length <= 400:=fun i hi=>by have:=h.1 _ (List.getElem_mem hi);simp at this;omega
 exact ⟨⟨by omega,fun i hi=>by have:=h1 i hi;omega⟩,by omega,h1⟩
theorem f41 (L:List Tx) (hF:xK L):AR Tryz.prog 41 [Gi L] (.many [.dv (CY (wrT L)),.dv (i64 (qm L))]):=by
 have hL:=hF.1
 refine Bu Tryz.func41 rfl rfl (by rw [Tryz.ntmps41];simp) fun cx hP hn hg=>?_
 rw [Tryz.ntmps41] at hn
 rw [Bq,Bp]
 simp only [List.nil_append,List.append_nil,List.cons_append,BF,Nat.reduceAdd]
 refine sg ?_
 iterate 2 refine qv A9 ?_
 refine AJ ?_
 refine sg ?_
 refine qv A8 ?_
 refine qv (BH Dg) ?_
 refine qv Dj ?_
 refine cd (fun hc0=>?_) (fun hc0=>?_)
 ·try simp at hc0
  have hbg:100 < L.length:=by omega
  have hw:=rF hbg
  refine sg ?_
  iterate 2 refine qv A9 ?_
  refine AP ?_
  exact x2 (hr:=(Nw (by rw [kW (by rw [hw];decide)]))) (hr':=(CW (by rw [hw])))
 ·try simp at hc0
  have hbg:¬ 100 < L.length:=by omega
  refine AY ?_
  refine AJ ?_
  refine sg ?_
  refine qv A8 ?_
  refine qv (BH Dg) ?_
  refine qv A8 ?_
  refine BD ?_
  refine Ag (ι:=Nat) (fun i=>⟨lk [(0,.dv (.list ((L).map CY))),(9,.dv (.list ((L).map CY))),(10,.dv (i64 ((L.length:Int)))),(11,.dv (i64 (i:Nat)))],AA []⟩) (fun i=>i <= L.length /\ ∀ j (hj:j < L.length),j < i -> FH L[j]=true) (fun i=>L.length - i) 0 (by simp) (tl []) ?_
  intro i Aj
  refine sg ?_
  refine qv BQ ?_
  refine AJ ?_
  refine cd (fun hc1=>?_) (fun hc1=>?_)
  ·try simp at hc1
   refine AY ?_
   refine AJ ?_
   refine BD ?_
   refine sg ?_
   have hi:i < L.length:=by omega
   have hx:L[i]?=some L[i]:=List.getElem?_eq_getElem hi
   have hfi:=hF.2 i hi
   first | refine qv (BA CF DZ) ?_ | refine qv (Bd CF DZ) ?_
   refine qv (Bb DZ Mk) ?_
   refine qv A9 ?_
   refine sg ?_
   refine qv A8 ?_
   refine Bo (f84 L[i] hfi) ?_
   refine qv Bn ?_
   refine cd (fun hc2=>?_) (fun hc2=>?_)
   ·try simp at hc2
    have hw:=rG hbg hi (by simpa using hc2)
    refine sg ?_
    iterate 2 refine qv A9 ?_
    refine AP ?_
    exact x2 (hr:=(Nw (by rw [kW (by rw [hw];decide)]))) (hr':=(CW (by rw [hw])))
   ·try simp at hc2
    refine AY ?_
    refine rg ?_
    refine qv Am ?_
    refine qv A8 ?_
    exact ⟨i+1,⟨hi,fun j hj h=>by
     rcases Nat.lt_or_ge j i with h1 | h1
     ·exact Aj.2 j hj h1
     ·obtain rfl:j=i:=by omega
      simpa using hc2⟩,(by simp only;omega),(tl [])⟩
  ·try simp at hc1
   have hw:=xS hbg fun j hj=>Aj.2 j hj (by omega)
   refine Ad ?_
   refine sg ?_
   refine qv A8 ?_
   refine Bo (f81 L hF) ?_
   iterate 2 refine qv A9 ?_
   refine AP ?_
   exact x2 (hr:=(Nw (by rw [rE hw]))) (hr':=(CW (by rw [hw])))
theorem f19 (L:List Tx) (hl:L.length <= 9223372036854775807):AR Tryz.prog 19 [Gi L] (.one (.dv (.bool (TI L)))):=by
 refine Bu Tryz.func19 rfl rfl (by rw [Tryz.ntmps19];simp) fun cx hP hn hg=>?_
 rw [Tryz.ntmps19] at hn
 rw [Bq,Bp]
 simp only [List.nil_append,List.append_nil,List.cons_append,BF,Nat.reduceAdd]
 refine sg ?_
 refine qv A9 ?_
 refine AJ ?_
 refine sg ?_
 refine qv A9 ?_
 refine BD ?_
 refine Ag (ι:=Nat) (fun i=>⟨lk [(0,.dv (.list ((L).map CY))),(3,.dv (i64 (i:Nat)))],AA []⟩) (fun i=>i <= L.length /\ ∀ j (hj:j < L.length),j < i -> L[j].length <= 400) (fun i=>L.length - i) 0 (by simp) (tl []) ?_
 intro i Aj
 refine AJ ?_
 refine sg ?_
 iterate 2 refine qv A8 ?_
 refine qv (BH Dg) ?_
 refine qv BQ ?_
 refine cd (fun hc0=>?_) (fun hc0=>?_)
 ·try simp at hc0
  refine AY ?_
  refine AJ ?_
  refine BD ?_
  refine sg ?_
  have hi:i < L.length:=by omega
  have hx:L[i]?=some L[i]:=List.getElem?_eq_getElem hi
  iterate 2 refine qv A8 ?_
  first | refine qv (BA CF DZ) ?_ | refine qv (Bd CF DZ) ?_
  refine qv (Bb DZ Mk) ?_
  refine qv (Dr IC) ?_
  refine qv Dj ?_
  refine cd (fun hc1=>?_) (fun hc1=>?_)
  ·try simp at hc1
   refine sg ?_
   refine qv A9 ?_
   refine AP ?_
   exact x1 (hr:=(DX (by rw [tF hi (by omega)])))
  ·try simp at hc1
   refine AY ?_
   refine rg ?_
   refine qv A8 ?_
   refine qv Am ?_
   refine qv A9 ?_
   exact ⟨i+1,⟨hi,fun j hj h=>by
    rcases Nat.lt_or_ge j i with h1 | h1
    ·exact Aj.2 j hj h1
    ·obtain rfl:j=i:=by omega
     omega⟩,(by simp only;omega),(tl [])⟩
 ·try simp at hc0
  refine Ad ?_
  refine sg ?_
  refine qv A8 ?_
  refine qv (BH Dg) ?_
  refine qv Dj ?_
  refine qv A9 ?_
  refine AP ?_
  exact x1 (hr:=(DX (by rw [tC fun j hj=>Aj.2 j hj (by omega)];first | rfl | (rw [Bool.eq_iff_iff];simp<;>omega))))
end Go.Ab.Tryz
namespace Go.Ab
open Go.RowKit
section
variable {cx:Cx} {S:St} {ops:Array Oper} {o:Oper} {rest:List Oper} {K:St -> Prop} {l:List (Nat × SV)} {m:List (Nat × Nat × Option BG)}
theorem l9 {a:Act} {w:World} (hg:cx.Good) (h:KH cx S a w) {d:Nat} {x:DV} (hD:EC S.M (S.F d) x):KH cx ⟨fun i=>if i=d then .dv x else S.F i,S.M⟩ a w:=by
 obtain ⟨μ,h⟩:=h
 refine ⟨μ,h.blk,fun i=>?_,h.place,h.uniq,h.FQ,h.below,h.size,h.defers⟩
 by_cases hi:i=d
 ·subst hi
  simp only [if_true]
  have:=ZN hg h hD _ (h.slot i)
  simpa only [AO] using this
 ·simp only [if_neg hi]
  exact h.slot i
theorem Gv (t d:Nat) {g:Nat} {b:BG} {x:DV} (k:Chain cx ops (o :: rest) ⟨lk ((d,.dv x) :: l),AA ((t,g,some { b with st:=1 }) :: m)⟩ K) (h0:AA m t=(g,some b):=by (simp only [AA,reduceIte,Nat.reduceEqDiff]<;>rfl)) (h1:Dv b.st \/ b.st=1:=by (first | exact .inl (.inl rfl) | exact .inr rfl | exact .inl (.inr (Nat.le_of_ble_eq_true rfl))))
  (hD:EC (AA ((t,g,some { b with st:=1 }) :: m)) (lk l d) x) (hgd:o.guard=none:=by rfl):Chain cx ops (o :: rest) ⟨lk l,AA m⟩ K:=by
 obtain ⟨S',hs,hk⟩:=k
 refine ⟨S',?_,hk⟩
 unfold GStep at hs ⊢
 rw [hgd] at hs ⊢
 simp only at hs ⊢
 have hl:=Le.freeze (cx:=cx) (S:=⟨lk l,AA m⟩) h0 h1
 rw [Ej] at hl
 exact .sem fun hg a w h=>Step.does hg (l9 hg (hl a w h) (d:=d) (x:=x) hD) hs
end
end Go.Ab
namespace Go.Ab.Tryz
open Go Go.Ab Go.Proofs Go.Ab.Ci Go.Ab.Gx
open Go.Ab.Heap (Az Ah BZ)
open H (Uu Ed)
theorem W9:∀ {a b:List Int},a.map (DV.int .i64)=b.map (DV.int .i64) -> a=b
 | [],[],_=>rfl
 | [],_ :: _,h=>by simp at h
 | _ :: _,[],h=>by simp at h
 | x :: a,y :: b,h=>by
  simp only [List.map_cons,List.cons.injEq,DV.int.injEq,true_and] at h
  rw [h.1,W9 h.2]
theorem XH {τ:Nat -> Option Nat} {M M':Nat -> Nat × Option BG}:∀ {L L':List (List Int)},Ae τ M M' (L.map fun r=>.dv (ints r)) (L'.map fun r=>.dv (ints r)) ↔ L=L'
 | [],[]=>by simp [Ae]
 | [],_ :: _=>by simp [Ae]
 | _ :: _,[]=>by simp [Ae]
 | a :: L,b :: L'=>by
  simp only [List.map_cons,Ae,Aa,List.cons.injEq]
  rw [XH (L:=L) (L':=L')]
  refine and_congr_left fun _=>⟨fun h=>?_,fun h=>by rw [h]⟩
  have h2:a.map (DV.int .i64)=b.map (DV.int .i64):=by simpa [ints] using h
  exact W9 h2
theorem j5 {L:List (List Int)} {v:List Int}:(L.map fun r=>SV.dv (ints r)) ++ [SV.dv (ints v)]=(L ++ [v]).map fun r=>.dv (ints r):=by simp
theorem f96 (b:List (List Int)) (hb:b.length < 1000) (hr:∀ i (hi:i < b.length),b[i].length < 2000000):GR Tryz.prog 96 [.list (b.map ints)] (.one (.dv (.list (b.map ints)))):=by
 refine KE Tryz.func96 rfl rfl (by rw [Tryz.ntmps96];simp) fun cx hP hn hg=>?_
 rw [Tryz.ntmps96] at hn
 rw [Bq,Bp]
 simp only [List.nil_append,List.append_nil,List.cons_append,BF,Nat.reduceAdd]
 refine sg ?_
 refine qv A9 ?_
 refine sg ?_
 refine qv A9 ?_
 refine AJ ?_
 refine sg ?_
 refine qv A8 ?_
 refine qv (BH Ka) ?_
 refine qv A8 ?_
 refine BD ?_
 refine Ag (ι:=Nat) (fun i=>⟨lk [(3,.sl 3 0 0 i),(6,.dv (.list ((b).map ints))),(7,.dv (i64 ((b.length:Int)))),(8,.dv (i64 (i:Nat)))],AA [(3,0,some (Uu (b.take i)))]⟩) (fun i=>i <= b.length) (fun i=>b.length - i) 0 (by simp) (tl [] (hF:=by simp [Ck,Aa,lk,AA,isLive,Ac,XH]) (hM:=by simp [CV,Al,Aa,Ae,lk,AA,isLive,Ac,BK,BJ,Af,BI,BL,BO,BM,BN,XH])) ?_
 intro i Aj
 refine sg ?_
 refine qv BQ ?_
 refine AJ ?_
 refine cd (fun hc0=>?_) (fun hc0=>?_)
 ·try simp at hc0
  refine AY ?_
  refine AJ ?_
  refine BD ?_
  refine sg ?_
  have hi:i < b.length:=by omega
  have hx:b[i]?=some b[i]:=List.getElem?_eq_getElem hi
  have hri:=hr i hi
  have hts:b.take (i+1)=b.take i ++ [b[i]]:=by rw [List.take_succ,hx];rfl
  have htl:(b.take i).length=i:=by simp;omega
  first | refine qv (BA CO Av) ?_ | refine qv (Bd CO Av) ?_
  refine qv (Bb Av Bl) ?_
  refine qv A9 ?_
  refine rg ?_
  iterate 2 refine qv A8 ?_
  refine Bo (f97 b[i] hri) ?_
  refine Gv 14 14 (x:=ints b[i]) ?_ (hD:=(BS (L:=b[i]) (by simp only [AA,reduceIte,Nat.reduceEqDiff]<;>rfl) rfl (by first | rfl | omega) rfl rfl (fun _=>trivial)))
  refine qr (D7 CO Ry Av) ?_
  refine Qg (DK CO CO Ry Av A0I (hc:=j5)) ?_
  refine qv A9 ?_
  refine rg ?_
  refine qv Am ?_
  refine qv A8 ?_
  exact ⟨i+1,hi,(by simp only;omega),(tl [(3,16)] (hF:=by simp [Ck,Aa,lk,AA,isLive,Ac,XH]) (hM:=by simp [CV,Al,Aa,Ae,lk,AA,isLive,Ac,BK,BJ,Af,BI,BL,BO,BM,BN,XH]))⟩
 ·try simp at hc0
  refine Ad ?_
  refine sg ?_
  refine qv A8 ?_
  refine qv A9 ?_
  refine AP ?_
  obtain rfl:i=b.length:=by omega
  exact x1 (hr:=A22 (Ed (L:=b) (by simp only [AA,reduceIte,Nat.reduceEqDiff,List.take_length]<;>rfl) trivial rfl (fun _=>trivial)))
end Go.Ab.Tryz
namespace Go.Ab.Tryz
open Go Go.Ab Go.Proofs Go.Ab.Ci Go.Ab.Gx
theorem Tk {P:Program} {Db:DV -> Prop} {S:St} {x:Exit} {t:Nat} {s1:SV} {L:List Tx} (he:x=.normal \/ x=.ret) (hs:S.F t=s1) (h1:Eb Db S.M s1 (rX L)):RO P Db [.tmp t] (.one (rX L)) x S :=
 gX he hs h1 (.inr fun d hd=>by cases hd)
theorem A3M (l:List Tx) (h:l.length < 2000000) (hl:l ≠ []):AR Tryz.prog 105 [Gi l] (.one (rX l)):=by
 refine Bu Tryz.func105 rfl rfl (by rw [Tryz.ntmps105];simp) fun cx hP hn hg=>?_
 rw [Tryz.ntmps105] at hn
 rw [Bq,Bp]
 simp only [BF,Nat.reduceAdd]
 refine AJ ?_
 refine EA hg ?_
 refine EL hP hn (by decide) trivial (Ep (by simp only [St.look,St.ev,lk,AA,AV,Au,Ar,reduceIte,Nat.reduceAdd,Nat.reduceEqDiff,Nat.reduceMul];rfl)) ?_
 refine AJ ?_
 refine AJ ?_
 refine EA hg ?_
 refine EL hP hn (by decide) trivial (JC (by simp only [St.look,St.ev,lk,AA,AV,Au,Ar,reduceIte,Nat.reduceAdd,Nat.reduceEqDiff,Nat.reduceMul];rfl)) ?_
 refine EL hP hn (by decide) trivial (by simp only [AZ,EM,Qk,Jj,Dg,if_true,Option.map_some,St.look,St.ev,lk,AA,AV,Au,Ar,reduceIte,Nat.reduceAdd,Nat.reduceEqDiff,Nat.reduceMul];rw [if_neg (by simpa using hl)];rfl) ?_
 refine Gw (by simp only [St.look,St.ev,lk,AA,AV,Au,Ar,reduceIte,Nat.reduceAdd,Nat.reduceEqDiff,Nat.reduceMul];rfl) (fun hc0=>?_) (fun hc0=>?_)
 ·exact absurd hc0 (by simp)
 refine AY ?_
 refine AJ ?_
 refine EA hg ?_
 refine Zf hP hn (by decide) trivial (Gt (by simp only [List.map,St.look,St.ev,lk,AA,AV,Au,Ar,reduceIte,Nat.reduceAdd,Nat.reduceEqDiff,Nat.reduceMul];rfl) CF KL DZ rfl (by decide) (by decide) (by simp [F5,putCells,Cn,List.replicate];rfl)) rfl (by simp only [AA,reduceIte,Nat.reduceEqDiff];rfl) ?_
 refine EL hP hn (by decide) trivial (JC (by simp only [St.look,St.ev,lk,AA,AV,Au,Ar,reduceIte,Nat.reduceAdd,Nat.reduceEqDiff,Nat.reduceMul];rfl)) ?_
 first
 | refine U5 hP hn (by decide) trivial (Tp (by simp only [St.look,St.ev,lk,AA,AV,Au,Ar,reduceIte,Nat.reduceAdd,Nat.reduceEqDiff,Nat.reduceMul];rfl) (by simp only [St.look,St.ev,lk,AA,AV,Au,Ar,reduceIte,Nat.reduceAdd,Nat.reduceEqDiff,Nat.reduceMul];first | exact OA | rfl | (simp [Ev,Du];rfl)) CF CF KL DZ WQ (by first | omega | (simp;try omega)) (by first | omega | (simp;try omega)) rfl) (by simp only [AA,reduceIte,Nat.reduceEqDiff];rfl) ?_
 | refine Xp hP hn (by decide) trivial (Tn (by simp only [St.look,St.ev,lk,AA,AV,Au,Ar,reduceIte,Nat.reduceAdd,Nat.reduceEqDiff,Nat.reduceMul];rfl) (by simp only [St.look,St.ev,lk,AA,AV,Au,Ar,reduceIte,Nat.reduceAdd,Nat.reduceEqDiff,Nat.reduceMul];first | exact OA | rfl | (simp [Ev,Du];rfl)) CF CF KL DZ WQ (by rfl) (by rfl) (by rfl) (by first | omega | (simp;try omega)) (by first | omega | (simp;try omega)) (by first | omega | (simp;try omega)) rfl (by first | exact El | exact kY | rfl)) (by simp only [AA,reduceIte,Nat.reduceEqDiff];rfl) (by simp only [AA,reduceIte,Nat.reduceEqDiff];rfl) rfl ?_
 refine EL hP hn (by decide) trivial (Ep (by simp only [St.look,St.ev,lk,AA,AV,Au,Ar,reduceIte,Nat.reduceAdd,Nat.reduceEqDiff,Nat.reduceMul];rfl)) ?_
 refine AP ?_
 exact Tk (.inr rfl) (by first | (simp only [lk,reduceIte,Nat.reduceEqDiff];done) | (simp only [lk,reduceIte,Nat.reduceEqDiff];rfl)) (Sb (by simp only [AA,reduceIte,Nat.reduceEqDiff];rfl) (by simp))
theorem A3N:AR Tryz.prog 105 [Gi []] (.one (rX [])):=by
 refine Bu Tryz.func105 rfl rfl (by rw [Tryz.ntmps105];simp) fun cx hP hn hg=>?_
 rw [Tryz.ntmps105] at hn
 rw [Bq,Bp]
 simp only [BF,Nat.reduceAdd]
 refine Eu.split (t:=0) (by simp [lk]) fun b=>?_
 cases b
 ·skip
  refine AJ ?_
  refine EA hg ?_
  refine EL hP hn (by decide) trivial (Ep (by simp only [St.look,St.ev,lk,AA,AV,Au,Ar,reduceIte,Nat.reduceAdd,Nat.reduceEqDiff,Nat.reduceMul];rfl)) ?_
  refine AJ ?_
  refine AJ ?_
  refine EA hg ?_
  refine EL hP hn (by decide) trivial (JC (by simp only [St.look,St.ev,lk,AA,AV,Au,Ar,reduceIte,Nat.reduceAdd,Nat.reduceEqDiff,Nat.reduceMul];rfl)) ?_
  refine EL hP hn (by decide) trivial (by simp only [AZ,EM,Qk,Jj,Dg,if_true,Option.map_some,St.look,St.ev,lk,AA,AV,Au,Ar,reduceIte,Nat.reduceAdd,Nat.reduceEqDiff,Nat.reduceMul];rfl) ?_
  refine Gw (by simp only [St.look,St.ev,lk,AA,AV,Au,Ar,reduceIte,Nat.reduceAdd,Nat.reduceEqDiff,Nat.reduceMul];rfl) (fun hc0=>?_) (fun hc0=>?_)
  ·exact absurd hc0 (by simp)
  refine AY ?_
  refine AJ ?_
  refine EA hg ?_
  refine Zf hP hn (by decide) trivial (Gt (by simp only [List.map,St.look,St.ev,lk,AA,AV,Au,Ar,reduceIte,Nat.reduceAdd,Nat.reduceEqDiff,Nat.reduceMul];rfl) CF KL DZ rfl (by decide) (by decide) (by simp [F5,putCells,Cn,List.replicate];rfl)) rfl (by simp only [AA,reduceIte,Nat.reduceEqDiff];rfl) ?_
  refine EL hP hn (by decide) trivial (JC (by simp only [St.look,St.ev,lk,AA,AV,Au,Ar,reduceIte,Nat.reduceAdd,Nat.reduceEqDiff,Nat.reduceMul];rfl)) ?_
  first
  | refine U5 hP hn (by decide) trivial (Tp (by simp only [St.look,St.ev,lk,AA,AV,Au,Ar,reduceIte,Nat.reduceAdd,Nat.reduceEqDiff,Nat.reduceMul];rfl) (by simp only [St.look,St.ev,lk,AA,AV,Au,Ar,reduceIte,Nat.reduceAdd,Nat.reduceEqDiff,Nat.reduceMul];first | exact OA | rfl | (simp [Ev,Du];rfl)) CF CF KL DZ WQ (by first | omega | (simp;try omega)) (by first | omega | (simp;try omega)) rfl) (by simp only [AA,reduceIte,Nat.reduceEqDiff];rfl) ?_
  | refine Xp hP hn (by decide) trivial (Tn (by simp only [St.look,St.ev,lk,AA,AV,Au,Ar,reduceIte,Nat.reduceAdd,Nat.reduceEqDiff,Nat.reduceMul];rfl) (by simp only [St.look,St.ev,lk,AA,AV,Au,Ar,reduceIte,Nat.reduceAdd,Nat.reduceEqDiff,Nat.reduceMul];first | exact OA | rfl | (simp [Ev,Du];rfl)) CF CF KL DZ WQ (by rfl) (by rfl) (by rfl) (by first | omega | (simp;try omega)) (by first | omega | (simp;try omega)) (by first | omega | (simp;try omega)) rfl (by first | exact El | exact kY | rfl)) (by simp only [AA,reduceIte,Nat.reduceEqDiff];rfl) (by simp only [AA,reduceIte,Nat.reduceEqDiff];rfl) rfl ?_
  refine EL hP hn (by decide) trivial (Ep (by simp only [St.look,St.ev,lk,AA,AV,Au,Ar,reduceIte,Nat.reduceAdd,Nat.reduceEqDiff,Nat.reduceMul];rfl)) ?_
  refine AP ?_
  exact Tk (.inr rfl) (by first | (simp only [lk,reduceIte,Nat.reduceEqDiff];done) | (simp only [lk,reduceIte,Nat.reduceEqDiff];rfl)) (Sb (by simp only [AA,reduceIte,Nat.reduceEqDiff];rfl) (by simp))
 ·skip
  refine AJ ?_
  refine EA hg ?_
  refine EL hP hn (by decide) trivial (Ep (by simp only [St.look,St.ev,lk,AA,AV,Au,Ar,reduceIte,Nat.reduceAdd,Nat.reduceEqDiff,Nat.reduceMul];rfl)) ?_
  refine AJ ?_
  refine AJ ?_
  refine EA hg ?_
  refine EL hP hn (by decide) trivial (JC (by simp only [St.look,St.ev,lk,AA,AV,Au,Ar,reduceIte,Nat.reduceAdd,Nat.reduceEqDiff,Nat.reduceMul];rfl)) ?_
  refine EL hP hn (by decide) trivial (by simp only [AZ,EM,Qk,Jj,Dg,if_true,Option.map_some,St.look,St.ev,lk,AA,AV,Au,Ar,reduceIte,Nat.reduceAdd,Nat.reduceEqDiff,Nat.reduceMul];rfl) ?_
  refine Gw (by simp only [St.look,St.ev,lk,AA,AV,Au,Ar,reduceIte,Nat.reduceAdd,Nat.reduceEqDiff,Nat.reduceMul];rfl) (fun hc0=>?_) (fun hc0=>?_)
  rotate_left
  ·exact absurd hc0 (by simp)
  refine AJ ?_
  refine EA hg ?_
  refine EL hP hn (by decide) trivial (Ep (by simp only [St.look,St.ev,lk,AA,AV,Au,Ar,reduceIte,Nat.reduceAdd,Nat.reduceEqDiff,Nat.reduceMul];rfl)) ?_
  refine AP ?_
  exact Tk (.inr rfl) (by first | (simp only [lk,reduceIte,Nat.reduceEqDiff];done) | (simp only [lk,reduceIte,Nat.reduceEqDiff];rfl)) Vm
theorem f105 (l:List Tx) (h:l.length < 2000000):AR Tryz.prog 105 [Gi l] (.one (rX l)):=by
 by_cases hl:l=[]
 ·subst hl;exact A3N
 ·exact A3M l h hl
end Go.Ab.Tryz
namespace Go.Ab.Tryz
open Go Go.Ab Go.Proofs Go.Ab.Ci Go.Ab.Gx
open Go.Ab.Heap (Az Ah BZ)
open Go.Ab.Heap (Hp)
structure Fm where
 bog:Bg
 heaps:Hp
 need:Int
abbrev LK (f:Fm):DV:=.agg [.list (f.bog.worth.map ints),.list (f.heaps.links.map ints),ints f.heaps.ground,i64 f.need]
def PU (l:List (List Int)):Bool:=l.any fun r=>decide (50 < r.length)
def Q7 (f:Fm):Bool:=PU f.bog.worth || PU f.heaps.links || decide (50 < f.bog.worth.length) || decide (50 < f.heaps.links.length) || decide (50 < f.heaps.ground.length)
theorem iL {l:List (List Int)} {i:Nat} (hi:i < l.length) (h:50 < l[i].length):PU l=true:=List.any_eq_true.2 ⟨_,List.getElem_mem hi,by simpa using h⟩
theorem iK {l:List (List Int)} (h:∀ i (hi:i < l.length),l[i].length <= 50):PU l=false:=by
 unfold PU
 rw [List.any_eq_false]
 intro r hr
 obtain ⟨i,hi,rfl⟩:=List.getElem_of_mem hr
 have:=h i hi
 simp;omega
def Ku (w:Tx):Int:=match Cc w with
 | some x=>x.2
 | none=>-1
theorem Yw {w:Tx} {n:Nat} (hn:n < 1000) (h:dd n=w):Fh w=some n:=by rw [<- h];exact fE hn
theorem MP {w:Tx} {n:Nat} (hd:1000 <= n \/ 3 < w.length) (h:∀ j,j < n -> dd j ≠ w):Fh w=none:=by
 cases e:Fh w with
 | none=>rfl
 | some k =>
  obtain ⟨h1,h2⟩:=Ik e
  rcases hd with h3 | h3
  ·exact absurd h2 (h k (by omega))
  ·have:=(M6 k h1).2
   rw [h2] at this
   omega
theorem f18 (f:Fm) (h1:f.bog.worth.length <= 9223372036854775807) (h2:f.heaps.links.length <= 9223372036854775807):AR Tryz.prog 18 [LK f] (.one (.dv (.bool (Q7 f)))):=by
 refine Bu Tryz.func18 rfl rfl (by rw [Tryz.ntmps18];simp) fun cx hP hn hg=>?_
 rw [Tryz.ntmps18] at hn
 rw [Bq,Bp]
 simp only [List.nil_append,List.append_nil,List.cons_append,BF,Nat.reduceAdd]
 refine sg ?_
 refine qp BX ?_
 refine qv A9 ?_
 refine AJ ?_
 refine sg ?_
 refine qv A9 ?_
 refine BD ?_
 refine Ag (ι:=Nat) (fun i=>⟨lk [(1,.pt 1 0 0),(3,.dv (i64 (i:Nat)))],AA [(1,0,some ⟨[.dv (.list ((f.bog.worth).map ints)),.dv (.list ((f.heaps.links).map ints)),.dv (ints (f.heaps.ground)),.dv (i64 (f.need))],0,29,0,false⟩)]⟩) (fun i=>i <= f.bog.worth.length /\ ∀ j (hj:j < f.bog.worth.length),j < i -> f.bog.worth[j].length <= 50) (fun i=>f.bog.worth.length - i) 0 (by simp) (tl [(1,1)]) ?_
 intro i Aj
 refine AJ ?_
 refine sg ?_
 refine qv A8 ?_
 refine qv (AB E5) ?_
 refine qv (AB Cb) ?_
 refine qv (AL DF Da) ?_
 refine qv (BH Ka) ?_
 refine qv BQ ?_
 refine cd (fun hc0=>?_) (fun hc0=>?_)
 ·try simp at hc0
  refine AY ?_
  refine AJ ?_
  refine BD ?_
  refine sg ?_
  have hi:i < f.bog.worth.length:=by omega
  have hx:f.bog.worth[i]?=some f.bog.worth[i]:=List.getElem?_eq_getElem hi
  refine qv (AB E5) ?_
  refine qv (AB Cb) ?_
  refine qv (AL DF Da) ?_
  refine qv A8 ?_
  first | refine qv (BA CO Av) ?_ | refine qv (Bd CO Av) ?_
  refine qv (Bb Av Bl) ?_
  refine qv (BH CZ) ?_
  refine qv Dj ?_
  refine cd (fun hc1=>?_) (fun hc1=>?_)
  ·try simp at hc1
   refine sg ?_
   refine qv A9 ?_
   refine AP ?_
   exact x1 (hr:=(DX (by unfold Q7;rw [iL hi (by omega)];rfl)))
  ·try simp at hc1
   refine AY ?_
   refine rg ?_
   refine qv A8 ?_
   refine qv Am ?_
   refine qv A9 ?_
   exact ⟨i+1,⟨by omega,fun j hj h=>by
    rcases Nat.lt_or_ge j i with h1 | h1
    ·exact Aj.2 j hj h1
    ·obtain rfl:j=i:=by omega
     omega⟩,(by simp only;omega),(tl [(1,1)])⟩
 ·try simp at hc0
  have hn1:=iK fun j hj=>Aj.2 j hj (by omega)
  refine Ad ?_
  refine AJ ?_
  refine sg ?_
  refine qv A9 ?_
  refine BD ?_
  refine Ag (ι:=Nat) (fun i=>⟨lk [(1,.pt 1 0 0),(4,.dv (i64 (i:Nat)))],AA [(1,0,some ⟨[.dv (.list ((f.bog.worth).map ints)),.dv (.list ((f.heaps.links).map ints)),.dv (ints (f.heaps.ground)),.dv (i64 (f.need))],0,29,0,false⟩)]⟩) (fun i=>i <= f.heaps.links.length /\ ∀ j (hj:j < f.heaps.links.length),j < i -> f.heaps.links[j].length <= 50) (fun i=>f.heaps.links.length - i) 0 (by simp) (tl [(1,1)]) ?_
  intro i Es
  refine AJ ?_
  refine sg ?_
  refine qv A8 ?_
  refine qv (AB EJ) ?_
  refine qv (AB EK) ?_
  refine qv (AL DF Da) ?_
  refine qv (BH Ka) ?_
  refine qv BQ ?_
  refine cd (fun hc2=>?_) (fun hc2=>?_)
  ·try simp at hc2
   refine AY ?_
   refine AJ ?_
   refine BD ?_
   refine sg ?_
   have hi:i < f.heaps.links.length:=by omega
   have hx:f.heaps.links[i]?=some f.heaps.links[i]:=List.getElem?_eq_getElem hi
   refine qv (AB EJ) ?_
   refine qv (AB EK) ?_
   refine qv (AL DF Da) ?_
   refine qv A8 ?_
   first | refine qv (BA CO Av) ?_ | refine qv (Bd CO Av) ?_
   refine qv (Bb Av Bl) ?_
   refine qv (BH CZ) ?_
   refine qv Dj ?_
   refine cd (fun hc3=>?_) (fun hc3=>?_)
   ·try simp at hc3
    refine sg ?_
    refine qv A9 ?_
    refine AP ?_
    exact x1 (hr:=(DX (by unfold Q7;rw [iL (l:=f.heaps.links) hi (by omega),Bool.or_true];rfl)))
   ·try simp at hc3
    refine AY ?_
    refine rg ?_
    refine qv A8 ?_
    refine qv Am ?_
    refine qv A9 ?_
    exact ⟨i+1,⟨by omega,fun j hj h=>by
     rcases Nat.lt_or_ge j i with h1 | h1
     ·exact Es.2 j hj h1
     ·obtain rfl:j=i:=by omega
      omega⟩,(by simp only;omega),(tl [(1,1)])⟩
  ·try simp at hc2
   have hn2:=iK fun j hj=>Es.2 j hj (by omega)
   refine Ad ?_
   refine sg ?_
   refine qv (AB E5) ?_
   refine qv (AB Cb) ?_
   refine qv (AL DF Da) ?_
   refine qv (BH Ka) ?_
   refine qv Dj ?_
   refine qx A8 (fun zJ=>?_) (fun zJ=>?_)
   ·try simp at zJ
    iterate 5 refine qk ?_
    refine qv Ai ?_
    refine qv A8 ?_
    iterate 5 refine qk ?_
    refine qv Ai ?_
    refine qv A9 ?_
    refine AP ?_
    exact x1 (hr:=(DX (by unfold Q7;rw [hn1,hn2,Bool.eq_iff_iff];simp<;>omega)))
   ·try simp at zJ
    refine qv (AB EJ) ?_
    refine qv (AB EK) ?_
    refine qv (AL DF Da) ?_
    refine qv (BH Ka) ?_
    refine qv Dj ?_
    refine qv Ai ?_
    refine qx A8 (fun V3=>?_) (fun V3=>?_)
    ·try simp at V3
     iterate 5 refine qk ?_
     refine qv Ai ?_
     refine qv A9 ?_
     refine AP ?_
     exact x1 (hr:=(DX (by unfold Q7;rw [hn1,hn2,Bool.eq_iff_iff];simp<;>omega)))
    ·try simp at V3
     refine qv (AB EJ) ?_
     refine qv (AB F6) ?_
     refine qv (AL Av Bl) ?_
     refine qv (BH CZ) ?_
     refine qv Dj ?_
     refine qv Ai ?_
     refine qv A9 ?_
     refine AP ?_
     exact x1 (hr:=(DX (by unfold Q7;rw [hn1,hn2,Bool.eq_iff_iff];simp<;>omega)))
theorem f113 (w:Tx) (hw:w.length < 2000000):AR Tryz.prog 113 [CY w] (.many [.dv (i64 ((Fh w).getD 0:Nat)),.dv (.bool (Fh w).isSome)]):=by
 refine Bu Tryz.func113 rfl rfl (by rw [Tryz.ntmps113];simp) fun cx hP hn hg=>?_
 rw [Tryz.ntmps113] at hn
 rw [Bq,Bp]
 simp only [List.nil_append,List.append_nil,List.cons_append,BF,Nat.reduceAdd]
 refine sg ?_
 iterate 2 refine qv A9 ?_
 refine AJ ?_
 refine sg ?_
 refine qv A9 ?_
 refine BD ?_
 refine Ag (ι:=Nat) (fun n=>⟨lk [(0,.dv (CY (w))),(4,.dv (i64 (n:Nat)))],AA []⟩) (fun n=>n <= 1000 /\ ∀ j,j < n -> dd j ≠ w) (fun n=>1000 - n) 0 (by simp) (tl []) ?_
 intro n Aj
 refine AJ ?_
 refine sg ?_
 refine qv A8 ?_
 refine qv IU ?_
 refine qx A8 (fun oC=>?_) (fun oC=>?_)
 ·try simp at oC
  refine qv A8 ?_
  refine qv (Dr IC) ?_
  refine qv IU ?_
  refine qv Ai ?_
  refine cd (fun hc0=>?_) (fun hc0=>?_)
  ·try simp at hc0
   refine AY ?_
   refine AJ ?_
   refine BD ?_
   refine sg ?_
   have hit:=KX n
   refine qv A8 ?_
   refine Bo (f87 (n:Nat) (by omega) (by omega)) ?_
   rw [hit]
   refine qv A8 ?_
   refine qv D5 ?_
   refine cd (fun hc1=>?_) (fun hc1=>?_)
   ·skip
    refine sg ?_
    refine qv A8 ?_
    iterate 2 refine qv A9 ?_
    refine AP ?_
    exact x2 (hr:=(CW (by rw [Yw (w:=w) (n:=n) (by omega) (by simpa using hc1)];rfl))) (hr':=(DX (by rw [Yw (w:=w) (n:=n) (by omega) (by simpa using hc1)];rfl)))
   ·skip
    refine AY ?_
    refine rg ?_
    refine qv A8 ?_
    refine qv Am ?_
    refine qv A9 ?_
    exact ⟨n+1,⟨by omega,fun j hj=>by
     rcases Nat.lt_or_ge j n with h1 | h1
     ·exact Aj.2 j h1
     ·obtain rfl:j=n:=by omega
      simpa using hc1⟩,(by simp only;omega),(tl [])⟩
  ·try simp at hc0
   refine Ad ?_
   refine sg ?_
   iterate 2 refine qv A9 ?_
   refine AP ?_
   exact x2 (hr:=(CW (by rw [(MP (n:=n) (by omega) Aj.2:Fh w=none)];rfl))) (hr':=(DX (by rw [(MP (n:=n) (by omega) Aj.2:Fh w=none)];rfl)))
 ·try simp at oC
  iterate 3 refine qk ?_
  refine qv Ai ?_
  refine Cv (hb:=by first | rfl | simp | simp_all) (ht:=?_)
  refine Ad ?_
  refine sg ?_
  iterate 2 refine qv A9 ?_
  refine AP ?_
  exact x2 (hr:=(CW (by rw [(MP (n:=n) (by omega) Aj.2:Fh w=none)];rfl))) (hr':=(DX (by rw [(MP (n:=n) (by omega) Aj.2:Fh w=none)];rfl)))
theorem f112 (w:Tx):AR Tryz.prog 112 [CY w] (.one (.dv (i64 (Ku w)))):=by
 refine Bu Tryz.func112 rfl rfl (by rw [Tryz.ntmps112];simp) fun cx hP hn hg=>?_
 rw [Tryz.ntmps112] at hn
 rw [Bq,Bp]
 simp only [List.nil_append,List.append_nil,List.cons_append,BF,Nat.reduceAdd]
 refine sg ?_
 refine qv A9 ?_
 refine AJ ?_
 refine sg ?_
 refine qv A8 ?_
 refine BD ?_
 refine AJ ?_
 refine sg ?_
 refine qv D5 ?_
 refine qv A9 ?_
 refine cd (fun hc0=>?_) (fun hc0=>?_)
 ·try simp at hc0
  refine AY ?_
  refine cd (fun hc1=>?_) (fun hc1=>?_)
  ·try simp at hc1
   refine sg ?_
   refine qv A9 ?_
   refine AP ?_
   exact x1 (hr:=(CW (by unfold Ku Cc;simp_all)))
  ·try simp at hc1
   refine sg ?_
   refine qv D5 ?_
   refine qv A9 ?_
   refine cd (fun hc2=>?_) (fun hc2=>?_)
   ·try simp at hc2
    refine sg ?_
    refine qv A9 ?_
    refine AP ?_
    exact x1 (hr:=(CW (by unfold Ku Cc;simp_all)))
   ·try simp at hc2
    refine AJ ?_
    refine sg ?_
    refine qv D5 ?_
    refine qv A9 ?_
    refine cd (fun hc3=>?_) (fun hc3=>?_)
    ·try simp at hc3
     refine AY ?_
     refine cd (fun hc4=>?_) (fun hc4=>?_)
     ·try simp at hc4
      refine sg ?_
      refine qv A9 ?_
      refine AP ?_
      exact x1 (hr:=(CW (by unfold Ku Cc;simp_all)))
     ·try simp at hc4
      refine AY ?_
      refine sg ?_
      refine qv A9 ?_
      refine AP ?_
      exact x1 (hr:=(CW (by unfold Ku Cc;simp_all)))
    ·try simp at hc3
     refine rg ?_
     refine qv D5 ?_
     refine qv A9 ?_
     refine cd (fun hc4=>?_) (fun hc4=>?_)
     ·try simp at hc4
      refine sg ?_
      refine qv A9 ?_
      refine AP ?_
      exact x1 (hr:=(CW (by unfold Ku Cc;simp_all)))
     ·try simp at hc4
      refine AY ?_
      refine sg ?_
      refine qv A9 ?_
      refine AP ?_
      exact x1 (hr:=(CW (by unfold Ku Cc;simp_all)))
 ·try simp at hc0
  refine rg ?_
  refine qv D5 ?_
  refine qv A9 ?_
  refine cd (fun hc1=>?_) (fun hc1=>?_)
  ·try simp at hc1
   refine sg ?_
   refine qv A9 ?_
   refine AP ?_
   exact x1 (hr:=(CW (by unfold Ku Cc;simp_all)))
  ·try simp at hc1
   refine sg ?_
   refine qv D5 ?_
   refine qv A9 ?_
   refine cd (fun hc2=>?_) (fun hc2=>?_)
   ·try simp at hc2
    refine sg ?_
    refine qv A9 ?_
    refine AP ?_
    exact x1 (hr:=(CW (by unfold Ku Cc;simp_all)))
   ·try simp at hc2
    refine AJ ?_
    refine sg ?_
    refine qv D5 ?_
    refine qv A9 ?_
    refine cd (fun hc3=>?_) (fun hc3=>?_)
    ·try simp at hc3
     refine AY ?_
     refine cd (fun hc4=>?_) (fun hc4=>?_)
     ·try simp at hc4
      refine sg ?_
      refine qv A9 ?_
      refine AP ?_
      exact x1 (hr:=(CW (by unfold Ku Cc;simp_all)))
     ·try simp at hc4
      refine AY ?_
      refine sg ?_
      refine qv A9 ?_
      refine AP ?_
      exact x1 (hr:=(CW (by unfold Ku Cc;simp_all)))
    ·try simp at hc3
     refine rg ?_
     refine qv D5 ?_
     refine qv A9 ?_
     refine cd (fun hc4=>?_) (fun hc4=>?_)
     ·try simp at hc4
      refine sg ?_
      refine qv A9 ?_
      refine AP ?_
      exact x1 (hr:=(CW (by unfold Ku Cc;simp_all)))
     ·try simp at hc4
      refine AY ?_
      refine sg ?_
      refine qv A9 ?_
      refine AP ?_
      exact x1 (hr:=(CW (by unfold Ku Cc;simp_all)))
end Go.Ab.Tryz
namespace Go.Ab.Tryz
open Go Go.Ab Go.Proofs Go.Ab.Ci Go.Ab.Gx
open Go.Ab.Heap (Az Ah BZ)
theorem f23 (L:List Tx) (hl:L.length < 2000000):GR Tryz.prog 23 [Gi L] (.one (.dv (Gi (L.take 30)))):=by
 refine KE Tryz.func23 rfl rfl (by rw [Tryz.ntmps23];simp) fun cx hP hn hg=>?_
 rw [Tryz.ntmps23] at hn
 rw [Bq,Bp]
 simp only [List.nil_append,List.append_nil,List.cons_append,BF,Nat.reduceAdd]
 refine sg ?_
 refine qv A9 ?_
 refine AJ ?_
 refine sg ?_
 refine qv A8 ?_
 refine qv (BH Dg) ?_
 refine qv Dj ?_
 refine cd (fun hc0=>?_) (fun hc0=>?_)
 ·try simp at hc0
  refine sg ?_
  refine qr (D7 CF KL DZ) ?_
  refine qv A8 ?_
  refine qv (nP (L':=L.take 30) CF DZ (hL:=by simp)) ?_
  refine Qg (DK CF CF KL DZ WQ (hx:=by (simp only [St.look,St.ev,lk,AA,AV,Au,Ar,reduceIte,Nat.reduceAdd,Nat.reduceEqDiff,Nat.reduceMul]<;>exact OA))) ?_
  refine qv A9 ?_
  refine AP ?_
  exact x1 (hr:=A22 (Tz (L:=L.take 30) (by simp only [AA,reduceIte,Nat.reduceEqDiff,List.nil_append]<;>rfl) trivial (by simp<;>omega) (fun _=>trivial)))
 ·try simp at hc0
  refine AY ?_
  refine sg ?_
  refine qv A8 ?_
  refine qv A9 ?_
  refine AP ?_
  exact x1 (hr:=Nw (by rw [List.take_of_length_le (by omega)]))
end Go.Ab.Tryz
namespace Go.Ab.Tryz
open Go Go.Ab Go.Proofs Go.Ab.Ci Go.Ab.Gx
open Go.Ab.Heap (Az Ah BZ)
open H (Uu Ed)
open Go.Ab.Heap (Hp)
def two:Fm:=⟨⟨[[1,2],[3,4]]⟩,⟨[[0,1],[1,0]],[1,1]⟩,2⟩
theorem f61:GR Tryz.prog 61 [] (.one (.dv (LK two))):=by
 refine KE Tryz.func61 rfl rfl (by rw [Tryz.ntmps61];simp) fun cx hP hn hg=>?_
 rw [Tryz.ntmps61] at hn
 rw [Bq,Bp]
 simp only [List.nil_append,List.append_nil,List.cons_append,BF,Nat.reduceAdd]
 refine sg ?_
 refine qp (Fj xP) ?_
 refine sg ?_
 refine qr (D7 Ap Jq Ak) ?_
 refine Gv 1 1 (x:=ints [1,2]) ?_ (hD:=(BS (L:=[1,2]) (by simp only [AA,reduceIte,Nat.reduceEqDiff]<;>rfl) rfl rfl rfl rfl (fun _=>trivial)))
 refine qr (D7 Ap Jq Ak) ?_
 refine Gv 2 2 (x:=ints [3,4]) ?_ (hD:=(BS (L:=[3,4]) (by simp only [AA,reduceIte,Nat.reduceEqDiff]<;>rfl) rfl rfl rfl rfl (fun _=>trivial)))
 refine qr (D7 CO Ry Av) ?_
 refine Gv 3 3 (x:=.list (([[1,2],[3,4]]:List (List Int)).map ints)) ?_ (hD:=Heap.Ni (l:=([[1,2],[3,4]]:List (List Int)).map ints) (by simp only [AA,reduceIte,Nat.reduceEqDiff]<;>rfl) rfl rfl (fun d hd=>by simp at hd;rcases hd with rfl | rfl<;>rfl) (CG (.dv _ trivial) (CG (.dv _ trivial) EH)))
 refine qv (DJ A26 rD) ?_
 refine qr (D7 Ap Jq Ak) ?_
 refine Gv 5 5 (x:=ints [0,1]) ?_ (hD:=(BS (L:=[0,1]) (by simp only [AA,reduceIte,Nat.reduceEqDiff]<;>rfl) rfl rfl rfl rfl (fun _=>trivial)))
 refine qr (D7 Ap Jq Ak) ?_
 refine Gv 6 6 (x:=ints [1,0]) ?_ (hD:=(BS (L:=[1,0]) (by simp only [AA,reduceIte,Nat.reduceEqDiff]<;>rfl) rfl rfl rfl rfl (fun _=>trivial)))
 refine qr (D7 CO Ry Av) ?_
 refine Gv 7 7 (x:=.list (([[0,1],[1,0]]:List (List Int)).map ints)) ?_ (hD:=Heap.Ni (l:=([[0,1],[1,0]]:List (List Int)).map ints) (by simp only [AA,reduceIte,Nat.reduceEqDiff]<;>rfl) rfl rfl (fun d hd=>by simp at hd;rcases hd with rfl | rfl<;>rfl) (CG (.dv _ trivial) (CG (.dv _ trivial) EH)))
 refine qr (D7 Ap Jq Ak) ?_
 refine Gv 8 8 (x:=ints [1,1]) ?_ (hD:=(BS (L:=[1,1]) (by simp only [AA,reduceIte,Nat.reduceEqDiff]<;>rfl) rfl rfl rfl rfl (fun _=>trivial)))
 refine qv (DJ A25 A1I) ?_
 refine qv (DJ pl29 xP) ?_
 refine qs (CK EN) ?_
 refine AP ?_
 exact Heap.ZR (.inr rfl) (s1:=.dv (LK two)) (by simp only [Dt,EN,Eh,St.look,St.ev,lk,AA,AV,Au,Ar,reduceIte,Nat.reduceAdd,Nat.reduceEqDiff,Nat.reduceMul];rfl) (.dv _ trivial)
end Go.Ab.Tryz
namespace Go.Ab.Tryz
open Go Go.Ab Go.Proofs Go.Ab.Ci Go.Ab.Gx
open Go.Ab.Heap (Az Ah BZ)
open Go.Ab.Heap (Hp Et validate)
def OZ (b:Bg) (n:Int):Mw:=⟨(b.dep:Int),(b.worth.length:Int),n⟩
def newE (b:Bg) (h:Hp) (n:Int):Int :=
 if Nr b ≠ 0 then Nr b else if validate h ≠ 0 then validate h else if h.ground.length ≠ b.worth.length then 1 else valid (OZ b n)
theorem Rl (b:Bg) (h:Hp) (n:Int) (hE:newE b h n ≠ 0):Aw Tryz.prog 59 [.dv (KJ b),.dv (Et h),.dv (i64 n)] (Ba []) ⟨[.dv .DI,.dv (i64 (newE b h n))],Ba []⟩:=by
 unfold newE at hE ⊢
 refine DC Tryz.func59 rfl rfl (by rw [Tryz.ntmps59];simp) fun cx hP hn hg=>?_
 rw [Tryz.ntmps59] at hn
 refine Bj ?_
 refine sg ?_
 iterate 2 refine qp BX ?_
 iterate 2 refine qv A9 ?_
 refine AJ ?_
 refine sg ?_
 refine qv (AQ D9 DW) ?_
 refine Bo (f93 b) ?_
 refine qv A9 ?_
 refine sg ?_
 refine qv A8 ?_
 refine qv BP ?_
 refine cd (fun hc0=>?_) (fun hc0=>?_)
 ·skip
  have hv:Nr b ≠ 0:=by simpa using hc0
  rw [if_pos hv]
  refine sg ?_
  refine qv A8 ?_
  iterate 2 refine qv A9 ?_
  refine AP ?_
  exact xg []
 ·skip
  have hv:Nr b=0:=by simpa using hc0
  rw [if_neg (by simp [hv])] at hE ⊢
  have ok:=UZ hv
  have hn0:=ok.n0
  have hg0:=Ef hn0
  refine AY ?_
  refine AJ ?_
  refine sg ?_
  refine qv (AQ Cq Cr) ?_
  refine Bo (H.f94 h) ?_
  refine qv A9 ?_
  refine sg ?_
  refine qv A8 ?_
  refine qv BP ?_
  refine cd (fun hc1=>?_) (fun hc1=>?_)
  ·skip
   have hw:validate h ≠ 0:=by simpa using hc1
   rw [if_pos hw]
   refine sg ?_
   refine qv A8 ?_
   iterate 2 refine qv A9 ?_
   refine AP ?_
   exact xg []
  ·skip
   have hw:validate h=0:=by simpa using hc1
   rw [if_neg (by simp [hw])] at hE ⊢
   refine AY ?_
   refine sg ?_
   refine qv (AB Cb) ?_
   refine qv (AL DF Da) ?_
   refine qv (BH Ka) ?_
   refine qv A9 ?_
   refine AJ ?_
   refine sg ?_
   refine qv (AB F6) ?_
   refine qv (AL Av Bl) ?_
   refine qv (BH CZ) ?_
   refine qv A8 ?_
   refine qv BP ?_
   refine cd (fun hc2=>?_) (fun hc2=>?_)
   ·try simp at hc2
    have hl:h.ground.length ≠ b.worth.length:=by omega
    rw [if_pos hl]
    refine sg ?_
    iterate 2 refine qv A9 ?_
    refine AP ?_
    exact xg []
   ·try simp at hc2
    have hl:h.ground.length=b.worth.length:=by omega
    rw [if_neg (by simp [hl])] at hE ⊢
    refine AY ?_
    refine sg ?_
    refine qv (AB Cb) ?_
    refine qv (AL DF Da) ?_
    first | refine qv (BA CO Av) ?_ | refine qv (Bd CO Av) ?_
    refine qv (Bb Av Bl) ?_
    refine qv (BH CZ) ?_
    iterate 2 refine qv A8 ?_
    refine qv (DJ sS YI) ?_
    refine qp (Fj YI) ?_
    refine qs (CK H7) ?_
    refine AJ ?_
    refine sg ?_
    refine qv (AQ H7 JI) ?_
    refine Bo (f95 (OZ b n)) ?_
    refine qv A9 ?_
    refine sg ?_
    refine qv A8 ?_
    refine qv BP ?_
    refine Dw (hb:=(by simpa using hE)) (ht:=?_)
    refine sg ?_
    refine qv A8 ?_
    iterate 2 refine qv A9 ?_
    refine AP ?_
    exact xg []
end Go.Ab.Tryz
namespace Go.Ab.Tryz
open Go Go.Ab Go.Proofs Go.Ab.Ci Go.Ab.Gx
open Go.Ab.Heap (Az Ah BZ)
open Go.Ab.Heap (Hp Et validate)
structure Cs where
 day:Int
 AU:List Int
 AX:List Int
 F3:Nat
 Ei:Int
 cut:Int
 loaded:Int
 shut:Bool
 orders:List Tx
abbrev vY (b:Bg) (h:Hp) (n:Int) (c:Cs) (s:Int):List SV:=[.dv (.int .i32 s),.dv (.int .u32 0),.dv (.list (b.worth.map ints)),.dv (.list (h.links.map ints)),.dv (ints h.ground),.dv (i64 (b.dep:Int)),.dv (i64 (b.worth.length:Int)),.dv (i64 n),
 .dv (i64 c.day),.dv (ints c.AU),.dv (ints c.AX),.dv (i64 (c.F3:Int)),.dv (i64 c.Ei),.dv (i64 c.cut),.dv (i64 c.loaded),.dv (.bool c.shut),.sl 100001 0 0 c.orders.length]
abbrev Jg (b:Bg) (h:Hp) (n:Int) (c:Cs):BG:=⟨vY b h n c 0,0,100,0,false⟩
def cs0 (k:Nat):Cs:=⟨0,List.replicate k 0,List.replicate k 0,0,0,0,0,false,[]⟩
theorem bE {b:Bg} {h:Hp} {n:Int} (hE:newE b h n=0):Nr b=0 /\ validate h=0 /\ h.ground.length=b.worth.length /\ valid (OZ b n)=0:=by
 unfold newE at hE
 split at hE
 ·rename_i h1;exact absurd hE h1
 ·rename_i h1
  split at hE
  ·rename_i h2;exact absurd hE h2
  ·rename_i h2
   split at hE
   ·cases hE
   ·rename_i h3;exact ⟨by simpa using h1,by simpa using h2,by simpa using h3,hE⟩
set_option maxHeartbeats 2000000 in
theorem Ng (b:Bg) (h:Hp) (n:Int) (hE:newE b h n=0):Aw Tryz.prog 59 [.dv (KJ b),.dv (Et h),.dv (i64 n)] (Ba []) ⟨[.pt 100000 0 0,.dv (i64 0)],Ba [(100000,Jg b h n (cs0 b.worth.length)),(100001,LD [])]⟩:=by
 obtain ⟨hv,hw,hl,hm⟩:=bE hE
 have ok:=UZ hv
 have hn0:=ok.n0
 have Uz:=ok.n6
 have hd4:=ok.d4
 have hg0:=Ef hn0
 have hh:=H.NA hw
 have hr1:∀ i (hi:i < b.worth.length),b.worth[i].length < 2000000:=fun i hi=>by
  have:=ok.len i hi
  have e:b.col i=b.worth[i]:=Option.some.inj ((Ef hi).symm.trans (List.getElem?_eq_getElem hi))
  rw [e] at this;omega
 have vh:=Heap.YO hw
 have hll:=vh.len
 have hr2:∀ i (hi:i < h.links.length),h.links[i].length < 2000000:=fun i hi=>by
  have h1:=vh.row i (by omega)
  have e:=H.XC vh.len (i:=i) (by omega)
  rw [List.getElem?_eq_getElem hi] at e
  rw [Option.some.inj e];omega
 refine DC Tryz.func59 rfl rfl (by rw [Tryz.ntmps59];simp) fun cx hP hn hg=>?_
 rw [Tryz.ntmps59] at hn
 refine Bj ?_
 refine sg ?_
 iterate 2 refine qp BX ?_
 iterate 2 refine qv A9 ?_
 refine AJ ?_
 refine sg ?_
 refine qv (AQ D9 DW) ?_
 refine Bo (f93 b) ?_
 refine qv A9 ?_
 refine sg ?_
 refine qv A8 ?_
 refine qv BP ?_
 refine Cv (hb:=(by simp [hv])) (ht:=?_)
 refine AY ?_
 refine AJ ?_
 refine sg ?_
 refine qv (AQ Cq Cr) ?_
 refine Bo (H.f94 h) ?_
 refine qv A9 ?_
 refine sg ?_
 refine qv A8 ?_
 refine qv BP ?_
 refine Cv (hb:=(by simp [hw])) (ht:=?_)
 refine AY ?_
 refine sg ?_
 refine qv (AB Cb) ?_
 refine qv (AL DF Da) ?_
 refine qv (BH Ka) ?_
 refine qv A9 ?_
 refine AJ ?_
 refine sg ?_
 refine qv (AB F6) ?_
 refine qv (AL Av Bl) ?_
 refine qv (BH CZ) ?_
 refine qv A8 ?_
 refine qv BP ?_
 refine Cv (hb:=(by simp [hl])) (ht:=?_)
 refine AY ?_
 refine sg ?_
 refine qv (AB Cb) ?_
 refine qv (AL DF Da) ?_
 first | refine qv (BA CO Av) ?_ | refine qv (Bd CO Av) ?_
 refine qv (Bb Av Bl) ?_
 refine qv (BH CZ) ?_
 iterate 2 refine qv A8 ?_
 refine qv (DJ sS YI) ?_
 refine qp (Fj YI) ?_
 refine qs (CK H7) ?_
 refine AJ ?_
 refine sg ?_
 refine qv (AQ H7 JI) ?_
 refine Bo (f95 (OZ b n)) ?_
 refine qv A9 ?_
 refine sg ?_
 refine qv A8 ?_
 refine qv BP ?_
 refine Cv (hb:=(by simp [hm])) (ht:=?_)
 refine AY ?_
 refine AJ ?_
 refine rd mixed ?_
 refine zv (AB Cb) ?_
 refine zv (AL DF Da) ?_
 refine zqA (R:=[]) (f96 b.worth (by omega) hr1) ?_
 refine zv (DJ A26 rD) ?_
 refine zv (AB EK) ?_
 refine zv (AL DF Da) ?_
 refine zqA (R:=[]) (f96 h.links (by omega) hr2) ?_
 refine zv (AB F6) ?_
 refine zv (AL Av Bl) ?_
 refine GA (R:=[]) (f97 h.ground (by omega)) ?_
 refine zv (DJ A25 A1I) ?_
 refine zv (AQ H7 JI) ?_
 refine zv A8 ?_
 refine zr (TA Ap Jq Ak U7) ?_
 refine zv A8 ?_
 refine zr (TA Ap Jq Ak U7) ?_
 refine zv (DJ pl98 iQ) ?_
 refine zv (DJ A27 A1K) ?_
 refine zp BX ?_
 iterate 2 refine zv A9 ?_
 refine ⟨by rfl,?_⟩
 refine G9 53 ?_
 refine G9 57 ?_
 refine G9 59 ?_
 refine AP ?_
 exact xg [(100000,62)] (h2:=by
  simp [CV,Al,Ae,Aa,isLive,Ac,Ba,AA,Ch,BK,BJ,Af,BI,BL,BO,BM,BN,Dv]
  repeat' (first | rfl | exact BS (L:=h.ground) rfl rfl rfl rfl rfl (fun _=>trivial) | exact BS (L:=List.replicate b.worth.length 0) rfl rfl (by simp) rfl (by simp) (fun _=>trivial) | refine And.intro ?_ ?_))
end Go.Ab.Tryz
namespace Go.Ab.Tryz
open Go Go.Ab Go.Proofs Go.Ab.Ci Go.Ab.Gx
open Go.Ab.Heap (Az Ah BZ)
open Go.Ab.Heap (Hp Et validate)
abbrev vX (b:Bg) (h:Hp) (n:Int) (c:Cs) (s:Int):List DV:=[.int .i32 s,.int .u32 0,.list (b.worth.map ints),.list (h.links.map ints),ints h.ground,i64 (b.dep:Int),i64 (b.worth.length:Int),i64 n,
 i64 c.day,ints c.AU,ints c.AX,i64 (c.F3:Int),i64 c.Ei,i64 c.cut,i64 c.loaded,.bool c.shut]
def aU (b:Bg) (r k:Nat):Nat:=2 ^ (r * b.worth.length+k)
def Kt (b:Bg) (k:Nat):Nat -> Nat
 | 0=>0
 | r+1=>Kt b k r ||| aU b r k
def Gc (b:Bg) (l:List Int):Nat -> Nat
 | 0=>0
 | k+1=>Gc b l k ||| Kt b k (Az l k).toNat
theorem SI {b:Bg} (ok:PW b) {r k:Nat} (hr:r < b.dep) (hk:k < b.worth.length):r * b.worth.length+k < 24:=by
 have h1:=ok.n6
 have h2:=ok.d4
 have:(r+1) * b.worth.length <= 4 * 6:=Nat.mul_le_mul (by omega) h1
 rw [Nat.add_mul] at this
 omega
theorem Qd {b:Bg} (ok:PW b) {r k:Nat} (hr:r < b.dep) (hk:k < b.worth.length):aU b r k < 16777216:=by
 have:=Nat.pow_lt_pow_right (a:=2) (by decide) (SI ok hr hk)
 exact this
theorem yK {x y:Nat} (hx:x < 16777216) (hy:y < 16777216):x ||| y < 16777216:=Nat.or_lt_two_pow (n:=24) hx hy
theorem Xn {b:Bg} (ok:PW b) {k:Nat} (hk:k < b.worth.length):∀ r,r <= b.dep -> Kt b k r < 16777216
 | 0,_=>by simp [Kt]
 | r+1,h=>yK (Xn ok hk r (by omega)) (Qd ok (by omega) hk)
theorem iG {b:Bg} {l:List Int} (ok:Nu b l):∀ k,k <= l.length -> Gc b l k < 16777216
 | 0,_=>by simp [Gc]
 | k+1,h=>yK (iG ok k (by omega)) (Xn ok.bg (by rw [<- ok.len];omega) _ (by have:=ok.bd k (by omega);omega))
theorem f90 (b:Bg) (ok:PW b) (h:Hp) (n:Int) (c:Cs) (s:Int) (r k:Nat) (hr:r < b.dep) (hk:k < b.worth.length):AR Tryz.prog 90 [.DU (vX b h n c s),i64 (r:Int),i64 (k:Int)] (.one (.dv (i64 (aU b r k:Nat)))):=by
 have hb:=SI ok hr hk
 have h6:=ok.n6
 have hmul:r * b.worth.length < 24:=by omega
 refine Bu Tryz.func90 rfl rfl (by rw [Tryz.ntmps90];simp) fun cx hP hn hg=>?_
 rw [Tryz.ntmps90] at hn
 rw [Bq,Bp]
 simp only [List.nil_append,List.append_nil,List.cons_append,BF,Nat.reduceAdd]
 refine sg ?_
 refine qv A9 ?_
 refine sg ?_
 iterate 2 refine qv A8 ?_
 refine qv BR ?_
 first | refine qv (jM Kl) ?_ | refine qv (AB Kl) ?_
 first | refine qv (jM DR) ?_ | refine qv (AB DR) ?_
 first | refine qv (Bb Ak Br) ?_ | refine qv (AL Ak Br) ?_
 refine qv T9 ?_
 refine qv A8 ?_
 refine qv Dm ?_
 refine qv (EP (r * b.worth.length+k)) ?_
 refine qv A9 ?_
 refine AP ?_
 exact x1 (hr:=(CW (by simp [aU])))
end Go.Ab.Tryz
