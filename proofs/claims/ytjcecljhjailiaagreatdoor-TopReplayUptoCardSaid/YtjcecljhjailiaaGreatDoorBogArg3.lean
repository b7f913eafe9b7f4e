/- The bog laws' arguments: what a company is made with and its orders, no longer than the bulk allows. -/
import Derived.Test.YtjcecljhjailiaaGreatDoorBogArg2
import Derived.Test.YtjcecljhjailiaaGreatDoorBogU8
import Derived.Deep.DeepHandedRow
set_option linter.all false
set_option maxRecDepth 100000
namespace Go.Ab
open Go.ChangeShapes Go.WideShapes Go.ChangeAt Go.RowKit
variable {α H:Type} {enc:TypeId × Value -> H} {P:Program} {W:World} {t e:TypeId} {F:α -> DV}
def MJ {α H:Type} (enc:TypeId × Value -> H) (P:Program) (W:World) (t:TypeId) (F:α -> DV) (Q:α -> DataW H -> Prop):Prop :=
 ∀ (fuel:Nat) (cs:List Value) (x:DataW H × List MemPlace),DataW.trod enc P W 0 (fun _=>true) true fuel t cs=some x -> ∃ a:α,Q a x.1 /\ cs.length=(F a).cells.length /\ ∀ (j:Nat) c,(F a).cells[j]?=some c -> ∃ u,cs[j]?=some u /\ Bn W (fun _=>False) c u
theorem Yq (ht:P.underlying t=some .string):MJ (H:=H) enc P W t (fun T:List UInt8=>DV.str (bs T)) (fun T d=>d=.lit (.string T)):=by
 intro fuel cs x h
 obtain ⟨s,rfl,rfl,_⟩:=DataW.trod_string ht h
 have hb:bs s.data.toList=s:=Pt s
 refine ⟨s.data.toList,rfl,rfl,fun j c hj=>?_⟩
 cases j with
 | zero=>simp only [DV.cells,List.getElem?_cons_zero,Option.some.injEq] at hj;subst hj;exact ⟨_,rfl,by rw [hb];exact .str s⟩
 | succ j=>simp [DV.cells] at hj
theorem Wd {sz:Nat} {Q:α -> DataW H -> Prop} (ht:P.underlying t=some (.slice e)) (hc:P.cellsOf e=sz) (hpos:0 < sz) (hF:∀ a,(F a).cells.length=sz) (h0:MJ enc P W e F Q) :
  MJ enc P W t (fun L:List α=>.list (L.map F)) (fun L d=>(L=[] \/ ∃ es rest,d=.slice es rest /\ es.length=L.length /\ ∀ (i:Nat) a d',L[i]?=some a -> es[i]?=some d' -> Q a d')):=by
 intro fuel cs x h
 have hsz:∀ (L:List α),∀ d ∈ L.map F,d.cells.length=sz:=fun L d hd=>by obtain ⟨q,_,rfl⟩:=List.mem_map.1 hd;exact hF q
 rcases DataW.trod_slice ht h with ⟨rfl,_⟩ | ⟨a,len,cap,elems,rest,n,_,rfl,rfl,_,hl,_,hlen,hel,_,_⟩
 ·refine ⟨[],.inl rfl,rfl,fun j c hj=>?_⟩
  cases j with
  | zero=>simp only [List.map_nil,DV.cells,List.getElem?_cons_zero,Option.some.injEq] at hj;subst hj;exact ⟨_,rfl,.Cq _ _⟩
  | succ j=>simp [DV.cells] at hj
 ·have each:∀ i,i < len -> ∃ q:α,(∀ y,elems[i]?=some y -> Q q y.1) /\ ∀ (j:Nat) c,(F q).cells[j]?=some c -> ∃ u,W.cell? (a.add (i * sz+j))=some u /\ Bn W (fun _=>False) c u:=fun i hi=>by
   have h1:=hel i hi
   have h2:elems[i]?=some elems[i]:=List.getElem?_eq_getElem (by omega)
   rw [h2,hc,Option.bind_eq_some_iff] at h1
   obtain ⟨cs,c1,c2⟩:=h1
   obtain ⟨_,hlc,hcell⟩:=World.cells?_some c1
   obtain ⟨q,q0,q1,q2⟩:=h0 n cs _ c2
   refine ⟨q,fun y hy=>by rw [h2] at hy;cases hy;exact q0,fun j c hj=>?_⟩
   obtain ⟨u,u1,u2⟩:=q2 j c hj
   refine ⟨u,?_,u2⟩
   have hj2:j < sz:=by have:=(List.getElem?_eq_some_iff.1 u1).1;omega
   have:=hcell j hj2
   rw [u1] at this
   rw [addr_add_add] at this
   exact this
  obtain ⟨L,hL,hLQ⟩:=Uw len each
  refine ⟨L,.inr ⟨_,_,rfl,by simp;omega,fun i a' d' ha hd=>?_⟩,rfl,fun j c hj=>?_⟩
  ·rw [List.getElem?_map] at hd
   obtain ⟨y,hy,rfl⟩:=Option.map_eq_some_iff.1 hd
   exact (hLQ i a' ha).1 y hy
  cases j with
  | succ j=>simp [DV.cells] at hj
  | zero =>
   simp only [DV.cells,List.getElem?_cons_zero,Option.some.injEq] at hj
   subst hj
   refine ⟨_,rfl,?_⟩
   have hcells:∀ j c,(flat (L.map F))[j]?=some c -> ∃ u,W.cell? (a.add j)=some u /\ Bn W (fun _=>False) c u:=fun j c hj=>by
    have hjl:=(List.getElem?_eq_some_iff.1 hj).1
    rw [JK _ sz (hsz L),List.length_map] at hjl
    have hi:j / sz < L.length:=by rw [Nat.div_lt_iff_lt_mul hpos];exact hjl
    have hj':j=j / sz * sz+j % sz:=by rw [Nat.mul_comm];exact (Nat.div_add_mod j sz).symm
    have hfg:=flat_get (L.map F) sz (hsz L) (j / sz) (by simpa using hi) (j % sz) (Nat.mod_lt _ hpos)
    rw [<- hj',hj,List.getElem_map] at hfg
    obtain ⟨u,u1,u2⟩:=(hLQ (j / sz) _ (List.getElem?_eq_getElem hi)).2 (j % sz) c hfg.symm
    rw [<- hj'] at u1
    exact ⟨u,u1,u2⟩
   cases L with
   | nil =>
    have:len=0:=by simpa using hL.symm
    subst this
    exact .Cq _ _
   | cons q L =>
    have hfl:0 < (flat ((q :: L).map F)).length:=by
     rw [JK _ sz (hsz _)]
     simp only [List.length_map,List.length_cons]
     exact Nat.mul_pos (Nat.succ_pos _) hpos
    obtain ⟨u0,hu0,_⟩:=hcells 0 _ (List.getElem?_eq_getElem hfl)
    obtain ⟨b,o,spot⟩:=a
    have hspot:spot=none:=by simpa [Addr.add] using World.cell?_spot hu0
    subst hspot
    have hb:b < W.heap.size:=by
     rw [add_plain] at hu0
     unfold World.cell? at hu0
     cases hh:W.heap[b]? with
     | none=>rw [hh] at hu0;simp at hu0
     | some ob=>exact (Array.getElem?_eq_some_iff.1 hh).1
    have jq:len=((q :: L).map F).length:=by rw [List.length_map];exact hL.symm
    rw [jq]
    refine .list _ b o cap sz (fun j=>(W.cell? ⟨b,o+j,none⟩).getD undef) (fun h=>h) hb (by omega) (hsz _) (fun j c hj=>?_) fun j c hj=>?_
    ·obtain ⟨u,u1,_⟩:=hcells j c hj
     rw [add_plain] at u1
     rw [u1];rfl
    ·obtain ⟨u,u1,u2⟩:=hcells j c hj
     rw [add_plain] at u1
     rw [u1];exact u2
set_option maxHeartbeats 4000000 in
theorem Wh {α0 α1 α2 α3 α4:Type} {F0:α0 -> DV} {F1:α1 -> DV} {F2:α2 -> DV} {F3:α3 -> DV} {F4:α4 -> DV} {Q:α3 -> DataW H -> Prop} {f0 f1 f2 f3 f4:Field} (ht:P.underlying t=some (.struct #[f0,f1,f2,f3,f4]))
  {n0 n1 n2 n3 n4:Nat} (c0:P.cellsOf f0.type=n0) (c1:P.cellsOf f1.type=n1) (c2:P.cellsOf f2.type=n2) (c3:P.cellsOf f3.type=n3) (c4:P.cellsOf f4.type=n4)
  (o0:f0.offset=0) (o1:f1.offset=n0) (o2:f2.offset=n0+n1) (o3:f3.offset=n0+n1+n2) (o4:f4.offset=n0+n1+n2+n3) (hn:P.cellsOf t=n0+n1+n2+n3+n4)
  (h0:Opens enc P W f0.type F0) (h1:Opens enc P W f1.type F1) (h2:Opens enc P W f2.type F2) (h3:MJ enc P W f3.type F3 Q) (h4:Opens enc P W f4.type F4) :
  MJ enc P W t (fun p:α0 × α1 × α2 × α3 × α4=>.agg ((F0 p.1).cells ++ ((F1 p.2.1).cells ++ ((F2 p.2.2.1).cells ++ ((F3 p.2.2.2.1).cells ++ (F4 p.2.2.2.2).cells))))) (fun p d=>∃ y0 y1 y2 y3 y4,d=.agg [y0,y1,y2,y3,y4] /\ Q p.2.2.2.1 y3):=by
 intro fuel cs x h
 obtain ⟨xs,n,_,rfl,hl,hlen,hf⟩:=DataW.trod_struct ht h
 obtain ⟨y0,y1,y2,y3,y4,rfl⟩:∃ y0 y1 y2 y3 y4,xs=[y0,y1,y2,y3,y4]:=by
  match xs,hlen with
  | [y0,y1,y2,y3,y4],_=>exact ⟨y0,y1,y2,y3,y4,rfl⟩
 have r0:=hf 0 f0 rfl
 have r1:=hf 1 f1 rfl
 have r2:=hf 2 f2 rfl
 have r3:=hf 3 f3 rfl
 have r4:=hf 4 f4 rfl
 simp only [List.getElem?_cons_zero,List.getElem?_cons_succ] at r0 r1 r2 r3 r4
 obtain ⟨a0,a01,a02⟩:=h0 _ _ _ r0
 obtain ⟨a1,a11,a12⟩:=h1 _ _ _ r1
 obtain ⟨a2,a21,a22⟩:=h2 _ _ _ r2
 obtain ⟨a3,a3q,a31,a32⟩:=h3 _ _ _ r3
 obtain ⟨a4,a41,a42⟩:=h4 _ _ _ r4
 rw [o0,c0,List.length_take,List.length_drop] at a01
 rw [o1,c1,List.length_take,List.length_drop] at a11
 rw [o2,c2,List.length_take,List.length_drop] at a21
 rw [o3,c3,List.length_take,List.length_drop] at a31
 rw [o4,c4,List.length_take,List.length_drop] at a41
 rw [hn] at hl
 have part:∀ {off m i:Nat} {c:DV},(∃ u,((cs.drop off).take m)[i]?=some u /\ Bn W (fun _=>False) c u) -> ∃ u,cs[off+i]?=some u /\ Bn W (fun _=>False) c u:=by
  rintro off m i c ⟨u,u1,u2⟩
  rw [List.getElem?_take] at u1
  split at u1
  ·rw [List.getElem?_drop] at u1
   exact ⟨u,u1,u2⟩
  ·cases u1
 refine ⟨(a0,a1,a2,a3,a4),⟨_,_,_,_,_,rfl,a3q⟩,?_,fun j c hj=>?_⟩
 ·show cs.length=((F0 a0).cells ++ ((F1 a1).cells ++ ((F2 a2).cells ++ ((F3 a3).cells ++ (F4 a4).cells)))).length
  simp only [List.length_append];omega
 replace hj:((F0 a0).cells ++ ((F1 a1).cells ++ ((F2 a2).cells ++ ((F3 a3).cells ++ (F4 a4).cells))))[j]?=some c:=hj
 rcases Nat.lt_or_ge j (F0 a0).cells.length with q0 | q0
 ·rw [List.getElem?_append_left q0] at hj
  obtain ⟨u,u1,u2⟩:=part (a02 _ c hj)
  exact ⟨u,by rw [<- u1];congr 1;omega,u2⟩
 rw [List.getElem?_append_right q0] at hj
 rcases Nat.lt_or_ge (j - (F0 a0).cells.length) (F1 a1).cells.length with q1 | q1
 ·rw [List.getElem?_append_left q1] at hj
  obtain ⟨u,u1,u2⟩:=part (a12 _ c hj)
  exact ⟨u,by rw [<- u1];congr 1;omega,u2⟩
 rw [List.getElem?_append_right q1] at hj
 rcases Nat.lt_or_ge (j - (F0 a0).cells.length - (F1 a1).cells.length) (F2 a2).cells.length with q2 | q2
 ·rw [List.getElem?_append_left q2] at hj
  obtain ⟨u,u1,u2⟩:=part (a22 _ c hj)
  exact ⟨u,by rw [<- u1];congr 1;omega,u2⟩
 rw [List.getElem?_append_right q2] at hj
 rcases Nat.lt_or_ge (j - (F0 a0).cells.length - (F1 a1).cells.length - (F2 a2).cells.length) (F3 a3).cells.length with q3 | q3
 ·rw [List.getElem?_append_left q3] at hj
  obtain ⟨u,u1,u2⟩:=part (a32 _ c hj)
  exact ⟨u,by rw [<- u1];congr 1;omega,u2⟩
 rw [List.getElem?_append_right q3] at hj
 obtain ⟨u,u1,u2⟩:=part (a42 _ c hj)
 exact ⟨u,by rw [<- u1];congr 1;omega,u2⟩
theorem mU {Q:α -> DataW H -> Prop} {cells:α -> List DV} (hF:∀ a,F a=.agg (cells a)) (h:MJ enc P W t F Q) {cs:Array Value} {d:DataW H} {ps:List MemPlace} (hd:DataW.Trod enc P W 0 (fun _=>true) true t (.agg cs) d ps):∃ a,Q a d /\ Bn W (fun _=>False) (F a) (.agg cs):=by
 obtain ⟨fuel,hf⟩:=hd
 obtain ⟨a,h0,h1,h2⟩:=h fuel _ _ hf
 refine ⟨a,h0,?_⟩
 rw [hF] at h1 h2 ⊢
 simp only [DV.cells,Value.cells] at h1 h2
 refine .agg _ _ (by simpa using h1) fun j c hj=>?_
 obtain ⟨u,u1,u2⟩:=h2 j c hj
 have:cs.getD j undef=u:=by
  simp only [Array.getElem?_toList] at u1
  simp [u1]
 rw [this]
 exact u2
end Go.Ab
namespace Go.Proofs.YtjcecljhjailiaaGreatDoor
open Go.ChangeShapes Go.WideShapes Go.ChangeAt Go.RowKit Go.Ab Go.Ab.Tryz Go.Ab.Gi
open Go.Ab.Heap (Hp GX)
theorem I9 {H:Type} (d:DataW H):1 <= Rows.uptoBulk d:=by
 cases d with
 | lit l=>cases l<;>simp [Rows.uptoBulk]
 | nil=>simp [Rows.uptoBulk]
 | ptr d=>simp [Rows.uptoBulk]
 | slice elems spare=>simp [Rows.uptoBulk]
 | agg parts=>simp [Rows.uptoBulk]
 | iface t d=>simp [Rows.uptoBulk]
 | map entries=>simp [Rows.uptoBulk]
 | held h=>simp [Rows.uptoBulk]
theorem gM {H:Type} {l:List (DataW H)}:∀ {i:Nat} {d:DataW H},l[i]?=some d -> Rows.uptoBulk d+l.length <= Rows.uptoBulkAll l+1:=by
 induction l with
 | nil=>intro i d h;simp at h
 | cons x r ih =>
  intro i d h
  simp only [Rows.uptoBulkAll,List.length_cons]
  cases i with
  | zero =>
   simp only [List.getElem?_cons_zero,Option.some.injEq] at h
   subst h
   have:r.length <= Rows.uptoBulkAll r:=by
    clear ih
    induction r with
    | nil=>simp [Rows.uptoBulkAll]
    | cons y r ih=>have:=I9 y;simp only [Rows.uptoBulkAll,List.length_cons];omega
   omega
  | succ i =>
   have:=ih (by simpa using h)
   have:=I9 x
   omega
theorem mF {H:Type} (l:List (DataW H)):l.length <= Rows.uptoBulkAll l:=by
 induction l with
 | nil=>simp [Rows.uptoBulkAll]
 | cons y r ih=>have:=I9 y;simp only [Rows.uptoBulkAll,List.length_cons];omega
theorem jK {H:Type} (enc:TypeId × Value -> H) (W:World):MJ enc Tryz.prog W 81 (fun p:Bg × Hp × Int × List Tx × Int=>.agg ((RX p.1).cells ++ ((GX p.2.1).cells ++ ((DV.int .i64 p.2.2.1).cells ++ ((DV.list (p.2.2.2.1.map fun T=>DV.str (bs T))).cells ++ (DV.int .i64 p.2.2.2.2).cells)))))
  (fun p d=>∃ y0 y1 y2 y3 y4,d=.agg [y0,y1,y2,y3,y4] /\ (p.2.2.2.1=[] \/ ∃ es rest,y3=.slice es rest /\ es.length=p.2.2.2.1.length /\ ∀ (i:Nat) a d',p.2.2.2.1[i]?=some a -> es[i]?=some d' -> d'=.lit (.string a))):=Wh (enc:=enc) (W:=W) (P:=Tryz.prog) (t:=81) (F0:=RX) (F1:=GX) (F2:=fun n:Int=>DV.int .i64 n) (F3:=fun L:List Tx=>DV.list (L.map fun T=>DV.str (bs T))) (F4:=fun n:Int=>DV.int .i64 n) (n0:=1) (n1:=2) (n2:=1) (n3:=1) (n4:=1) Tryz.underlying81 (by kernel_rfl) (by kernel_rfl) (by kernel_rfl) (by kernel_rfl) (by kernel_rfl) rfl rfl rfl rfl rfl (by kernel_rfl)
 (WZ enc W) (WY enc W) (JE (k:=.i64) Tryz.underlying3) (Wd (sz:=1) Tryz.underlying30 (by kernel_rfl) (by decide) (fun _=>rfl) (Yq Tryz.underlying9)) (JE (k:=.i64) Tryz.underlying3)
theorem mQ {H:Type} {enc:TypeId × Value -> H} {W:World} {base:Nat} {v:Value} {d:DataW H} {ps:List MemPlace} (hv:Value.okWide Tryz.prog W .any base 81 v) (hd:DataW.Trod enc Tryz.prog W 0 (fun _=>true) true 81 v d ps) (hb:Rows.uptoBulkAll [d] <= 1048576):∃ x:Ft,Bn W (fun _=>False) (nJ x) v /\ Nr x:=by
 obtain ⟨cs,rfl,_⟩:=okWide_struct Tryz.underlying81 hv
 obtain ⟨⟨b,h,n,L,k⟩,⟨y0,y1,y2,y3,y4,rfl,hq⟩,hr⟩:=mU (fun _=>rfl) (jK enc W) hd
 refine ⟨⟨b,h,n,L,k⟩,hr,?_⟩
 simp only [Rows.uptoBulkAll,Rows.uptoBulk] at hb
 have p0:=I9 y0
 have p1:=I9 y1
 have p2:=I9 y2
 have p4:=I9 y4
 rcases hq with rfl | ⟨es,rest,rfl,hl,hq⟩
 ·exact ⟨by show ([]:List Tx).length < 2000000;decide,fun i hi=>absurd hi (by simp)⟩
 ·have hb3:Rows.uptoBulkAll es <= 1048576:=by simp only [Rows.uptoBulk] at hb;omega
  have hel:=mF es
  have hl2:es.length=L.length:=hl
  refine ⟨by show L.length < 2000000;omega,fun i hi=>?_⟩
  show (L[i]'hi).length < 2000000
  have h1:es[i]?=some (es[i]'(by rw [hl2];exact hi)):=List.getElem?_eq_getElem (by rw [hl2];exact hi)
  have h2:=hq i _ _ (List.getElem?_eq_getElem hi) h1
  have h3:=gM h1
  rw [h2] at h3
  simp only [Rows.uptoBulk] at h3
  omega
end Go.Proofs.YtjcecljhjailiaaGreatDoor
