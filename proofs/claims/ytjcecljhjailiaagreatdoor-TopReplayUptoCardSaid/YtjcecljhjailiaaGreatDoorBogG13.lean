/- Ab25, Ab41, BogArg. -/
import Derived.Test.YtjcecljhjailiaaGreatDoorBogG06
import Derived.WalkKit
import Derived.ProofKit
import Derived.OpenShut
import Derived.JoinedCond
import Derived.Carry
import Derived.Deep.Strs
import Derived.Test.YtjcecljhjailiaaGreatDoorTie
import Derived.Test.YtjcecljhjailiaaGreatDoorBogG12
import Derived.LaidMore
import Derived.LaidHandle
import Derived.Lib.LaidTab
import Derived.Stop.Joined
import Derived.Stop.LaidErr
import Derived.Lay
import Derived.Shelf.Vars
import Derived.Handed
import Derived.Test.YtjcecljhjailiaaGreatDoorBogG11
set_option linter.unusedVariables false
namespace Go.Ab
open Go.ChangeShapes Go.WideShapes Go.ChangeAt Go.RowKit
section
variable {H:Type} {enc:TypeId × Value -> H} {P:Program} {w:World}
theorem LB (hl:laidOutB P=true) {W W':World} {sp':Nat -> Bool}:∀ {ts:List TypeId} {vs:List Value} {ds:List (DataW H)} {ps:List MemPlace},(∀ t ∈ ts,P.readableRec t=true /\ t < P.types.size) →
  DataW.TrodAll enc P W 0 (fun _=>true) true ts vs ds ps -> (∀ p ∈ ps,W.sameAt W' p) -> (∀ p ∈ ps,sp' p.block=true) -> DataW.TrodAll enc P W' 0 sp' true ts vs ds ps
 | [],_,_,_,_,h,_,_=>by obtain ⟨rfl,rfl,rfl⟩:=trodAll_nil h;exact trodAll_mk0
 | t :: ts,_,_,_,hr,h,hsame,hs=>by
  obtain ⟨v,vs',d,ds',p,q,rfl,rfl,rfl,h0,r0⟩:=trodAll_cons h
  obtain ⟨h1,h2⟩:=hr t (by simp)
  exact trodAll_cons_mk (WideElems.Trod_stays hl h1 h2 h0 (fun x hx=>hsame x (List.mem_append_left _ hx)) fun x hx=>hs x (List.mem_append_left _ hx))
   (LB hl (fun t ht=>hr t (List.mem_cons_of_mem _ ht)) r0 (fun x hx=>hsame x (List.mem_append_right _ hx)) fun x hx=>hs x (List.mem_append_right _ hx))
theorem N9 {f:Func} {s:ChangeSpec} {apart fresh handsOn again:Bool} {W W':World} {args:Array Value} {ds gs:List (DataW H)} {before:List MemPlace} {tb:TypeId}
  (hl:laidOutB P=true) (hr:∀ t ∈ f.params.toList,P.readableRec t=true /\ t < P.types.size) (hrt:f.resultTypes=#[tb]) (hb:P.underlying tb=some .bool) (jo:s.vars=[])
  (hW:DataW.Whole enc P f.params.toList s.vars apart W args.toList ds gs before) (hres:(s.fn H (ds ++ gs)).results=[.lit (.bool true)]) (hargs:(s.fn H (ds ++ gs)).args=ds) (hvs:(s.fn H (ds ++ gs)).vars=[])
  (hbel:Below W.heap.size W W'):s.post enc P f apart fresh handsOn again W args (.bool true) W':=by
 have hW':=hW
 obtain ⟨p,q,hA,hV,rfl,hfz,hnd⟩:=hW
 rw [jo] at hV
 obtain ⟨rfl,rfl⟩:=trodVars_none hV
 rw [List.append_nil] at hW' hfz hnd hres hargs hvs
 have hlt:∀ x ∈ p,x.block < W.heap.size:=fun x hx=>by simpa using hW'.lt x hx
 have hargs':∀ sp:Nat -> Bool,(∀ x ∈ p,sp x.block=true) -> DataW.TrodAll enc P W' 0 sp true f.params.toList args.toList ds p:=fun sp hsp =>
  LB hl hr hA (fun x hx=>hbel.same (hlt x hx)) hsp
 have hres':∀ (b:Nat) (sp:Nat -> Bool) (hd:Bool),DataW.TrodAll enc P W' b sp hd f.resultTypes.toList ((Value.bool true).resultList f.resultTypes.size) [.lit (.bool true)] []:=fun b sp hd=>by
  rw [hrt]
  exact trodAll_cons_mk (shut_bool hb _) trodAll_mk0
 have hvars':∀ sp:Nat -> Bool,DataW.TrodVars enc P W' sp s.vars (s.fn H ds).vars []:=fun sp=>by rw [jo,hvs];rfl
 refine ⟨ds,[],p,[],p,[],hW',by rw [List.append_nil,hres];exact hres' _ _ _,?_,?_,World.keptBut_mono (fun x hx=>⟨hx,.inr (by simpa using hx)⟩) (hbel.frame _),fun _=>?_⟩
 ·rw [List.append_nil,hargs];exact hargs' _ fun x hx=>by simpa using hlt x hx
 ·rw [List.append_nil];exact hvars' _
 ·refine ⟨ok_one hrt rfl (okWide_bool_mk hb _),_,_,([] ++ p) ++ [],⟨[] ++ p,[],trodAll_append (hargs' _ (fun _ _=>rfl)) (hres' _ _ _),hvars' _,rfl,?_,?_⟩,?_⟩
  ·intro b off hp
   have hp':MemPlace.cell b off ∈ p:=by simpa using hp
   rw [hbel.frozen (p:=⟨b,off,none⟩) (hlt _ hp')]
   exact hfz b off hp'
  ·intro ha
   simpa using hnd ha
  ·intro x hx _
   simpa using hx
end
def Opens {α H:Type} (enc:TypeId × Value -> H) (P:Program) (W:World) (t:TypeId) (F:α -> DV):Prop :=
 ∀ (fuel:Nat) (cs:List Value) (x:DataW H × List MemPlace),DataW.trod enc P W 0 (fun _=>true) true fuel t cs=some x -> ∃ a:α,cs.length=(F a).cells.length /\ ∀ (j:Nat) c,(F a).cells[j]?=some c -> ∃ u,cs[j]?=some u /\ Bn W (fun _=>False) c u
section
variable {α β γ H:Type} {enc:TypeId × Value -> H} {P:Program} {W:World} {t e:TypeId} {F:α -> DV} {G:β -> DV}
theorem JE {k:IntKind} (ht:P.underlying t=some (.int k)):Opens enc P W t (fun n:Int=>DV.int k n):=by
 intro fuel cs x h
 obtain ⟨n,rfl,_,_⟩:=DataW.trod_int ht h
 refine ⟨n,rfl,fun j c hj=>?_⟩
 cases j with
 | zero=>simp only [DV.cells,List.getElem?_cons_zero,Option.some.injEq] at hj;subst hj;exact ⟨_,rfl,.int k n⟩
 | succ j=>simp [DV.cells] at hj
theorem TS (ht:P.underlying t=some .string):Opens enc P W t (fun s:ByteArray=>DV.str s):=by
 intro fuel cs x h
 obtain ⟨s,rfl,_,_⟩:=DataW.trod_string ht h
 refine ⟨s,rfl,fun j c hj=>?_⟩
 cases j with
 | zero=>simp only [DV.cells,List.getElem?_cons_zero,Option.some.injEq] at hj;subst hj;exact ⟨_,rfl,.str s⟩
 | succ j=>simp [DV.cells] at hj
theorem addr_add_add (a:Addr) (m n:Nat):(a.add m).add n=a.add (m+n):=by
 obtain ⟨b,o,s⟩:=a
 unfold Addr.add
 by_cases hm:m=0
 ·subst hm;simp
 ·by_cases hn:n=0
  ·subst hn;simp [hm]
  ·simp [hm,hn,Nat.add_assoc]
theorem Uw {Q:Nat -> α -> Prop}:∀ n:Nat,(∀ i,i < n -> ∃ a,Q i a) -> ∃ l:List α,l.length=n /\ ∀ i a,l[i]?=some a -> Q i a
 | 0,_=>⟨[],rfl,fun i a h=>by simp at h⟩
 | n+1,h=>by
  obtain ⟨l,h1,h2⟩:=Uw n fun i hi=>h i (by omega)
  obtain ⟨a,ha⟩:=h n (by omega)
  refine ⟨l ++ [a],by simp [h1],fun i b hb=>?_⟩
  rcases Nat.lt_or_ge i l.length with hi | hi
  ·rw [List.getElem?_append_left hi] at hb;exact h2 i b hb
  ·rw [List.getElem?_append_right hi] at hb
   have:i - l.length=0:=by have:=(List.getElem?_eq_some_iff.1 hb).1;simp at this;omega
   rw [this] at hb
   simp only [List.getElem?_cons_zero,Option.some.injEq] at hb
   subst hb
   have:i=n:=by omega
   subst this
   exact ha
theorem Jd {sz:Nat} (ht:P.underlying t=some (.slice e)) (hc:P.cellsOf e=sz) (hpos:0 < sz) (hF:∀ a,(F a).cells.length=sz) (h0:Opens enc P W e F):Opens enc P W t (fun L:List α=>.list (L.map F)):=by
 intro fuel cs x h
 rcases DataW.trod_slice ht h with ⟨rfl,_⟩ | ⟨a,len,cap,elems,rest,n,_,rfl,_,_,hl,_,hlen,hel,_,_⟩
 ·refine ⟨[],rfl,fun j c hj=>?_⟩
  cases j with
  | zero=>simp only [List.map_nil,DV.cells,List.getElem?_cons_zero,Option.some.injEq] at hj;subst hj;exact ⟨_,rfl,.Cq _ _⟩
  | succ j=>simp [DV.cells] at hj
 ·have each:∀ i,i < len -> ∃ q:α,∀ (j:Nat) c,(F q).cells[j]?=some c -> ∃ u,W.cell? (a.add (i * sz+j))=some u /\ Bn W (fun _=>False) c u:=fun i hi=>by
   have h1:=hel i hi
   have h2:elems[i]?=some elems[i]:=List.getElem?_eq_getElem (by omega)
   rw [h2,hc,Option.bind_eq_some_iff] at h1
   obtain ⟨cs,c1,c2⟩:=h1
   obtain ⟨_,hlc,hcell⟩:=World.cells?_some c1
   obtain ⟨q,q1,q2⟩:=h0 n cs _ c2
   refine ⟨q,fun j c hj=>?_⟩
   obtain ⟨u,u1,u2⟩:=q2 j c hj
   refine ⟨u,?_,u2⟩
   have hj2:j < sz:=by have:=(List.getElem?_eq_some_iff.1 u1).1;omega
   have:=hcell j hj2
   rw [u1] at this
   rw [addr_add_add] at this
   exact this
  obtain ⟨L,hL,hLQ⟩:=Uw len each
  refine ⟨L,rfl,fun j c hj=>?_⟩
  cases j with
  | succ j=>simp [DV.cells] at hj
  | zero =>
   simp only [DV.cells,List.getElem?_cons_zero,Option.some.injEq] at hj
   subst hj
   refine ⟨_,rfl,?_⟩
   have hsz:∀ d ∈ L.map F,d.cells.length=sz:=fun d hd=>by obtain ⟨q,_,rfl⟩:=List.mem_map.1 hd;exact hF q
   have hcells:∀ j c,(flat (L.map F))[j]?=some c -> ∃ u,W.cell? (a.add j)=some u /\ Bn W (fun _=>False) c u:=fun j c hj=>by
    have hjl:=(List.getElem?_eq_some_iff.1 hj).1
    rw [JK _ sz hsz,List.length_map] at hjl
    have hi:j / sz < L.length:=by rw [Nat.div_lt_iff_lt_mul hpos];exact hjl
    have hj':j=j / sz * sz+j % sz:=by rw [Nat.mul_comm];exact (Nat.div_add_mod j sz).symm
    have hfg:=flat_get (L.map F) sz hsz (j / sz) (by simpa using hi) (j % sz) (Nat.mod_lt _ hpos)
    rw [<- hj',hj,List.getElem_map] at hfg
    obtain ⟨u,u1,u2⟩:=hLQ (j / sz) _ (List.getElem?_eq_getElem hi) (j % sz) c hfg.symm
    rw [<- hj'] at u1
    exact ⟨u,u1,u2⟩
   cases L with
   | nil =>
    have:len=0:=by simpa using hL.symm
    subst this
    exact .Cq _ _
   | cons q L =>
    have hfl:0 < (flat ((q :: L).map F)).length:=by
     rw [JK _ sz hsz]
     simp only [List.length_map,List.length_cons]
     exact Nat.mul_pos (Nat.succ_pos _) hpos
    obtain ⟨u0,hu0,_⟩:=hcells 0 _ (List.getElem?_eq_getElem hfl)
    obtain ⟨b,o,spot⟩:=a
    have hspot:spot=none:=by simpa [Addr.add] using World.cell?_spot hu0
    subst hspot
    have hb:b < W.heap.size:=by
     rw [add_plain] at hu0
     unfold World.cell? at hu0
     cases hh:W.heap[b]? with
     | none=>rw [hh] at hu0;simp at hu0
     | some ob=>exact (Array.getElem?_eq_some_iff.1 hh).1
    have jq:len=((q :: L).map F).length:=by rw [List.length_map];exact hL.symm
    rw [jq]
    refine .list _ b o cap sz (fun j=>(W.cell? ⟨b,o+j,none⟩).getD undef) (fun h=>h) hb (by omega) hsz (fun j c hj=>?_) fun j c hj=>?_
    ·obtain ⟨u,u1,_⟩:=hcells j c hj
     rw [add_plain] at u1
     rw [u1];rfl
    ·obtain ⟨u,u1,u2⟩:=hcells j c hj
     rw [add_plain] at u1
     rw [u1];exact u2
theorem Opens.conv (h:Opens enc P W t F) (hc:∀ a,∃ b,G b=F a):Opens enc P W t G:=fun fuel cs x hx=>by
 obtain ⟨a,h1,h2⟩:=h fuel cs x hx
 obtain ⟨b,hb⟩:=hc a
 exact ⟨b,by rw [hb];exact h1,by rw [hb];exact h2⟩
theorem eD {f0 f1:Field} (ht:P.underlying t=some (.struct #[f0,f1])) (o0:f0.offset=0) (o1:f1.offset=P.cellsOf f0.type) (hn:P.cellsOf t=P.cellsOf f0.type+P.cellsOf f1.type)
  (h0:Opens enc P W f0.type F) (h1:Opens enc P W f1.type G):Opens enc P W t (fun p:α × β=>.agg ((F p.1).cells ++ (G p.2).cells)):=by
 intro fuel cs x h
 obtain ⟨y0,y1,n,_,hl,r0,r1⟩:=trod_struct2 ht h
 obtain ⟨a,a1,a2⟩:=h0 _ _ _ r0
 obtain ⟨b,b1,b2⟩:=h1 _ _ _ r1
 rw [o0,List.drop_zero,List.length_take] at a1
 rw [o1,List.length_take,List.length_drop] at b1
 have ha:(F a).cells.length=P.cellsOf f0.type:=by omega
 refine ⟨(a,b),by show cs.length=((F a).cells ++ (G b).cells).length;rw [List.length_append];omega,fun j c hj=>?_⟩
 replace hj:((F a).cells ++ (G b).cells)[j]?=some c:=hj
 rcases Nat.lt_or_ge j (F a).cells.length with hlt | hge
 ·rw [List.getElem?_append_left hlt] at hj
  obtain ⟨u,u1,u2⟩:=a2 j c hj
  rw [o0,List.drop_zero,List.getElem?_take] at u1
  split at u1
  ·exact ⟨u,u1,u2⟩
  ·cases u1
 ·rw [List.getElem?_append_right hge] at hj
  obtain ⟨u,u1,u2⟩:=b2 _ c hj
  rw [o1,List.getElem?_take] at u1
  split at u1
  ·rw [List.getElem?_drop] at u1
   exact ⟨u,by rw [<- u1];congr 1;omega,u2⟩
  ·cases u1
theorem Vb (hone:∀ a,(F a).cells=[F a]) (h:Opens enc P W t F) {v:Value} (hv:v.cells=#[v]) {d:DataW H} {ps:List MemPlace} (hd:DataW.Trod enc P W 0 (fun _=>true) true t v d ps):∃ a,Bn W (fun _=>False) (F a) v:=by
 obtain ⟨fuel,hf⟩:=hd
 rw [hv] at hf
 obtain ⟨a,_,h2⟩:=h fuel _ _ hf
 obtain ⟨u,u1,u2⟩:=h2 0 (F a) (by rw [hone];rfl)
 simp only [List.getElem?_cons_zero,Option.some.injEq] at u1
 subst u1
 exact ⟨a,u2⟩
theorem sI {cells:α -> List DV} (hagg:∀ a,F a=.agg (cells a)) (h:Opens enc P W t F) {vs:Array Value} {d:DataW H} {ps:List MemPlace} (hd:DataW.Trod enc P W 0 (fun _=>true) true t (.agg vs) d ps):∃ a,Bn W (fun _=>False) (F a) (.agg vs):=by
 obtain ⟨fuel,hf⟩:=hd
 obtain ⟨a,h1,h2⟩:=h fuel _ _ hf
 refine ⟨a,?_⟩
 rw [hagg] at h1 h2 ⊢
 simp only [DV.cells,Value.cells] at h1 h2
 refine .agg _ _ (by simpa using h1) fun j c hj=>?_
 obtain ⟨u,u1,u2⟩:=h2 j c hj
 have:vs.getD j undef=u:=by
  simp only [Array.getElem?_toList] at u1
  simp [u1]
 rw [this]
 exact u2
end
end Go.Ab
set_option linter.all false
namespace Go.Ab
open Go.ChangeShapes Go.WideShapes Go.ChangeAt Go.RowKit
variable {H:Type} {enc:TypeId × Value -> H} {P:Program} {W:World} {t:TypeId} {α β γ:Type} {F:α -> DV} {G:β -> DV} {E:γ -> DV}
theorem WX {f0 f1 f2:Field} (ht:P.underlying t=some (.struct #[f0,f1,f2])) (o0:f0.offset=0) (o1:f1.offset=P.cellsOf f0.type) (o2:f2.offset=P.cellsOf f0.type+P.cellsOf f1.type) (hn:P.cellsOf t=P.cellsOf f0.type+P.cellsOf f1.type+P.cellsOf f2.type)
  (h0:Opens enc P W f0.type F) (h1:Opens enc P W f1.type G) (h2:Opens enc P W f2.type E):Opens enc P W t (fun p:α × β × γ=>.agg ((F p.1).cells ++ ((G p.2.1).cells ++ (E p.2.2).cells))):=by
 intro fuel cs x h
 obtain ⟨y0,y1,y2,n,_,hl,r0,r1,r2⟩:=Go.Deep.trod_struct3 ht h
 obtain ⟨a,a1,a2⟩:=h0 _ _ _ r0
 obtain ⟨b,b1,b2⟩:=h1 _ _ _ r1
 obtain ⟨e,e1,e2⟩:=h2 _ _ _ r2
 rw [o0,List.drop_zero,List.length_take] at a1
 rw [o1,List.length_take,List.length_drop] at b1
 rw [o2,List.length_take,List.length_drop] at e1
 have ha:(F a).cells.length=P.cellsOf f0.type:=by omega
 have hb:(G b).cells.length=P.cellsOf f1.type:=by omega
 refine ⟨(a,b,e),by show cs.length=((F a).cells ++ ((G b).cells ++ (E e).cells)).length;rw [List.length_append,List.length_append];omega,fun j c hj=>?_⟩
 replace hj:((F a).cells ++ ((G b).cells ++ (E e).cells))[j]?=some c:=hj
 rcases Nat.lt_or_ge j (F a).cells.length with hlt | hge
 ·rw [List.getElem?_append_left hlt] at hj
  obtain ⟨u,u1,u2⟩:=a2 j c hj
  rw [o0,List.drop_zero,List.getElem?_take] at u1
  split at u1
  ·exact ⟨u,u1,u2⟩
  ·cases u1
 ·rw [List.getElem?_append_right hge] at hj
  rcases Nat.lt_or_ge (j - (F a).cells.length) (G b).cells.length with hlt2 | hge2
  ·rw [List.getElem?_append_left hlt2] at hj
   obtain ⟨u,u1,u2⟩:=b2 _ c hj
   rw [o1,List.getElem?_take] at u1
   split at u1
   ·rw [List.getElem?_drop] at u1
    exact ⟨u,by rw [<- u1];congr 1;omega,u2⟩
   ·cases u1
  ·rw [List.getElem?_append_right hge2] at hj
   obtain ⟨u,u1,u2⟩:=e2 _ c hj
   rw [o2,List.getElem?_take] at u1
   split at u1
   ·rw [List.getElem?_drop] at u1
    exact ⟨u,by rw [<- u1];congr 1;omega,u2⟩
   ·cases u1
end Go.Ab
set_option maxRecDepth 100000
namespace Go.Proofs.YtjcecljhjailiaaGreatDoor
open Go.ChangeShapes Go.WideShapes Go.ChangeAt Go.RowKit Go.Ab Go.Ab.Tryz
theorem own:ownKnob Tryz.prog.godebug=none:=by kernel_rfl
theorem laid:laidOutB Tryz.prog=true:=by kernel_rfl
abbrev LJ:List (String × DataW Unit):=[("math/bits.deBruijn32tab",Rows.laid_math_bits_deBruijn32tab),("math/bits.deBruijn64tab",Rows.laid_math_bits_deBruijn64tab),("internal/strconv.uint64pow10",Rows.laid_internal_strconv_uint64pow10),("unicode/utf8.acceptRanges",Rows.laid_unicode_utf8_acceptRanges),("errors.errorType",Rows.laid_errors_errorType),("strconv.ErrRange",Rows.laid_strconv_ErrRange),("strconv.ErrSyntax",Rows.laid_strconv_ErrSyntax),("unicode/utf8.first",Rows.laid_unicode_utf8_first)]
abbrev NC:List (String × DataW Unit):=[("math/bits.deBruijn32tab",Rows.laid_math_bits_deBruijn32tab),("math/bits.deBruijn64tab",Rows.laid_math_bits_deBruijn64tab),("internal/strconv.uint64pow10",Rows.laid_internal_strconv_uint64pow10),("unicode/utf8.acceptRanges",Rows.laid_unicode_utf8_acceptRanges),("strconv.ErrRange",Rows.laid_strconv_ErrRange),("strconv.ErrSyntax",Rows.laid_strconv_ErrSyntax),("unicode/utf8.first",Rows.laid_unicode_utf8_first)]
theorem gTyp:Tryz.prog.globalNamed "errors.errorType"=some 0:=by kernel_rfl
theorem A0H:Tryz.prog.globalNamed "internal/strconv.uint64pow10"=some 2:=by kernel_rfl
theorem gSyn:Tryz.prog.globalNamed "strconv.ErrSyntax"=some 3:=by kernel_rfl
theorem gRan:Tryz.prog.globalNamed "strconv.ErrRange"=some 4:=by kernel_rfl
theorem tTab:(Tryz.prog.globals[2]?).map (·.type)=some 256 /\ Tryz.prog.underlying 256=some (.array 20 232) /\ Tryz.prog.underlying 232=some (.int .u64) /\ Tryz.prog.cellsOf 232=1 /\ Tryz.prog.cellsOf 256=20:=⟨by kernel_rfl,by kernel_rfl,by kernel_rfl,by kernel_rfl,by kernel_rfl⟩
theorem uX:(Tryz.prog.globals[3]?).map (·.type)=some 103 /\ (Tryz.prog.globals[4]?).map (·.type)=some 103 /\ ∃ ms,Tryz.prog.underlying 103=some (.interface ms):=by
 refine ⟨by kernel_rfl,by kernel_rfl,?_⟩
 have h:Wz Tryz.prog 103=true:=by kernel_rfl
 unfold Wz at h
 split at h
 ·exact ⟨_,by assumption⟩
 ·cases h
theorem tRow:(Tryz.prog.cutTypes.find? (·.1 == "internal/reflectlite.rtype")).map (·.2)=some 210:=by kernel_rfl
theorem vM:((List.range 306).filter fun t=>Tryz.prog.rowNamed t [101,114,114,111,114])=[103]:=by kernel_rfl
theorem yc:Tryz.prog.types.size=306:=by kernel_rfl
noncomputable def w00 (os:Os):World :=
 let w0:=World.holding Tryz.prog os ⟨#[],#[],[]⟩
 { w0 with heap:=w0.heap.modify 0 fun
   | .cells _ t frozen=>.cells #[.iface 210 (.agg #[.pointer (some ⟨9,103,none⟩)])] t frozen
   | o=>o }
noncomputable def J7 (os:Os):World:=(w00 os).layVars Tryz.prog NC
theorem ML (os:Os):(J7 os).os=os:=World.layVars_os _ _ _
theorem eZ (os:Os):laidMet Tryz.prog NC (J7 os):=by
 have e1:(NC.filter fun x=>(NC.map (·.1)).contains x.1)=NC:=List.filter_eq_self.2 fun x hx=>List.contains_iff_mem.2 (List.mem_map.2 ⟨x,hx,rfl⟩)
 have e2:(NC.filter fun x=>!(NC.map (·.1)).contains x.1)=[]:=List.filter_eq_nil_iff.2 fun x hx=>by rw [List.contains_iff_mem.2 (List.mem_map.2 ⟨x,hx,rfl⟩)];simp
 exact laidMet_layVars (w0:=w00 os) (NC.map (·.1)) [] (by rw [e1];rfl) (by rw [e1];kernel_rfl) (by rw [e1];kernel_rfl) (by rw [e2];exact LaidIn.none)
theorem NA (os:Os) (args:Array Value):laidMetH Tryz.prog LJ ((J7 os).forCall (fun _ _=>0) ⟨#[],args,[]⟩).memory :=
 laidMetH_of_parts ((eZ os).of_heap (by simp [World.memory,World.forCall,Input.heap])) (by kernel_rfl)
theorem Kn {g:Nat} (h:decide (g < Tryz.prog.globals.size)=true):g < Tryz.prog.globals.size:=of_decide_eq_true h
theorem I5 {W:World} (hs:W.ShapedOpen Tryz.prog) {g n:Nat} (hg:g < Tryz.prog.globals.size) (h0:((((begin Tryz.prog (fun _ _=>0) default).world.heap[g]?).bind Obj.row?).map (·.1.size))=some n):∃ cur t,W.heap[g]?=some (.cells cur t (0,0)) /\ cur.size=n:=by
 obtain ⟨⟨zero,t⟩,h,hz⟩:=Option.map_eq_some_iff.1 h0
 obtain ⟨cs,h1,h2,_⟩:=hs.1 g zero t hg h
 exact ⟨cs,t,h1,by rw [h2];exact hz⟩
theorem RA {W:World} {n nm:String} {d:DataW Unit} {r:List (String × DataW Unit)} {g:Nat} (h:laidMet Tryz.prog ((n,.iface nm d) :: r) W) (hg:Tryz.prog.globalNamed n=some g) (ht:(Tryz.prog.globals[g]?).map (·.type)=some 103):∃ v,W.cell? ⟨g,0,none⟩=some v /\ (v=.nilIface \/ ∃ t p,v=.iface t p):=by
 obtain ⟨ps,⟨g',t',cs,fuel,p,q,hg',ht',hvar,hd,_,_⟩,_⟩:=h
 obtain rfl:=Option.some.inj (hg.symm.trans hg')
 obtain rfl:=Option.some.inj (ht.symm.trans ht')
 obtain ⟨ms,hi⟩:=uX.2.2
 obtain ⟨_,u,v,hcs,_⟩:=iface_of_trod hi hd
 have h0:=World.var?_cell hg hvar 0
 refine ⟨.iface u v,?_,.inr ⟨u,v,rfl⟩⟩
 have h1:cs[0]?=some (.iface u v):=by
  rw [<- Array.getElem?_toList,hcs];rfl
 rw [h0];exact h1
theorem fG {W:World} (h:handlesMet Tryz.prog [("errors.errorType",Rows.laid_errors_errorType)] W):W.cell? ⟨0,0,none⟩=some (.iface 210 (.agg #[.pointer (some ⟨9,103,none⟩)])):=by
 obtain ⟨name,u,ty,e1,e2,e3,e4,e5⟩:=h _ (List.mem_singleton.2 rfl)
 have en:name=[101,114,114,111,114]:=(Option.some.inj e1).symm
 subst en
 obtain rfl:=Option.some.inj (tRow.symm.trans e2)
 have hm:ty ∈ (List.range 306).filter fun t=>Tryz.prog.rowNamed t [101,114,114,111,114]:=List.mem_filter.2 ⟨List.mem_range.2 (by rw [<- yc];exact e3),e4⟩
 rw [vM] at hm
 obtain rfl:=List.mem_singleton.1 hm
 have hh:typeHandle Tryz.prog 103=.pointer (some ⟨9,103,none⟩):=by kernel_rfl
 rw [hh] at e5
 simpa using World.var?_cell gTyp e5 0
theorem PY {W:World} (h:laidMetH Tryz.prog LJ W) (hs:W.ShapedOpen Tryz.prog):Laid W:=by
 have h':laidMet Tryz.prog NC W /\ handlesMet Tryz.prog [("errors.errorType",Rows.laid_errors_errorType)] W:=h
 obtain ⟨h,hH⟩:=h'
 obtain ⟨h1,h2,h3,h4,h5⟩:=tTab
 have hT:Lib.TabIs Tryz.prog W "internal/strconv.uint64pow10" .u64 Lc:=Lib.tabIs_of_head A0H h1 h2 h3 h4 h5 h.tail.tail
 have hR:=RA h.tail.tail.tail.tail gRan uX.2.1
 have hS:=RA h.tail.tail.tail.tail.tail gSyn uX.1
 obtain ⟨m,hm⟩:=cell_of_shapedOpen_int (g:=1) (t:=3) (zero:=#[.int .i64 0]) (k:=.i64) hs (Kn (by kernel_rfl)) (by kernel_rfl) (by kernel_rfl) (by kernel_rfl) (by kernel_rfl) Tryz.underlying3
 intro p hp
 simp only [FC,List.mem_cons,List.not_mem_nil,or_false] at hp
 rcases hp with rfl | rfl | rfl | rfl | rfl
 ·refine ⟨I5 hs (Kn (by kernel_rfl)) (by kernel_rfl),fun j C hj=>?_⟩
  match j,hj with
  | 0,hj=>simp only [List.getElem?_cons_zero,Option.some.injEq] at hj;subst hj;exact ⟨_,fG hH,rfl⟩
 ·refine ⟨I5 hs (Kn (by kernel_rfl)) (by kernel_rfl),fun j C hj=>?_⟩
  match j,hj with
  | 0,hj=>simp only [List.getElem?_cons_zero,Option.some.injEq] at hj;subst hj;exact ⟨_,hm,m,rfl⟩
 ·refine ⟨I5 hs (Kn (by kernel_rfl)) (by kernel_rfl),fun j C hj=>?_⟩
  have hlt:j < Lc.length:=by simpa using (List.getElem?_eq_some_iff.1 hj).1
  have:=hT.cell A0H j hlt
  rw [this]
  simp only [List.getElem?_map,Option.map_eq_some_iff] at hj
  obtain ⟨z,hz,rfl⟩:=hj
  exact ⟨_,rfl,by simp [List.getD,hz]⟩
 ·refine ⟨I5 hs (Kn (by kernel_rfl)) (by kernel_rfl),fun j C hj=>?_⟩
  match j,hj with
  | 0,hj=>simp only [List.getElem?_cons_zero,Option.some.injEq] at hj;subst hj;exact hS
 ·refine ⟨I5 hs (Kn (by kernel_rfl)) (by kernel_rfl),fun j C hj=>?_⟩
  match j,hj with
  | 0,hj=>simp only [List.getElem?_cons_zero,Option.some.injEq] at hj;subst hj;exact hR
theorem Hq {H:Type} {enc:TypeId × Value -> H} {a:Assume} {C:Checked} {os:Os} {f:FuncId} {fn:Func} {s:ChangeSpec} {conds:List PathCond} {apart fresh handsOn again:Bool} {X:World -> Array Value -> Prop}
  (hX:∀ (w w':World) (args:Array Value),w.heap=w'.heap -> X w args -> X w' args)
  (own:ownKnob C.prog.godebug=none) (started:os.Started) (noInit:C.prog.inits.idxOf? f=none) (hfn:C.prog.funcs[f]?=some fn)
  (witness:∃ (w:World) (tape:Tape) (i:Input),w.os=os /\ (w.forCall tape i).Shaped C.prog /\ i.vars=[] /\ Input.okWide C.prog (w.forCall tape i) .any w.heap.size f i ∧
   ((s.pre enc C.prog fn conds apart (w.forCall tape i).memory i.args /\ X (w.forCall tape i).memory i.args) /\ sizedMet enc C.prog fn (OpenSpec.ofChange s) apart (w.forCall tape i).memory i.args) /\ a.holds C.prog (lone (Frame.enter C.prog f i.args .normal) [] (w.forCall tape i)))
  (contract:∀ (W:World) (base:Nat) (args:Array Value) (ds gs:List (DataW H)) (before:List MemPlace),
   (∀ (j:Nat) t v,fn.params[j]?=some t -> args[j]?=some v -> Value.okWide C.prog W .any base t v) →
   DataW.Whole enc C.prog fn.params.toList s.vars apart W args.toList ds gs before -> X W args -> W.ShapedOpen C.prog →
   Calls C.prog f args W fun e W'=>∃ v,e=.returned v /\ s.post enc C.prog fn apart fresh handsOn again W args v W') :
  ReturnsInHanded a C os f .any (fun w args=>(s.pre enc C.prog fn conds apart w args /\ X w args) /\ sizedMet enc C.prog fn (OpenSpec.ofChange s) apart w args) (s.post enc C.prog fn apart fresh handsOn again):=by
 refine returnsInHanded_of_calls own started noInit witness ?_
 intro w tape i _ hsh _ hok hpre hholds
 obtain ⟨_,_,_,fn',hfn',_,_,_,_,hval⟩:=hok
 have e:fn'=fn:=Option.some.inj (hfn'.symm.trans hfn)
 subst e
 obtain ⟨⟨⟨ds,gs,before,hw,hc⟩,hx⟩,hz⟩:=hpre
 have hw':=DataW.Whole.of_heap (w':=w.forCall tape i) (by rfl) hw
 refine (contract (w.forCall tape i) w.heap.size i.args ds gs before hval hw' (hX _ _ _ (by rfl) hx) hsh).mono fun e W' ⟨v,he,hp⟩=>?_
 subst he
 exact ChangeSpec.post_blind hp
theorem arg_str {H:Type} {enc:TypeId × Value -> H} {W:World} {base:Nat} {v:Value} {d:DataW H} {ps:List MemPlace} (hv:Value.okWide Tryz.prog W .any base 9 v) (hd:DataW.Trod enc Tryz.prog W 0 (fun _=>true) true 9 v d ps):∃ T:Tx,Bn W (fun _=>False) (Cg T) v:=by
 obtain ⟨s,rfl⟩:=okWide_string Tryz.underlying9 hv
 obtain ⟨s',h⟩:=Vb (F:=fun s:ByteArray=>DV.str s) (fun _=>rfl) (TS Tryz.underlying9) rfl hd
 exact ⟨s'.data.toList,by show Bn W (fun _=>False) (DV.str (bs _)) _;rw [Pt];exact h⟩
theorem sH {H:Type} {enc:TypeId × Value -> H} {W:World} {base:Nat} {v:Value} {d:DataW H} {ps:List MemPlace} (hv:Value.okWide Tryz.prog W .any base 3 v) (hd:DataW.Trod enc Tryz.prog W 0 (fun _=>true) true 3 v d ps):∃ n,Bn W (fun _=>False) (i64 n) v:=by
 obtain ⟨n,rfl,_⟩:=okWide_int Tryz.underlying3 hv
 exact Vb (F:=fun n:Int=>i64 n) (fun _=>rfl) (JE Tryz.underlying3) rfl hd
theorem eB {H:Type} (enc:TypeId × Value -> H) (W:World):Opens enc Tryz.prog W 30 GL :=
 Jd (F:=Cg) (sz:=1) Tryz.underlying30 (by kernel_rfl) (by decide) (fun _=>rfl) ((TS Tryz.underlying9).conv fun s=>⟨s.data.toList,by show DV.str (bs _)=_;rw [Pt]⟩)
theorem Qv {W:World} {base:Nat} {l:List DV} {v:Value} {t e:TypeId} (ht:Tryz.prog.underlying t=some (.slice e)) (h:Bn W (fun _=>False) (.list l) v) (hc:Cell.okWide Tryz.prog W .any base t v):l.length <= 9223372036854775807:=by
 cases h with
 | Cq a cap=>exact Nat.zero_le _
 | list _ b off cap C8 u h1 h2 h3 h4 h5 h6 =>
  simp only [Cell.okWide,ht,Cell.ok] at hc
  have h7:(cap:Int) <= 9223372036854775807:=hc.2.1
  omega
theorem sG {H:Type} {enc:TypeId × Value -> H} {W:World} {base:Nat} {v:Value} {d:DataW H} {ps:List MemPlace} (hv:Value.okWide Tryz.prog W .any base 30 v) (hd:DataW.Trod enc Tryz.prog W 0 (fun _=>true) true 30 v d ps):∃ L:List Tx,Bn W (fun _=>False) (GL L) v /\ L.length <= 9223372036854775807:=by
 have hv2:=hv
 obtain ⟨a,len,cap,rfl⟩:=okWide_slice Tryz.underlying30 hv
 obtain ⟨L,h⟩:=Vb (fun _=>rfl) (eB enc W) rfl hd
 refine ⟨L,h,?_⟩
 have hc:Cell.okWide Tryz.prog W .any base 30 (.slice a len cap):=by
  simpa only [Value.okWide,Tryz.underlying30] using hv2
 have:=Qv Tryz.underlying30 h hc
 simpa using this
end Go.Proofs.YtjcecljhjailiaaGreatDoor
