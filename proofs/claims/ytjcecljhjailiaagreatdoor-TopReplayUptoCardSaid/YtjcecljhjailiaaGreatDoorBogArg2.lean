/- The bog laws' arguments: a firm. -/
import Derived.Test.YtjcecljhjailiaaGreatDoorBogG13
import Derived.Test.YtjcecljhjailiaaGreatDoorBogS5
set_option linter.all false
set_option maxRecDepth 100000
namespace Go.Ab
open Go.ChangeShapes Go.WideShapes Go.ChangeAt Go.RowKit
variable {α H:Type} {enc:TypeId × Value -> H} {P:Program} {W:World} {t:TypeId} {F:α -> DV}
theorem eF {f0:Field} (ht:P.underlying t=some (.struct #[f0])) (o0:f0.offset=0) (hn:P.cellsOf t=P.cellsOf f0.type) (h0:Opens enc P W f0.type F):Opens enc P W t (fun a=>.agg (F a).cells):=by
 intro fuel cs x h
 obtain ⟨y0,n,_,hl,r0⟩:=trod_struct1 ht h
 obtain ⟨a,a1,a2⟩:=h0 _ _ _ r0
 rw [o0,List.drop_zero,List.length_take] at a1
 refine ⟨a,by show cs.length=(F a).cells.length;omega,fun j c hj=>?_⟩
 replace hj:(F a).cells[j]?=some c:=hj
 obtain ⟨u,u1,u2⟩:=a2 j c hj
 rw [o0,List.drop_zero,List.getElem?_take] at u1
 split at u1
 ·exact ⟨u,u1,u2⟩
 ·cases u1
end Go.Ab
namespace Go.Proofs.YtjcecljhjailiaaGreatDoor
open Go.ChangeShapes Go.WideShapes Go.ChangeAt Go.RowKit Go.Ab Go.Ab.Tryz Go.Ab.Gi
open Go.Ab.Heap (Hp GX)
theorem Ld {H:Type} (enc:TypeId × Value -> H) (W:World):Opens enc Tryz.prog W 25 ints:=Jd (sz:=1) Tryz.underlying25 (by kernel_rfl) (by decide) (fun _=>rfl) (JE Tryz.underlying3)
theorem WZ {H:Type} (enc:TypeId × Value -> H) (W:World):Opens enc Tryz.prog W 24 RX :=
 (eF Tryz.underlying24 rfl (by kernel_rfl) (Jd (sz:=1) Tryz.underlying22 (by kernel_rfl) (by decide) (fun _=>rfl) (Ld enc W))).conv fun p=>⟨⟨p⟩,rfl⟩
theorem WY {H:Type} (enc:TypeId × Value -> H) (W:World):Opens enc Tryz.prog W 27 GX :=
 (eD Tryz.underlying27 rfl (by kernel_rfl) (by kernel_rfl) (Jd (sz:=1) Tryz.underlying22 (by kernel_rfl) (by decide) (fun _=>rfl) (Ld enc W)) (Ld enc W)).conv fun p=>⟨⟨p.1,p.2⟩,rfl⟩
theorem jL {H:Type} (enc:TypeId × Value -> H) (W:World):Opens enc Tryz.prog W 29 (fun f:Fm=>Vk f) :=
 (WX Tryz.underlying29 rfl (by kernel_rfl) (by kernel_rfl) (by kernel_rfl) (WZ enc W) (WY enc W) (JE (k:=.i64) Tryz.underlying3)).conv fun p=>⟨⟨p.1,p.2.1,p.2.2⟩,rfl⟩
theorem Xq:Tryz.prog.cellTypes Tryz.prog.depth 29=some [22,22,25,3]:=by kernel_rfl
theorem mR {H:Type} {enc:TypeId × Value -> H} {W:World} {base:Nat} {v:Value} {d:DataW H} {ps:List MemPlace} (hv:Value.okWide Tryz.prog W .any base 29 v) (hd:DataW.Trod enc Tryz.prog W 0 (fun _=>true) true 29 v d ps):∃ f:Fm,Bn W (fun _=>False) (Vk f) v /\ LV f:=by
 have hv2:=hv
 obtain ⟨cs,rfl,_⟩:=okWide_struct Tryz.underlying29 hv
 obtain ⟨y,hy⟩:=sI (fun _=>rfl) (jL enc W) hd
 refine ⟨y,hy,?_⟩
 cases hy with
 | agg _ _ hsz hcs =>
  have h0:=hcs 0 _ rfl
  have h1:=hcs 1 _ rfl
  simp only [Value.okWide,Tryz.underlying29] at hv2
  obtain ⟨cs',e1,_,ts,e3,_,e5⟩:=hv2
  rw [Xq] at e3
  obtain rfl:=Option.some.inj e3
  cases e1
  have hl0:0 < cs.size:=by rw [hsz];simp
  have hl1:1 < cs.size:=by rw [hsz];simp
  have hg0:cs[0]?=some (cs.getD 0 undef):=by simp [hl0]
  have hg1:cs[1]?=some (cs.getD 1 undef):=by simp [hl1]
  obtain ⟨u,u1,u2⟩:=e5 0 _ hg0
  obtain ⟨z,z1,z2⟩:=e5 1 _ hg1
  obtain rfl:22=u:=by simpa using u1
  obtain rfl:22=z:=by simpa using z1
  have a1:=Qv Tryz.underlying22 h0 u2
  have a2:=Qv Tryz.underlying22 h1 z2
  exact ⟨by simpa using a1,by simpa using a2⟩
end Go.Proofs.YtjcecljhjailiaaGreatDoor
