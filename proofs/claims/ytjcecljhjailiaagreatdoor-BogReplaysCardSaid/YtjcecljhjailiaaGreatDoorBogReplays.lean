/- BogReplays: the statement, without conditions; its tied card. -/
import Derived.Test.YtjcecljhjailiaaGreatDoorRows
import Derived.Test.YtjcecljhjailiaaGreatDoorTie
import Derived.Test.YtjcecljhjailiaaGreatDoorCards
import Derived.SevenTiedAt
import Derived.Lay
import Derived.Test.YtjcecljhjailiaaGreatDoorBogG13
import Derived.Test.YtjcecljhjailiaaGreatDoorBogKit
import Derived.Test.YtjcecljhjailiaaGreatDoorBogU6
import Derived.Test.YtjcecljhjailiaaGreatDoorBogArg2
set_option linter.all false
namespace Go.Proofs.YtjcecljhjailiaaGreatDoor
open Go.ChangeShapes Go.WideShapes Go.ChangeAt Go.RowKit Go.Ab Go.Ab.Tryz
set_option maxRecDepth 100000 in
theorem P9 (os:Os) (started:os.Started) (H:Type) (enc:TypeId × Value -> H) :
  ReturnsInHanded {} Tryz.checked os 11 .any (fun w args=>(Rows.bogReplaysSpec.pre enc Tryz.prog Tryz.f11 [] false w args /\ laidMetH Tryz.prog Ey w) /\ sizedMet enc Tryz.prog Tryz.f11 (OpenSpec.ofChange Rows.bogReplaysSpec) false w args)
   (Rows.bogReplaysSpec.post enc Tryz.prog Tryz.f11 false true false false):=by
 refine Ce (C:=Tryz.checked) (X:=fun w _=>laidMetH Tryz.prog Ey w) (fun _ _ _ hh h=>h.of_heap hh) own started (by kernel_rfl) Tryz.func11
  (ChangeSpec.witness_shaped (enc:=enc) (C:=Tryz.checked) (os:=os) (X:=fun w _=>laidMetH Tryz.prog Ey w) false (LP os) #[.agg #[.slice none 0 0,.slice none 0 0,.slice none 0 0,.int .i64 0],.slice none 0 0,.int .i64 0] 8 (Hz _) (World.shaped_of_ZipB (by kernel_rfl) (by kernel_rfl)) (by kernel_rfl) (by kernel_rfl) (by kernel_rfl) (I8 os _)) ?_
 intro W base args ds gs before hval0 hW hL hsh
 have hval:∀ (j:Nat) t v,Tryz.f11.params[j]?=some t -> args[j]?=some v -> Value.okWide Tryz.prog W .any base t v:=hval0
 have hW':=hW
 obtain ⟨p,q,Uo,hV,rfl,hfz,hnd⟩:=hW
 have hA:DataW.TrodAll enc Tryz.prog W 0 (fun _=>true) true Tryz.f11.params.toList args.toList ds p:=Uo
 rw [Tryz.params11] at hA hval
 obtain ⟨v0,v1,v2,d0,d1,d2,p0,p1,p2,rfl,rfl,rfl,h0,h1,h2⟩:=trodAll_three hA
 obtain ⟨rfl,rfl⟩:=trodVars_none hV
 obtain ⟨a0,ha0,hk0⟩:=MB (hval 0 29 v0 rfl rfl) h0
 obtain ⟨a1,ha1,hk1⟩:=Kv (hval 1 30 v1 rfl rfl) h1
 obtain ⟨a2,ha2⟩:=wC (hval 2 3 v2 rfl rfl) h2
 refine ((f11 a0 hk0 a1 hk1 a2).2 W #[v0,v1,v2] (JY hL hsh) ⟨rfl,fun j d hj=>?_⟩).mono fun e W' ⟨v,he,hb,ob,hr1,hr⟩=>?_
 ·match j,hj with
  | 0,hj=>simp only [List.getElem?_cons_zero,Option.some.injEq] at hj;subst hj;exact ha0
  | 1,hj=>simp only [List.getElem?_cons_succ,List.getElem?_cons_zero,Option.some.injEq] at hj;subst hj;exact ha1
  | 2,hj=>simp only [List.getElem?_cons_succ,List.getElem?_cons_zero,Option.some.injEq] at hj;subst hj;exact ha2
 ·subst he
  cases hr
  exact ⟨_,rfl,I7 laid (by rw [Tryz.params11];intro t ht;simp only [List.mem_cons,List.not_mem_nil,or_false] at ht;rcases ht with rfl | rfl | rfl<;>exact ⟨by kernel_rfl,of_decide_eq_true (by kernel_rfl)⟩) (by kernel_rfl) Tryz.underlying4 rfl hW' rfl rfl rfl hb⟩
theorem VA:Rows.bogReplaysRow.wf (OpenSpec.ofChange Rows.bogReplaysSpec)=true:=by kernel_rfl
theorem V9:(Rows.bogReplaysRow.inPlace == Tryz.prog.inPlace 11)=true:=by kernel_rfl
theorem UF:(Rows.bogReplaysRow.unfollowed == Tryz.prog.unfollowed 11)=true:=by kernel_rfl
theorem UE:(Rows.bogReplaysRow.recurses == Tryz.prog.recurses 11)=true:=by kernel_rfl
theorem UD:(Rows.bogReplaysRow.named == Tryz.prog.varsNamed 11)=true:=by kernel_rfl
theorem UC:Rows.bogReplaysRow.veiledFits Tryz.prog Tryz.f11.params.toList (Tryz.f11.params.toList ++ Rows.bogReplaysSpec.plain.varTypes Tryz.prog ++ Tryz.f11.resultTypes.toList)=true:=by kernel_rfl
theorem PD:joinedFacts Tryz.prog 11 Tryz.f11 Rows.bogReplaysSpec Rows.bogReplaysRow=true :=
 GZ VA FX EZ (by kernel_rfl) (by kernel_rfl) (by kernel_rfl) I9 (by kernel_rfl) EX V9 UF UE UD
  (by kernel_rfl) (by kernel_rfl) (by kernel_rfl) (by kernel_rfl) (by kernel_rfl) (by kernel_rfl) (by kernel_rfl) (by kernel_rfl) (by kernel_rfl) EY (by kernel_rfl) EF Ez GY Jb (by kernel_rfl) (by kernel_rfl) (by kernel_rfl) UC
theorem R8:false=Rows.bogReplaysRow.goesBy Tryz.prog:=by kernel_rfl
theorem bogReplays_row_holds:Rows.BogReplaysSaid :=
 OpenClaim.holds_of_wide 11 Tryz.f11 rfl rfl rfl rfl rfl rfl rfl ⟨rfl,rfl,rfl,rfl,rfl⟩ rfl rfl rfl rfl rfl (by kernel_rfl) Tryz.func11 PD
  (of_decide_eq_true (by kernel_rfl)) (by unfold Func.isWrapper;first | (rw [if_pos (by decide +kernel)];kernel_rfl) | (rw [if_neg (by decide +kernel)];exact ⟨rfl,rfl⟩))
  (fun os started H enc _=>P9 os started H enc)
theorem bogReplays_holds:Rows.BogReplaysCardSaid :=
 Claim7.holds_tied_plain_at .later [] [.data,.data,.data,.data,.handle,.sentinel,.sentinel,.pinned] true (true,"3db829cce18005878e8754b8e59e180ceed115a91828322c6a281b16f2fc2ec3") true
  bogReplays_row_holds (fun _ h=>by cases h) (by kernel_rfl) (fun _ h=>by cases h) bogReplays_row_tie rfl ⟨rfl,rfl⟩ Jc rfl
  (fun f fn hf hfn=>by
   obtain rfl:f=11:=Option.some.inj ((show Tryz.prog.funcNamed "turbary/turbarylaw09.BogReplays"=some 11 by kernel_rfl).symm.trans hf) |>.symm
   obtain rfl:fn=Tryz.f11:=(Option.some.inj (Tryz.func11.symm.trans hfn)).symm
   exact ⟨IB,fun j t ht=>by
    rw [Tryz.params11] at ht
    have hm:t ∈ [29,30,3]:=by simpa using Array.mem_of_getElem? ht
    have hall:([29,30,3].all fun u=>!Tryz.prog.wantsStandIn u)=true:=by kernel_rfl
    exact (show Tryz.prog.wantsStandIn t=false by simpa using List.all_eq_true.1 hall t hm)⟩)
  R8
-- axioms of bogReplays_holds
end Go.Proofs.YtjcecljhjailiaaGreatDoor
