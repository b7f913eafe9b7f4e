/- BogNews: the statement, without conditions; its tied card. -/
import Derived.Test.YtjcecljhjailiaaGreatDoorRows
import Derived.Test.YtjcecljhjailiaaGreatDoorTie
import Derived.Test.YtjcecljhjailiaaGreatDoorCards
import Derived.SevenTiedAt
import Derived.Lay
import Derived.Test.YtjcecljhjailiaaGreatDoorBogG13
import Derived.Test.YtjcecljhjailiaaGreatDoorBogKit
import Derived.Test.YtjcecljhjailiaaGreatDoorBogU7
import Derived.Test.YtjcecljhjailiaaGreatDoorBogArg2
set_option linter.all false
namespace Go.Proofs.YtjcecljhjailiaaGreatDoor
open Go.ChangeShapes Go.WideShapes Go.ChangeAt Go.RowKit Go.Ab Go.Ab.Tryz
set_option maxRecDepth 100000 in
theorem Ri (os:Os) (started:os.Started) (H:Type) (enc:TypeId × Value -> H) :
  ReturnsInHanded {} Tryz.checked os 14 .any (fun w args=>(Rows.bogNewsSpec.pre enc Tryz.prog Tryz.f14 [] false w args /\ laidMetH Tryz.prog LJ w) /\ sizedMet enc Tryz.prog Tryz.f14 (OpenSpec.ofChange Rows.bogNewsSpec) false w args)
   (Rows.bogNewsSpec.post enc Tryz.prog Tryz.f14 false true false false):=by
 refine Hq (C:=Tryz.checked) (X:=fun w _=>laidMetH Tryz.prog LJ w) (fun _ _ _ hh h=>h.of_heap hh) own started (by kernel_rfl) Tryz.func14
  (ChangeSpec.witness_shaped (enc:=enc) (C:=Tryz.checked) (os:=os) (X:=fun w _=>laidMetH Tryz.prog LJ w) false (J7 os) #[.agg #[.slice none 0 0,.slice none 0 0,.slice none 0 0,.int .i64 0],.string ⟨#[]⟩] 8 (ML _) (World.shaped_of_ZipB (by kernel_rfl) (by kernel_rfl)) (by kernel_rfl) (by kernel_rfl) (by kernel_rfl) (NA os _)) ?_
 intro W base args ds gs before hval0 hW hL hsh
 have hval:∀ (j:Nat) t v,Tryz.f14.params[j]?=some t -> args[j]?=some v -> Value.okWide Tryz.prog W .any base t v:=hval0
 have hW':=hW
 obtain ⟨p,q,aj,hV,rfl,hfz,hnd⟩:=hW
 have hA:DataW.TrodAll enc Tryz.prog W 0 (fun _=>true) true Tryz.f14.params.toList args.toList ds p:=aj
 rw [Tryz.params14] at hA hval
 obtain ⟨v0,v1,d0,d1,p0,p1,rfl,rfl,rfl,h0,h1⟩:=trodAll_two hA
 obtain ⟨rfl,rfl⟩:=trodVars_none hV
 obtain ⟨a0,ha0,hk0⟩:=mR (hval 0 29 v0 rfl rfl) h0
 obtain ⟨a1,ha1⟩:=arg_str (hval 1 9 v1 rfl rfl) h1
 refine ((f14 a0 hk0 a1).2 W #[v0,v1] (PY hL hsh) ⟨rfl,fun j d hj=>?_⟩).mono fun e W' ⟨v,he,hb,ob,hr1,hr⟩=>?_
 ·match j,hj with
  | 0,hj=>simp only [List.getElem?_cons_zero,Option.some.injEq] at hj;subst hj;exact ha0
  | 1,hj=>simp only [List.getElem?_cons_succ,List.getElem?_cons_zero,Option.some.injEq] at hj;subst hj;exact ha1
 ·subst he
  cases hr
  exact ⟨_,rfl,N9 laid (by rw [Tryz.params14];intro t ht;simp only [List.mem_cons,List.not_mem_nil,or_false] at ht;rcases ht with rfl | rfl<;>exact ⟨by kernel_rfl,of_decide_eq_true (by kernel_rfl)⟩) (by kernel_rfl) Tryz.underlying4 rfl hW' rfl rfl rfl hb⟩
theorem Zc:Rows.bogNewsRow.wf (OpenSpec.ofChange Rows.bogNewsSpec)=true:=by kernel_rfl
theorem Zb:(Rows.bogNewsRow.inPlace == Tryz.prog.inPlace 14)=true:=by kernel_rfl
theorem Y4:(Rows.bogNewsRow.unfollowed == Tryz.prog.unfollowed 14)=true:=by kernel_rfl
theorem Y3:(Rows.bogNewsRow.recurses == Tryz.prog.recurses 14)=true:=by kernel_rfl
theorem Y2:(Rows.bogNewsRow.named == Tryz.prog.varsNamed 14)=true:=by kernel_rfl
theorem Y1:Rows.bogNewsRow.veiledFits Tryz.prog Tryz.f14.params.toList (Tryz.f14.params.toList ++ Rows.bogNewsSpec.plain.varTypes Tryz.prog ++ Tryz.f14.resultTypes.toList)=true:=by kernel_rfl
theorem Rj:joinedFacts Tryz.prog 14 Tryz.f14 Rows.bogNewsSpec Rows.bogNewsRow=true :=
 Kj Zc Jf Gr (by kernel_rfl) (by kernel_rfl) (by kernel_rfl) ND (by kernel_rfl) Gp Zb Y4 Y3 Y2
  (by kernel_rfl) (by kernel_rfl) (by kernel_rfl) (by kernel_rfl) (by kernel_rfl) (by kernel_rfl) (by kernel_rfl) (by kernel_rfl) (by kernel_rfl) Gq (by kernel_rfl) GA Ii Ki Pg (by kernel_rfl) (by kernel_rfl) (by kernel_rfl) Y1
theorem VW:false=Rows.bogNewsRow.goesBy Tryz.prog:=by kernel_rfl
theorem bogNews_row_holds:Rows.BogNewsSaid :=
 OpenClaim.holds_of_wide 14 Tryz.f14 rfl rfl rfl rfl rfl rfl rfl ⟨rfl,rfl,rfl,rfl,rfl⟩ rfl rfl rfl rfl rfl (by kernel_rfl) Tryz.func14 Rj
  (of_decide_eq_true (by kernel_rfl)) (by unfold Func.isWrapper;first | (rw [if_pos (by decide +kernel)];kernel_rfl) | (rw [if_neg (by decide +kernel)];exact ⟨rfl,rfl⟩))
  (fun os started H enc _=>Ri os started H enc)
theorem bogNews_holds:Rows.BogNewsCardSaid :=
 Claim7.holds_tied_plain_at .later [] [.data,.data,.data,.data,.handle,.sentinel,.sentinel,.pinned] true (true,"3db829cce18005878e8754b8e59e180ceed115a91828322c6a281b16f2fc2ec3") true
  bogNews_row_holds (fun _ h=>by cases h) (by kernel_rfl) (fun _ h=>by cases h) bogNews_row_tie rfl ⟨rfl,rfl⟩ Ph rfl
  (fun f fn hf hfn=>by
   obtain rfl:f=14:=Option.some.inj ((show Tryz.prog.funcNamed "turbary/turbarylaw09.BogNews"=some 14 by kernel_rfl).symm.trans hf) |>.symm
   obtain rfl:fn=Tryz.f14:=(Option.some.inj (Tryz.func14.symm.trans hfn)).symm
   exact ⟨NG,fun j t ht=>by
    rw [Tryz.params14] at ht
    have hm:t ∈ [29,9]:=by simpa using Array.mem_of_getElem? ht
    have hall:([29,9].all fun u=>!Tryz.prog.wantsStandIn u)=true:=by kernel_rfl
    exact (show Tryz.prog.wantsStandIn t=false by simpa using List.all_eq_true.1 hall t hm)⟩)
  VW
-- axioms of bogNews_holds
end Go.Proofs.YtjcecljhjailiaaGreatDoor
