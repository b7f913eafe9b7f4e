/- TopCompany: the statement, without conditions; its tied card. -/
import Derived.Test.YtjcecljhjailiaaGreatDoorRows
import Derived.Test.YtjcecljhjailiaaGreatDoorTie
import Derived.Test.YtjcecljhjailiaaGreatDoorCards
import Derived.SevenTiedAt
import Derived.Lay
import Derived.Test.YtjcecljhjailiaaGreatDoorBogG13
import Derived.Test.YtjcecljhjailiaaGreatDoorBogKit
import Derived.Test.YtjcecljhjailiaaGreatDoorBogV2
import Derived.Test.YtjcecljhjailiaaGreatDoorBogArg2
set_option linter.all false
namespace Go.Proofs.YtjcecljhjailiaaGreatDoor
open Go.ChangeShapes Go.WideShapes Go.ChangeAt Go.RowKit Go.Ab Go.Ab.Tryz
set_option maxRecDepth 100000 in
theorem MS (os:Os) (started:os.Started) (H:Type) (enc:TypeId × Value -> H) :
  ReturnsInHanded {} Tryz.checked os 17 .any (fun w args=>(Rows.topCompanySpec.pre enc Tryz.prog Tryz.f17 [] false w args /\ laidMetH Tryz.prog LJ w) /\ sizedMet enc Tryz.prog Tryz.f17 (OpenSpec.ofChange Rows.topCompanySpec) false w args)
   (Rows.topCompanySpec.post enc Tryz.prog Tryz.f17 false true false false):=by
 refine Hq (C:=Tryz.checked) (X:=fun w _=>laidMetH Tryz.prog LJ w) (fun _ _ _ hh h=>h.of_heap hh) own started (by kernel_rfl) Tryz.func17
  (ChangeSpec.witness_shaped (enc:=enc) (C:=Tryz.checked) (os:=os) (X:=fun w _=>laidMetH Tryz.prog LJ w) false (J7 os) #[.agg #[.slice none 0 0,.slice none 0 0,.slice none 0 0,.int .i64 0],.slice none 0 0,.int .i64 0] 8 (ML _) (World.shaped_of_ZipB (by kernel_rfl) (by kernel_rfl)) (by kernel_rfl) (by kernel_rfl) (by kernel_rfl) (NA os _)) ?_
 intro W base args ds gs before hval0 hW hL hsh
 have hval:∀ (j:Nat) t v,Tryz.f17.params[j]?=some t -> args[j]?=some v -> Value.okWide Tryz.prog W .any base t v:=hval0
 have hW':=hW
 obtain ⟨p,q,aj,hV,rfl,hfz,hnd⟩:=hW
 have hA:DataW.TrodAll enc Tryz.prog W 0 (fun _=>true) true Tryz.f17.params.toList args.toList ds p:=aj
 rw [Tryz.params17] at hA hval
 obtain ⟨v0,v1,v2,d0,d1,d2,p0,p1,p2,rfl,rfl,rfl,h0,h1,h2⟩:=trodAll_three hA
 obtain ⟨rfl,rfl⟩:=trodVars_none hV
 obtain ⟨a0,ha0,hk0⟩:=mR (hval 0 29 v0 rfl rfl) h0
 obtain ⟨a1,ha1,hk1⟩:=sG (hval 1 30 v1 rfl rfl) h1
 obtain ⟨a2,ha2⟩:=sH (hval 2 3 v2 rfl rfl) h2
 refine ((f17 a0 hk0 a1 hk1 a2).2 W #[v0,v1,v2] (PY hL hsh) ⟨rfl,fun j d hj=>?_⟩).mono fun e W' ⟨v,he,hb,ob,hr1,hr⟩=>?_
 ·match j,hj with
  | 0,hj=>simp only [List.getElem?_cons_zero,Option.some.injEq] at hj;subst hj;exact ha0
  | 1,hj=>simp only [List.getElem?_cons_succ,List.getElem?_cons_zero,Option.some.injEq] at hj;subst hj;exact ha1
  | 2,hj=>simp only [List.getElem?_cons_succ,List.getElem?_cons_zero,Option.some.injEq] at hj;subst hj;exact ha2
 ·subst he
  cases hr
  exact ⟨_,rfl,N9 laid (by rw [Tryz.params17];intro t ht;simp only [List.mem_cons,List.not_mem_nil,or_false] at ht;rcases ht with rfl | rfl | rfl<;>exact ⟨by kernel_rfl,of_decide_eq_true (by kernel_rfl)⟩) (by kernel_rfl) Tryz.underlying4 rfl hW' rfl rfl rfl hb⟩
theorem SF:Rows.topCompanyRow.wf (OpenSpec.ofChange Rows.topCompanySpec)=true:=by kernel_rfl
theorem SE:(Rows.topCompanyRow.inPlace == Tryz.prog.inPlace 17)=true:=by kernel_rfl
theorem QG:(Rows.topCompanyRow.unfollowed == Tryz.prog.unfollowed 17)=true:=by kernel_rfl
theorem QF:(Rows.topCompanyRow.recurses == Tryz.prog.recurses 17)=true:=by kernel_rfl
theorem QE:(Rows.topCompanyRow.named == Tryz.prog.varsNamed 17)=true:=by kernel_rfl
theorem QD:Rows.topCompanyRow.veiledFits Tryz.prog Tryz.f17.params.toList (Tryz.f17.params.toList ++ Rows.topCompanySpec.plain.varTypes Tryz.prog ++ Tryz.f17.resultTypes.toList)=true:=by kernel_rfl
theorem MU:joinedFacts Tryz.prog 17 Tryz.f17 Rows.topCompanySpec Rows.topCompanyRow=true :=
 Kj SF Jf Gr (by kernel_rfl) (by kernel_rfl) (by kernel_rfl) ND (by kernel_rfl) Gp SE QG QF QE
  (by kernel_rfl) (by kernel_rfl) (by kernel_rfl) (by kernel_rfl) (by kernel_rfl) (by kernel_rfl) (by kernel_rfl) (by kernel_rfl) (by kernel_rfl) Gq (by kernel_rfl) GA Ii Ki Pg (by kernel_rfl) (by kernel_rfl) (by kernel_rfl) QD
theorem P8:false=Rows.topCompanyRow.goesBy Tryz.prog:=by kernel_rfl
theorem topCompany_row_holds:Rows.TopCompanySaid :=
 OpenClaim.holds_of_wide 17 Tryz.f17 rfl rfl rfl rfl rfl rfl rfl ⟨rfl,rfl,rfl,rfl,rfl⟩ rfl rfl rfl rfl rfl (by kernel_rfl) Tryz.func17 MU
  (of_decide_eq_true (by kernel_rfl)) (by unfold Func.isWrapper;first | (rw [if_pos (by decide +kernel)];kernel_rfl) | (rw [if_neg (by decide +kernel)];exact ⟨rfl,rfl⟩))
  (fun os started H enc _=>MS os started H enc)
theorem topCompany_holds:Rows.TopCompanyCardSaid :=
 Claim7.holds_tied_plain_at .later [] [.data,.data,.data,.data,.handle,.sentinel,.sentinel,.pinned] true (true,"3db829cce18005878e8754b8e59e180ceed115a91828322c6a281b16f2fc2ec3") true
  topCompany_row_holds (fun _ h=>by cases h) (by kernel_rfl) (fun _ h=>by cases h) topCompany_row_tie rfl ⟨rfl,rfl⟩ Ph rfl
  (fun f fn hf hfn=>by
   obtain rfl:f=17:=Option.some.inj ((show Tryz.prog.funcNamed "turbary/turbarytop.TopCompany"=some 17 by kernel_rfl).symm.trans hf) |>.symm
   obtain rfl:fn=Tryz.f17:=(Option.some.inj (Tryz.func17.symm.trans hfn)).symm
   exact ⟨NG,fun j t ht=>by
    rw [Tryz.params17] at ht
    have hm:t ∈ [29,30,3]:=by simpa using Array.mem_of_getElem? ht
    have hall:([29,30,3].all fun u=>!Tryz.prog.wantsStandIn u)=true:=by kernel_rfl
    exact (show Tryz.prog.wantsStandIn t=false by simpa using List.all_eq_true.1 hall t hm)⟩)
  P8
-- axioms of topCompany_holds
end Go.Proofs.YtjcecljhjailiaaGreatDoor
