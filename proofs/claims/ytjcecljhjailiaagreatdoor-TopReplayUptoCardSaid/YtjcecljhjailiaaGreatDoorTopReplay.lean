/- TopReplay, where the arguments are of bulk at most 1048576: the second form's statement, without further conditions; its tied card. -/
import Derived.Test.YtjcecljhjailiaaGreatDoorRows
import Derived.Test.YtjcecljhjailiaaGreatDoorTie
import Derived.Test.YtjcecljhjailiaaGreatDoorCards
import Derived.SevenTiedAt
import Derived.Lay
import Derived.JoinedCond
import Derived.Deep.DeepHandedRow
import Derived.Test.YtjcecljhjailiaaGreatDoorBogArg3
import Derived.Test.YtjcecljhjailiaaGreatDoorBogKit
import Derived.Test.YtjcecljhjailiaaGreatDoorBogU9
set_option linter.all false
namespace Go.Proofs.YtjcecljhjailiaaGreatDoor
open Go.ChangeShapes Go.WideShapes Go.ChangeAt Go.RowKit Go.Ab Go.Ab.Tryz
set_option maxRecDepth 100000 in
theorem Rz (os:Os) {H:Type} (enc:TypeId × Value -> H):(Rows.OpenSpec.upto Rows.topReplaySpec).preRow enc Tryz.prog Tryz.f16 Rows.topReplayUptoRow.domain false Rows.topReplayUptoRow.laid ((J7 os).forCall (fun _ _=>0) ⟨#[],#[.agg #[.slice none 0 0,.slice none 0 0,.slice none 0 0,.int .i64 0,.slice none 0 0,.int .i64 0]],[]⟩).memory #[.agg #[.slice none 0 0,.slice none 0 0,.slice none 0 0,.int .i64 0,.slice none 0 0,.int .i64 0]]:=by
 have hq:(DataW.whole enc Tryz.prog ((J7 os).forCall (fun _ _=>0) ⟨#[],#[.agg #[.slice none 0 0,.slice none 0 0,.slice none 0 0,.int .i64 0,.slice none 0 0,.int .i64 0]],[]⟩).memory Tryz.f16.params.toList Rows.topReplaySpec.vars false (#[.agg #[.slice none 0 0,.slice none 0 0,.slice none 0 0,.int .i64 0,.slice none 0 0,.int .i64 0]]:Array Value).toList 8).map (fun x=>Rows.uptoSmall H (x.1 ++ x.2.1))=some true:=by kernel_rfl
 obtain ⟨x,hx,hu⟩:=Option.map_eq_some_iff.1 hq
 exact OpenSpec.preRow_of_cond 8 hx rfl (fun k hk=>by cases hk;exact hu) (by kernel_rfl) (NA os _)
set_option maxRecDepth 100000 in
theorem MR (os:Os):Input.okWideB Tryz.prog ((J7 os).forCall (fun _ _=>0) ⟨#[],#[.agg #[.slice none 0 0,.slice none 0 0,.slice none 0 0,.int .i64 0,.slice none 0 0,.int .i64 0]],[]⟩) 16 ⟨#[],#[.agg #[.slice none 0 0,.slice none 0 0,.slice none 0 0,.int .i64 0,.slice none 0 0,.int .i64 0]],[]⟩=true:=by kernel_rfl
set_option maxRecDepth 100000 in
theorem Ny (os:Os) (started:os.Started) (H:Type) (enc:TypeId × Value -> H) (F:Stop.Interp) :
  ReturnsInHanded {} Tryz.checked os 16 .any ((Rows.OpenSpec.upto Rows.topReplaySpec).preRow enc Tryz.prog Tryz.f16 Rows.topReplayUptoRow.domain false Rows.topReplayUptoRow.laid) (((Rows.OpenSpec.upto Rows.topReplaySpec).at F).post enc Tryz.prog Tryz.f16 false true false false):=by
 refine returnsInHanded_of_row (C:=Tryz.checked) (s:=Rows.OpenSpec.upto Rows.topReplaySpec) own started (by kernel_rfl) Tryz.func16
  ⟨J7 os,fun _ _=>0,⟨#[],#[.agg #[.slice none 0 0,.slice none 0 0,.slice none 0 0,.int .i64 0,.slice none 0 0,.int .i64 0]],[]⟩,ML _,World.shaped_of_ZipB (by kernel_rfl) (by kernel_rfl),(Input.okWide_of_okWideB (base:=0) (MR os)).1,(Input.okWide_of_okWideB (MR os)).2,Rz os enc,by
   simp only [Assume.holds]
   exact ⟨by simp,by simp,fun _=>Modest.zero,by simp,by simp⟩⟩ ?_
 intro W base args ds gs before hval0 hW _ hcond _ hL hsh _
 have hval:∀ (j:Nat) t v,Tryz.f16.params[j]?=some t -> args[j]?=some v -> Value.okWide Tryz.prog W .any base t v:=hval0
 have hW':DataW.Whole enc Tryz.prog Tryz.f16.params.toList Rows.topReplaySpec.vars false W args.toList ds gs before:=hW
 have hL8:laidMetH Tryz.prog LJ W:=hL
 obtain ⟨p,q,aj,hV,rfl,hfz,hnd⟩:=hW
 have hA:DataW.TrodAll enc Tryz.prog W 0 (fun _=>true) true Tryz.f16.params.toList args.toList ds p:=aj
 rw [Tryz.params16] at hA hval
 obtain ⟨v0,d0,rfl,rfl,h0⟩:=trodAll_one hA
 obtain ⟨rfl,rfl⟩:=trodVars_none hV
 have hb:Rows.uptoBulkAll [d0] <= 1048576:=of_decide_eq_true (hcond _ rfl)
 obtain ⟨a0,ha0,hk0⟩:=mQ (hval 0 81 v0 rfl rfl) h0 hb
 refine ((f16 a0 hk0).2 W #[v0] (PY hL8 hsh) ⟨rfl,fun j d hj=>?_⟩).mono fun e W' ⟨v,he,hb',ob,hr1,hr⟩=>?_
 ·match j,hj with
  | 0,hj=>simp only [List.getElem?_cons_zero,Option.some.injEq] at hj;subst hj;exact ha0
 ·subst he
  cases hr
  exact ⟨_,rfl,N9 laid (by rw [Tryz.params16];intro t ht;simp only [List.mem_cons,List.not_mem_nil,or_false] at ht;rcases ht with rfl<;>exact ⟨by kernel_rfl,of_decide_eq_true (by kernel_rfl)⟩) (by kernel_rfl) Tryz.underlying4 rfl hW' rfl rfl rfl hb'⟩
theorem UU:Rows.topReplayUptoRow.wf (OpenSpec.ofChange Rows.topReplaySpec)=true:=by kernel_rfl
theorem UR:(Rows.topReplayUptoRow.inPlace == Tryz.prog.inPlace 16)=true:=by kernel_rfl
theorem SC:(Rows.topReplayUptoRow.unfollowed == Tryz.prog.unfollowed 16)=true:=by kernel_rfl
theorem SB:(Rows.topReplayUptoRow.recurses == Tryz.prog.recurses 16)=true:=by kernel_rfl
theorem SA:(Rows.topReplayUptoRow.named == Tryz.prog.varsNamed 16)=true:=by kernel_rfl
theorem S9:Rows.topReplayUptoRow.veiledFits Tryz.prog Tryz.f16.params.toList (Tryz.f16.params.toList ++ Rows.topReplaySpec.plain.varTypes Tryz.prog ++ Tryz.f16.resultTypes.toList)=true:=by kernel_rfl
theorem Nz:joinedFacts Tryz.prog 16 Tryz.f16 Rows.topReplaySpec Rows.topReplayUptoRow=true :=
 Kj UU Jf Gr (by kernel_rfl) (by kernel_rfl) (by kernel_rfl) ND (by kernel_rfl) Gp UR SC SB SA
  (by kernel_rfl) (by kernel_rfl) (by kernel_rfl) (by kernel_rfl) (by kernel_rfl) (by kernel_rfl) (by kernel_rfl) (by kernel_rfl) (by kernel_rfl) Gq (by kernel_rfl) GA Ii Ki Pg (by kernel_rfl) (by kernel_rfl) (by kernel_rfl) S9
theorem QB:false=Rows.topReplayUptoRow.goesBy Tryz.prog:=by kernel_rfl
set_option maxRecDepth 100000 in
theorem topReplay_row_holds:Rows.TopReplayUptoSaid :=
 OpenClaim.holds_of_cond 16 Tryz.f16 rfl rfl rfl rfl rfl rfl rfl ⟨rfl,rfl,rfl,rfl,rfl⟩ rfl rfl rfl rfl rfl (by kernel_rfl) Tryz.func16 Nz
  (of_decide_eq_true (by kernel_rfl)) (by unfold Func.isWrapper;first | (rw [if_pos (by decide +kernel)];kernel_rfl) | (rw [if_neg (by decide +kernel)];exact ⟨rfl,rfl⟩))
  (fun os started H enc _ F=>by rw [OpenClaim.pre_eq_preRow];exact Ny os started H enc F)
theorem topReplay_holds:Rows.TopReplayUptoCardSaid :=
 Claim7.holds_tied_plain_at .later [] [.data,.data,.data,.data,.handle,.sentinel,.sentinel,.pinned] true (true,"3db829cce18005878e8754b8e59e180ceed115a91828322c6a281b16f2fc2ec3") true
  topReplay_row_holds (fun _ h=>by cases h) (by kernel_rfl) (fun _ h=>by cases h) topReplayUpto_row_tie rfl ⟨rfl,rfl⟩ Ph rfl
  (fun f fn hf hfn=>by
   obtain rfl:f=16:=Option.some.inj ((show Tryz.prog.funcNamed "turbary/turbarytop.TopReplay"=some 16 by kernel_rfl).symm.trans hf) |>.symm
   obtain rfl:fn=Tryz.f16:=(Option.some.inj (Tryz.func16.symm.trans hfn)).symm
   exact ⟨NG,fun j t ht=>by
    rw [Tryz.params16] at ht
    have hm:t ∈ [81]:=by simpa using Array.mem_of_getElem? ht
    have hall:([81].all fun u=>!Tryz.prog.wantsStandIn u)=true:=by kernel_rfl
    exact (show Tryz.prog.wantsStandIn t=false by simpa using List.all_eq_true.1 hall t hm)⟩)
  QB
-- axioms of topReplay_holds
end Go.Proofs.YtjcecljhjailiaaGreatDoor
