/- TopBook, where the arguments are of bulk at most 1048576: the second form's statement, without further conditions; its tied card. -/
import Derived.Test.YtjcecljhjailiaaGreatDoorRows
import Derived.Test.YtjcecljhjailiaaGreatDoorTie
import Derived.Test.YtjcecljhjailiaaGreatDoorCards
import Derived.SevenTiedAt
import Derived.Lay
import Derived.JoinedCond
import Derived.Deep.DeepHandedRow
import Derived.Test.YtjcecljhjailiaaGreatDoorBogArg3
import Derived.Test.YtjcecljhjailiaaGreatDoorBogKit
import Derived.Test.YtjcecljhjailiaaGreatDoorBogV1
set_option linter.all false
namespace Go.Proofs.YtjcecljhjailiaaGreatDoor
open Go.ChangeShapes Go.WideShapes Go.ChangeAt Go.RowKit Go.Ab Go.Ab.Tryz
set_option maxRecDepth 100000 in
theorem Vu (os:Os) {H:Type} (enc:TypeId × Value -> H):(Rows.OpenSpec.upto Rows.topBookSpec).preRow enc Tryz.prog Tryz.f15 Rows.topBookUptoRow.domain false Rows.topBookUptoRow.laid ((J7 os).forCall (fun _ _=>0) ⟨#[],#[.agg #[.slice none 0 0,.slice none 0 0,.slice none 0 0,.int .i64 0,.slice none 0 0,.int .i64 0]],[]⟩).memory #[.agg #[.slice none 0 0,.slice none 0 0,.slice none 0 0,.int .i64 0,.slice none 0 0,.int .i64 0]]:=by
 have hq:(DataW.whole enc Tryz.prog ((J7 os).forCall (fun _ _=>0) ⟨#[],#[.agg #[.slice none 0 0,.slice none 0 0,.slice none 0 0,.int .i64 0,.slice none 0 0,.int .i64 0]],[]⟩).memory Tryz.f15.params.toList Rows.topBookSpec.vars false (#[.agg #[.slice none 0 0,.slice none 0 0,.slice none 0 0,.int .i64 0,.slice none 0 0,.int .i64 0]]:Array Value).toList 8).map (fun x=>Rows.uptoSmall H (x.1 ++ x.2.1))=some true:=by kernel_rfl
 obtain ⟨x,hx,hu⟩:=Option.map_eq_some_iff.1 hq
 exact OpenSpec.preRow_of_cond 8 hx rfl (fun k hk=>by cases hk;exact hu) (by kernel_rfl) (NA os _)
set_option maxRecDepth 100000 in
theorem QH (os:Os):Input.okWideB Tryz.prog ((J7 os).forCall (fun _ _=>0) ⟨#[],#[.agg #[.slice none 0 0,.slice none 0 0,.slice none 0 0,.int .i64 0,.slice none 0 0,.int .i64 0]],[]⟩) 15 ⟨#[],#[.agg #[.slice none 0 0,.slice none 0 0,.slice none 0 0,.int .i64 0,.slice none 0 0,.int .i64 0]],[]⟩=true:=by kernel_rfl
set_option maxRecDepth 100000 in
theorem QI (os:Os) (started:os.Started) (H:Type) (enc:TypeId × Value -> H) (F:Stop.Interp) :
  ReturnsInHanded {} Tryz.checked os 15 .any ((Rows.OpenSpec.upto Rows.topBookSpec).preRow enc Tryz.prog Tryz.f15 Rows.topBookUptoRow.domain false Rows.topBookUptoRow.laid) (((Rows.OpenSpec.upto Rows.topBookSpec).at F).post enc Tryz.prog Tryz.f15 false true false false):=by
 refine returnsInHanded_of_row (C:=Tryz.checked) (s:=Rows.OpenSpec.upto Rows.topBookSpec) own started (by kernel_rfl) Tryz.func15
  ⟨J7 os,fun _ _=>0,⟨#[],#[.agg #[.slice none 0 0,.slice none 0 0,.slice none 0 0,.int .i64 0,.slice none 0 0,.int .i64 0]],[]⟩,ML _,World.shaped_of_ZipB (by kernel_rfl) (by kernel_rfl),(Input.okWide_of_okWideB (base:=0) (QH os)).1,(Input.okWide_of_okWideB (QH os)).2,Vu os enc,by
   simp only [Assume.holds]
   exact ⟨by simp,by simp,fun _=>Modest.zero,by simp,by simp⟩⟩ ?_
 intro W base args ds gs before hval0 hW _ hcond _ hL hsh _
 have hval:∀ (j:Nat) t v,Tryz.f15.params[j]?=some t -> args[j]?=some v -> Value.okWide Tryz.prog W .any base t v:=hval0
 have hW':DataW.Whole enc Tryz.prog Tryz.f15.params.toList Rows.topBookSpec.vars false W args.toList ds gs before:=hW
 have hL8:laidMetH Tryz.prog LJ W:=hL
 obtain ⟨p,q,aj,hV,rfl,hfz,hnd⟩:=hW
 have hA:DataW.TrodAll enc Tryz.prog W 0 (fun _=>true) true Tryz.f15.params.toList args.toList ds p:=aj
 rw [Tryz.params15] at hA hval
 obtain ⟨v0,d0,rfl,rfl,h0⟩:=trodAll_one hA
 obtain ⟨rfl,rfl⟩:=trodVars_none hV
 have hb:Rows.uptoBulkAll [d0] <= 1048576:=of_decide_eq_true (hcond _ rfl)
 obtain ⟨a0,ha0,hk0⟩:=mQ (hval 0 81 v0 rfl rfl) h0 hb
 refine ((f15 a0 hk0).2 W #[v0] (PY hL8 hsh) ⟨rfl,fun j d hj=>?_⟩).mono fun e W' ⟨v,he,hb',ob,hr1,hr⟩=>?_
 ·match j,hj with
  | 0,hj=>simp only [List.getElem?_cons_zero,Option.some.injEq] at hj;subst hj;exact ha0
 ·subst he
  cases hr
  exact ⟨_,rfl,N9 laid (by rw [Tryz.params15];intro t ht;simp only [List.mem_cons,List.not_mem_nil,or_false] at ht;rcases ht with rfl<;>exact ⟨by kernel_rfl,of_decide_eq_true (by kernel_rfl)⟩) (by kernel_rfl) Tryz.underlying4 rfl hW' rfl rfl rfl hb'⟩
theorem Ya:Rows.topBookUptoRow.wf (OpenSpec.ofChange Rows.topBookSpec)=true:=by kernel_rfl
theorem YZ:(Rows.topBookUptoRow.inPlace == Tryz.prog.inPlace 15)=true:=by kernel_rfl
theorem Vy:(Rows.topBookUptoRow.unfollowed == Tryz.prog.unfollowed 15)=true:=by kernel_rfl
theorem Vx:(Rows.topBookUptoRow.recurses == Tryz.prog.recurses 15)=true:=by kernel_rfl
theorem Vw:(Rows.topBookUptoRow.named == Tryz.prog.varsNamed 15)=true:=by kernel_rfl
theorem Vv:Rows.topBookUptoRow.veiledFits Tryz.prog Tryz.f15.params.toList (Tryz.f15.params.toList ++ Rows.topBookSpec.plain.varTypes Tryz.prog ++ Tryz.f15.resultTypes.toList)=true:=by kernel_rfl
theorem QJ:joinedFacts Tryz.prog 15 Tryz.f15 Rows.topBookSpec Rows.topBookUptoRow=true :=
 Kj Ya Jf Gr (by kernel_rfl) (by kernel_rfl) (by kernel_rfl) ND (by kernel_rfl) Gp YZ Vy Vx Vw
  (by kernel_rfl) (by kernel_rfl) (by kernel_rfl) (by kernel_rfl) (by kernel_rfl) (by kernel_rfl) (by kernel_rfl) (by kernel_rfl) (by kernel_rfl) Gq (by kernel_rfl) GA Ii Ki Pg (by kernel_rfl) (by kernel_rfl) (by kernel_rfl) Vv
theorem UW:false=Rows.topBookUptoRow.goesBy Tryz.prog:=by kernel_rfl
set_option maxRecDepth 100000 in
theorem topBook_row_holds:Rows.TopBookUptoSaid :=
 OpenClaim.holds_of_cond 15 Tryz.f15 rfl rfl rfl rfl rfl rfl rfl ⟨rfl,rfl,rfl,rfl,rfl⟩ rfl rfl rfl rfl rfl (by kernel_rfl) Tryz.func15 QJ
  (of_decide_eq_true (by kernel_rfl)) (by unfold Func.isWrapper;first | (rw [if_pos (by decide +kernel)];kernel_rfl) | (rw [if_neg (by decide +kernel)];exact ⟨rfl,rfl⟩))
  (fun os started H enc _ F=>by rw [OpenClaim.pre_eq_preRow];exact QI os started H enc F)
theorem topBook_holds:Rows.TopBookUptoCardSaid :=
 Claim7.holds_tied_plain_at .later [] [.data,.data,.data,.data,.handle,.sentinel,.sentinel,.pinned] true (true,"3db829cce18005878e8754b8e59e180ceed115a91828322c6a281b16f2fc2ec3") true
  topBook_row_holds (fun _ h=>by cases h) (by kernel_rfl) (fun _ h=>by cases h) topBookUpto_row_tie rfl ⟨rfl,rfl⟩ Ph rfl
  (fun f fn hf hfn=>by
   obtain rfl:f=15:=Option.some.inj ((show Tryz.prog.funcNamed "turbary/turbarytop.TopBook"=some 15 by kernel_rfl).symm.trans hf) |>.symm
   obtain rfl:fn=Tryz.f15:=(Option.some.inj (Tryz.func15.symm.trans hfn)).symm
   exact ⟨NG,fun j t ht=>by
    rw [Tryz.params15] at ht
    have hm:t ∈ [81]:=by simpa using Array.mem_of_getElem? ht
    have hall:([81].all fun u=>!Tryz.prog.wantsStandIn u)=true:=by kernel_rfl
    exact (show Tryz.prog.wantsStandIn t=false by simpa using List.all_eq_true.1 hall t hm)⟩)
  UW
-- axioms of topBook_holds
end Go.Proofs.YtjcecljhjailiaaGreatDoor
