/- The abstract layer, part 30: calls that write what they are lent, told shortly. Written by wip/gen/ab30.py. -/
import Derived.Test.YtjlfgobbieljoaaAb29
set_option linter.unusedVariables false
namespace Go.Ab
open Go.RowKit

def setL (L : List (Nat × Nat × Option Blk)) : List (Nat × Nat × Option Blk) → List (Nat × Nat × Option Blk)
  | [] => L
  | p :: r => setL (p :: L) r
theorem setM_mkM : ∀ (ms L : List (Nat × Nat × Option Blk)), setM (mkM L) ms = mkM (setL L ms)
  | [], L => rfl
  | (t, e) :: r, L => by rw [setM, upd_mkM, setM_mkM r, setL]

section
variable {cx : Cx} {P : Program} {N : Nat} {ops : Array Oper} {rest : List Oper} {l : List (Nat × SV)} {m m' : List (Nat × Nat × Option Blk)} {K : St → Prop} {KD : List It → St → Prop} {its : List It}
  {d f : Nat} {ty : TypeId} {p : String} {af : Array Edge} {gd : Option (Nat × Bool)} {oa : Array Operand} {ts : Array TypeId} {args res ss : List SV} {m0 mem : List (Nat × Blk)}

/-- A call of a function by its name, that writes what it is lent. fz: what is frozen first; τ: callee's tag, caller's tag; rt: the caller's tags of what comes back. -/
theorem qqG (hc : ACallsG P f args (mkB m0) ⟨res, mkB mem⟩) (fz : List Nat) (τ : List (Nat × Nat)) (rt : List Nat) {v : SV} (kk : Chain cx ops rest ⟨lk ((d, v) :: l), mkM m'⟩ K)
    (hs : oa.toList.map (St.ev ⟨lk l, mkM m⟩) = ss := by (simp only [List.map, St.look, St.ev, lk, mkM, blkOf, svOf, svOfCell, reduceIte, Nat.reduceAdd, Nat.reduceEqDiff, Nat.reduceMul] <;> rfl)) (h1 : FrzOk (mkM m) fz := by (simp [FrzOk, mkM, OwS])) (h2 : LentL τ (frzF (mkM m) fz) (mkB m0) m0 := by (simp [LentL, svLes, svLe, isLive, tauL, mkB, mkM, frzF, svLes_ints, svLes_self, isDvs, isDvs_map, isDvs_app, isDvs_take, isDvs_set, isDvs_repl, OwS])) (h3 : (τ.map (·.2)).Nodup := by decide) (h4 : τ.all (fun p => (m0.map (·.1)).contains p.1) = true := by rfl) (h5 : (m0.map (·.1)).Nodup := by (simp))
    (h6 : svLes (tauL τ) (frzF (mkM m) fz) (mkB m0) args ss := by (simp [svLes, svLe, isLive, tauL, mkB, mkM, frzF, svLes_ints, svLes_self, isDvs, isDvs_map, isDvs_app, isDvs_take, isDvs_set, isDvs_repl, OwS])) (h7 : MemOk (mkM m) τ mem rt := by (simp [MemOk, mkM, tauL])) (h8 : (mem.map (·.1)).Nodup := by (simp)) (h9 : rt.Nodup := by decide) (h10 : ∀ t ∈ rt, t ∉ fz := by decide)
    (hv : resG (mkB mem) (rhoG (mkM m) mem rt) res = v := by (simp only [resG, renSV, renSVs, renSVs_dvs isDvs_map, rhoG, genG, stG, mkB, mkM, List.map, reduceIte, Nat.reduceEqDiff, Nat.reduceAdd, Nat.reduceLeDiff] <;> rfl)) (hm : setL (nvL m) (msG (mkM m) fz τ mem rt) = m' := by (simp only [setL, msG, frzMs, drops, puts, renSV, renSVs, renSVs_dvs isDvs_map, rhoG, genG, stG, mkB, mkM, nvL, killV, List.map, List.nil_append, List.cons_append, List.append_nil, Option.map_some, Option.getD_some, reduceIte, Nat.reduceEqDiff, Nat.reduceAdd, Nat.reduceLeDiff] <;> rfl)) (hP : cx.P = P := by assumption) (hn : cx.n = N := by assumption) (hd : d < N := by decide) (hgd : GOk ops ⟨lk l, mkM m⟩ gd := by (first | exact trivial | exact ⟨_, rfl, by (simp only [lk, reduceIte, Nat.reduceEqDiff])⟩)) :
    Chain cx ops (⟨some d, .call { callee := .value (.func f), args := oa, argTypes := ts }, ty, p, af, gd⟩ :: rest) ⟨lk l, mkM m⟩ K := by
  subst hP; subst hn; subst hs
  have hg' : cx.Good → True := fun _ => trivial
  refine ⟨(effG d ⟨lk l, mkM m⟩ fz τ res mem rt).app ⟨lk l, mkM m⟩, gstep_of hgd (.sem fun hg a w h => callG_does hg h rfl (pre := []) (caps := []) (args := args) rfl ⟨h1, h2, h3, fun p hp => ?_, h5, h6, h7, h8, h9, h10⟩ (by simpa using hc) rfl hd), ?_⟩
  · have := List.all_eq_true.1 h4 p hp
    simpa using this
  · have : (effG d ⟨lk l, mkM m⟩ fz τ res mem rt).app ⟨lk l, mkM m⟩ = ⟨lk ((d, v) :: l), mkM m'⟩ := by
      simp only [effG, Eff.app, if_true, noViews_mkM, setM_mkM, upd_lk, hv, hm]
    rw [this]
    exact kk
end

theorem startG {cx : Cx} {c : Code} {K : Exit → St → Prop} {args : List SV} {m0 : List (Nat × Blk)} {l : List (Nat × SV)} {m : List (Nat × Nat × Option Blk)} (k : AWp cx c K ⟨lk l, mkM m⟩) (h1 : zipS 0 args = l := by (simp only [zipS, Nat.reduceAdd] <;> rfl)) (h2 : (m0.map fun p => (p.1, 0, some p.2)) = m := by (simp only [List.map] <;> rfl)) : AWp cx c K ⟨lk (zipS 0 args), mkB m0⟩ := by
  subst h1; subst h2; exact k
/-- An end of a function that writes what it was lent. -/
theorem xg {P : Program} {rv : List ResultVar} {S : St} {x : Exit} {res ss : List SV} {mem : List (Nat × Blk)} (τ : List (Nat × Nat)) (he : x = .normal ∨ x = .ret := by (first | exact .inr rfl | exact .inl rfl)) (hs : resSV P S rv = some ss := by (simp only [resSV, lk, Option.map_some, reduceIte, Nat.reduceEqDiff] <;> rfl))
    (h1 : svLes (tauL τ) S.M (mkB mem) res ss := by (simp [svLes, svLe, isLive, tauL, mkB, mkM, frzF, svLes_ints, svLes_self, isDvs, isDvs_map, isDvs_app, isDvs_take, isDvs_set, isDvs_repl, OwS])) (h2 : MLe (tauL τ) S (mkB mem) (mem.map fun p => (p.1, 0, some p.2)) := by (simp [MLe, blkLe, svLes, svLe, isLive, tauL, mkB, mkM, frzF, svLes_ints, svLes_self, isDvs, isDvs_map, isDvs_app, isDvs_take, isDvs_set, isDvs_repl, OwS])) (h3 : (τ.map (·.2)).Nodup := by decide) : EndG P rv ⟨res, mkB mem⟩ x S := endG_list τ he hs h1 h2 h3
/-- A row of integers that was lent as the i-th. -/
abbrev lentI (i : Nat) (L : List Int) : Blk := ⟨L.map fun q => .dv (.int .i64 q), 1, 3, 100003 + i, true⟩
end Go.Ab

