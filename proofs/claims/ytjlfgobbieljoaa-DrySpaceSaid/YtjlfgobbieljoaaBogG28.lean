/- Dry20, DryL3, Dry27, Dry21. -/
import Derived.Test.YtjlfgobbieljoaaBogG27
import Derived.Test.YtjlfgobbieljoaaBogG26
import Derived.Test.YtjlfgobbieljoaaBogG10
import Derived.Test.YtjlfgobbieljoaaBogG26
import Derived.Test.YtjlfgobbieljoaaBogG23
set_option linter.all false
set_option linter.all false
namespace Go.Ab.Try
open Go Go.Ab Go.Proofs
def turnS (s : Stp) : Stp := ⟨s.give, s.take⟩
def turnY (y : Yd) : Yd := ⟨y.places, y.steps.map turnS⟩
def rowP (L : List Stp) : Blk := ⟨L.flatMap fun s => [.dv (ints s.take), .dv (ints s.give)], 2, 55, 0, true⟩
theorem rowP_esz {L : List Stp} : (rowP L).esz = 2 := rfl
theorem rowP_elem {L : List Stp} : (rowP L).elem = 55 := rfl
theorem rowP_st {L : List Stp} : (rowP L).st = 0 := rfl
theorem rowP_row {L : List Stp} : (rowP L).row = true := rfl
theorem rowP_nil : (rowP []).cells = [] := rfl
theorem rowP_dvs : ∀ L : List Stp, isDvs (rowP L).cells = true
  | [] => rfl
  | s :: L => by
    show isDvs (.dv (ints s.take) :: .dv (ints s.give) :: (rowP L).cells) = true
    simp [isDvs, rowP_dvs L]
theorem rowP_len : ∀ L : List Stp, (rowP L).cells.length = L.length * 2
  | [] => rfl
  | s :: L => by
    show (SV.dv (ints s.take) :: .dv (ints s.give) :: (rowP L).cells).length = _
    simp [rowP_len L]; omega
theorem rowP_args {ok : Nat → Prop} {okd : DV → Prop} {M : Nat → Nat × Option Blk} (hd : ∀ l, okd (ints l)) : ∀ L : List Stp, ArgsSV (Data ok okd M) (rowP L).cells (flat (L.map dStp))
  | [] => args_nil
  | s :: L => by
    show ArgsSV (Data ok okd M) (.dv (ints s.take) :: .dv (ints s.give) :: (rowP L).cells) (ints s.take :: ints s.give :: flat (L.map dStp))
    exact args_cons (.dv _ (hd _)) (args_cons (.dv _ (hd _)) (rowP_args hd L))
theorem data_rowP {ok : Nat → Prop} {okd : DV → Prop} {M : Nat → Nat × Option Blk} {t g n : Nat} {L : List Stp} (hM : M t = (g, some (rowP L))) (hst : ok 0) (hl : L.length = n) (hd : ∀ l, okd (ints l)) : Data ok okd M (.sl t g 0 n) (.list (L.map dStp)) :=
  data_cells (blk := rowP L) hM hst (by simpa using hl) (fun d h => by obtain ⟨s, _, rfl⟩ := List.mem_map.1 h; rfl) (rowP_args hd L)
theorem rowP_snoc {L : List Stp} {s : Stp} : (rowP (L ++ [s])).cells = (rowP L).cells ++ [.dv (ints s.take), .dv (ints s.give)] := by simp [rowP]
theorem turn_take {y : Yd} {i : Nat} {s : Stp} (h : y.steps[i]? = some s) : (turnY y).steps.take (i + 1) = (turnY y).steps.take i ++ [turnS s] := take_snoc (by simp [turnY, h])
end Go.Ab.Try
set_option linter.all false
namespace Go.Ab.Try
open Go Go.Ab Go.Proofs
end Go.Ab.Try
set_option linter.all false
namespace Go.Ab.Try
open Go Go.Ab Go.Proofs
def turnR (y : Yd) : Yd × Int := if validate y ≠ 0 then (⟨0, []⟩, validate y) else (turnY y, 0)
theorem turn_bad {y : Yd} (h : validate y ≠ 0) : turnR y = (⟨0, []⟩, validate y) := by unfold turnR; rw [if_pos h]
theorem turn_ok {y : Yd} (h : validate y = 0) : turnR y = (turnY y, 0) := by unfold turnR; rw [if_neg (by simp [h])]
theorem turn_len6 {y : Yd} (h : VYd y) : ∀ s ∈ y.steps, s.take.length ≤ 6 ∧ s.give.length ≤ 6 := by
  obtain ⟨v1, v2, v3, v4⟩ := validate_ok h
  intro s hs
  have h4 := v4 s hs
  simp only [okStp, Bool.and_eq_true] at h4
  have := allIn_len h4.1
  have := allIn_len h4.2
  omega
theorem x2d {P : Program} {okd : DV → Prop} {S : St} {rv : List ResultVar} {x : Exit} {s0 s1 : SV} {d0 d1 : DV} (he : x = .normal ∨ x = .ret) (h : resSV P S rv = some [s0, s1]) (h0 : RetOk okd S.M s0 (.dv d0)) (h1 : RetOk okd S.M s1 (.dv d1)) : EndK P okd rv (.many [.dv d0, .dv d1]) x S :=
  ⟨he, [s0, s1], [.dv d0, .dv d1], h, ⟨h0, h1, trivial⟩, ra_d (by simp [AllDv1]), rfl⟩
set_option maxHeartbeats 4000000 in
theorem f39 (y : Yd) : ACalls Try.prog 39 [dYd y] (.many [.dv (dYd (turnR y).1), .dv (i64 (turnR y).2)]) := by
  refine callsA_of Try.func39 rfl rfl (by rw [Try.ntmps39]; simp) fun cx hP hn hg => ?_
  rw [Try.ntmps39] at hn
  rw [startF_lk, none_mkM]
  simp only [List.nil_append, List.append_nil, List.cons_append, zipSV, Nat.reduceAdd]
  refine awp_seq ?_
  refine rg ?_
  refine qp m_box ?_
  refine qp (m_al ze24) ?_
  refine qv m_as ?_
  show AWp cx _ _ _
  refine awp_seq ?_
  refine awp_seq ?_
  refine rg ?_
  refine qv (m_ldpa sz24 ag24) ?_
  refine qqF (f28 y) ?_
  refine qv m_as ?_
  show AWp cx _ _ _
  refine awp_seq ?_
  refine rg ?_
  refine qv m_mv ?_
  refine qv m_neq ?_
  show AWp cx _ _ _
  refine cd (fun hc0 => ?_) (fun hc0 => ?_)
  · skip
    have h0 : validate y ≠ 0 := by simpa using hc0
    refine awp_seq ?_
    refine rg ?_
    refine qv (m_bld pl24 ze24) ?_
    refine qv m_mv ?_
    refine qs (m_st sz24) ?_
    refine qv m_as ?_
    show AWp cx _ _ _
    refine awp_ret ?_
    rw [turn_bad h0]
    exact x2d (rv := [.cell 2 24, .tmp 3]) (s0 := .agg [.dv (i64 0), .nils]) (s1 := .dv (i64 (validate y))) (.inr rfl) (by simp only [resSV, loadSV, St.look, St.ev, lk, mkM, blkOf, svOf, svOfCell, reduceIte, Nat.reduceAdd, Nat.reduceEqDiff, Nat.reduceMul, sz24, ag24]; rfl) (.agg _ _ rfl fun j s c hs hd => by match j, hs, hd with | 0, hs, hd => cases hs; cases hd; exact retOk_dv (.dv _ trivial) | 1, hs, hd => cases hs; cases hd; exact .nils) (retOk_dv (.dv _ trivial))
  · skip
    have h0 : validate y = 0 := by simpa using hc0
    obtain ⟨v1, v2, v3, v4⟩ := validate_ok h0
    have hs := turn_len6 h0
    refine awp_skip ?_
    show AWp cx _ _ _
    refine awp_seq ?_
    refine rg ?_
    refine qv (m_fdp fd24_0) ?_
    refine qv (m_ldp sz3 ag3) ?_
    refine qv (m_bld pl24 ze24) ?_
    refine qp (m_al ze24) ?_
    refine qs (m_st sz24) ?_
    show AWp cx _ _ _
    refine awp_seq ?_
    refine awp_seq ?_
    refine rg ?_
    refine qv (m_fdp fd24_1) ?_
    refine qv (m_ldp sz22 ag22) ?_
    refine qv (m_len il22) ?_
    refine qv m_mv ?_
    show AWp cx _ _ _
    refine awp_block ?_
    refine awp_loop (ι := Nat) (fun i => ⟨lk [(2, .pt 2 0 0), (5, .pt 5 0 0), (18, .dv (.list ((y.steps).map dStp))), (19, .dv (i64 ((y.steps.length : Int)))), (20, .dv (i64 (i : Nat)))], mkM [(2, 0, some ⟨[.dv (i64 0), .nils], 0, 24, 0, false⟩), (5, 0, some ⟨[.dv (i64 y.places), .sl 34 0 0 i], 0, 24, 0, false⟩), (34, 0, some (rowP ((turnY y).steps.take i)))]⟩) (fun i => i ≤ y.steps.length) (fun i => y.steps.length - i) 0 (by simp) (tl [(2, 2), (5, 5)] (hF := by simp [FLe, svLe, lk, mkM, isLive, tauL, rowP_nil, rowP_esz, rowP_elem, rowP_st, rowP_row]) (hM := by simp [MLe, blkLe, svLe, svLes, lk, mkM, isLive, tauL, svLes_ints, svLes_self, isDvs, isDvs_map, isDvs_app, isDvs_take, isDvs_set, isDvs_repl, rowP_nil, rowP_esz, rowP_elem, rowP_st, rowP_row])) ?_
    intro i hφ0
    refine awp_seq ?_
    refine rg ?_
    refine qv m_lss ?_
    show AWp cx _ _ _
    refine awp_seq ?_
    refine cd (fun hc1 => ?_) (fun hc1 => ?_)
    · try simp at hc1
      refine awp_skip ?_
      show AWp cx _ _ _
      refine awp_seq ?_
      refine awp_block ?_
      refine awp_seq ?_
      have hin : i < y.steps.length := by omega
      obtain ⟨s, hgs⟩ : ∃ s, y.steps[i]? = some s := ⟨_, List.getElem?_eq_getElem hin⟩
      have hsm : s ∈ y.steps := List.mem_of_getElem? hgs
      obtain ⟨hst, hsg⟩ := hs s hsm
      have htt := turn_take hgs
      have htl : (turnY y).steps.length = y.steps.length := by simp [turnY]
      have hpl : (rowP ((turnY y).steps.take i)).cells.length = i * 2 := by rw [rowP_len, List.length_take]; omega
      refine rg ?_
      first | refine qv (m_ixN el22 sz55) ?_ | refine qv (m_ix el22 sz55) ?_
      refine qv (m_lda sz55 ag55) ?_
      refine qp (m_al ze55) ?_
      refine qs (m_st sz55) ?_
      show AWp cx _ _ _
      refine rd mixed ?_
      refine zv (m_fdp fd24_1) ?_
      refine zv (m_ldp sz22 ag22) ?_
      refine zv (m_fdp fd55_1) ?_
      refine zv (m_ldp sz25 ag25) ?_
      refine zqF (R := []) (f76 s.give (by omega)) ?_
      refine zv (m_fdp fd55_0) ?_
      refine zv (m_ldp sz25 ag25) ?_
      refine zqF (R := []) (f76 s.take (by omega)) ?_
      refine zv (m_bld pl55 ze55) ?_
      refine zr (m_bsl el22 ze55 sz55) ?_
      first | refine za0 (m_app0 el22 el22 ze55 sz55 by55 (hln := hpl)) ?_ | refine za1 (m_app1 el22 el22 ze55 sz55 by55 (hln := hpl)) ?_
      refine zv (m_fdp fd24_1) ?_
      refine zs (m_st sz22) ?_
      refine ⟨by rfl, ?_⟩
      show AWp cx _ _ _
      refine awp_frz 28 ?_
      refine awp_frz 31 ?_
      refine awp_sinkB 34 (cs := (rowP ((turnY y).steps.take i ++ [turnS s])).cells) (by simp only [mkM, reduceIte, Nat.reduceEqDiff] <;> rfl) ?_ hg ?_
      · rw [rowP_snoc]
        exact sinkC_app (sinkC_refl _) ⟨.inr ⟨_, rfl, data_ints (L := s.give) (by simp only [mkM, reduceIte, Nat.reduceEqDiff] <;> rfl) rfl rfl rfl rfl (fun _ => trivial)⟩, .inr ⟨_, rfl, data_ints (L := s.take) (by simp only [mkM, reduceIte, Nat.reduceEqDiff] <;> rfl) rfl rfl rfl rfl (fun _ => trivial)⟩, trivial⟩
      refine rg ?_
      refine qv m_add ?_
      refine qv m_mv ?_
      exact ⟨i + 1, hin, (by simp only; omega), (tl [(1, 1), (2, 2), (5, 5), (34, 34)] (hF := by simp [FLe, svLe, lk, mkM, isLive, tauL, htt, rowP_esz, rowP_elem, rowP_st, rowP_row, rowP_dvs]) (hM := by simp [MLe, blkLe, svLe, svLes, lk, mkM, isLive, tauL, svLes_ints, svLes_self, isDvs, isDvs_map, isDvs_app, isDvs_take, isDvs_set, isDvs_repl, htt, rowP_esz, rowP_elem, rowP_st, rowP_row, rowP_dvs]))⟩
    · try simp at hc1
      refine awp_exit ?_
      show AWp cx _ _ _
      refine awp_seq ?_
      refine rg ?_
      refine qv (m_ldpa sz24 ag24) ?_
      refine qs (m_st sz24) ?_
      refine qv m_as ?_
      show AWp cx _ _ _
      refine awp_ret ?_
      have hse : (turnY y).steps.take i = (turnY y).steps := List.take_of_length_le (by simp [turnY]; omega)
      rw [turn_ok h0]
      exact x2d (rv := [.cell 2 24, .tmp 3]) (s0 := .agg [.dv (i64 y.places), .sl 34 0 0 i]) (s1 := .dv (i64 0)) (.inr rfl) (by simp only [resSV, loadSV, St.look, St.ev, lk, mkM, blkOf, svOf, svOfCell, reduceIte, Nat.reduceAdd, Nat.reduceEqDiff, Nat.reduceMul, sz24, ag24]; rfl) (retOk_dv (data_agg (args_cons (.dv _ trivial) (args_cons (data_rowP (L := (turnY y).steps) (by simp only [mkM, reduceIte, Nat.reduceEqDiff, hse] <;> rfl) trivial (by simp [turnY]; omega) (fun _ => trivial)) args_nil)))) (retOk_dv (.dv _ trivial))
end Go.Ab.Try
set_option linter.all false
namespace Go.Ab.Try
open Go Go.Ab Go.Proofs
end Go.Ab.Try
