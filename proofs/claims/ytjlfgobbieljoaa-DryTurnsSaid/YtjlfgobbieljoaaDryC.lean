/- Dry20, DryL3, Dry21. -/
import Derived.Test.YtjlfgobbieljoaaDryB
import Derived.Test.YtjlfgobbieljoaaAbH
import Derived.Test.YtjlfgobbieljoaaDryT
set_option linter.all false
set_option linter.all false
namespace Go.Ab.Try
open Go Go.Ab Go.Proofs
def turnS (s : Stp) : Stp := ⟨s.give, s.take⟩
def turnY (y : Yd) : Yd := ⟨y.places, y.steps.map turnS⟩
def rowP (L : List Stp) : Blk := ⟨L.flatMap fun s => [.dv (ints s.take), .dv (ints s.give)], 2, 55, 0, true⟩
theorem rowP_esz {L : List Stp} : (rowP L).esz = 2 := rfl
theorem rowP_elem {L : List Stp} : (rowP L).elem = 55 := rfl
theorem rowP_st {L : List Stp} : (rowP L).st = 0 := rfl
theorem rowP_row {L : List Stp} : (rowP L).row = true := rfl
theorem rowP_nil : (rowP []).cells = [] := rfl
theorem rowP_dvs : ∀ L : List Stp, isDvs (rowP L).cells = true
  | [] => rfl
  | s :: L => by
    show isDvs (.dv (ints s.take) :: .dv (ints s.give) :: (rowP L).cells) = true
    simp [isDvs, rowP_dvs L]
theorem rowP_len : ∀ L : List Stp, (rowP L).cells.length = L.length * 2
  | [] => rfl
  | s :: L => by
    show (SV.dv (ints s.take) :: .dv (ints s.give) :: (rowP L).cells).length = _
    simp [rowP_len L]; omega
theorem rowP_args {ok : Nat → Prop} {okd : DV → Prop} {M : Nat → Nat × Option Blk} (hd : ∀ l, okd (ints l)) : ∀ L : List Stp, ArgsSV (Data ok okd M) (rowP L).cells (flat (L.map dStp))
  | [] => args_nil
  | s :: L => by
    show ArgsSV (Data ok okd M) (.dv (ints s.take) :: .dv (ints s.give) :: (rowP L).cells) (ints s.take :: ints s.give :: flat (L.map dStp))
    exact args_cons (.dv _ (hd _)) (args_cons (.dv _ (hd _)) (rowP_args hd L))
theorem data_rowP {ok : Nat → Prop} {okd : DV → Prop} {M : Nat → Nat × Option Blk} {t g n : Nat} {L : List Stp} (hM : M t = (g, some (rowP L))) (hst : ok 0) (hl : L.length = n) (hd : ∀ l, okd (ints l)) : Data ok okd M (.sl t g 0 n) (.list (L.map dStp)) :=
  data_cells (blk := rowP L) hM hst (by simpa using hl) (fun d h => by obtain ⟨s, _, rfl⟩ := List.mem_map.1 h; rfl) (rowP_args hd L)
theorem rowP_snoc {L : List Stp} {s : Stp} : (rowP (L ++ [s])).cells = (rowP L).cells ++ [.dv (ints s.take), .dv (ints s.give)] := by simp [rowP]
theorem turn_take {y : Yd} {i : Nat} {s : Stp} (h : y.steps[i]? = some s) : (turnY y).steps.take (i + 1) = (turnY y).steps.take i ++ [turnS s] := take_snoc (by simp [turnY, h])
theorem f77 (y : Yd) (hy : y.steps.length ≤ 6) (hs : ∀ s ∈ y.steps, s.take.length ≤ 6 ∧ s.give.length ≤ 6) : ACalls Try.prog 77 [dYd y] (.one (.dv (dYd (turnY y)))) := by
  refine callsA_of Try.func77 rfl rfl (by rw [Try.ntmps77]; simp) fun cx hP hn hg => ?_
  rw [Try.ntmps77] at hn
  rw [startF_lk, none_mkM]
  simp only [List.nil_append, List.append_nil, List.cons_append, zipSV, Nat.reduceAdd]
  refine awp_seq ?_
  refine rg ?_
  refine qp m_box ?_
  refine qp (m_al ze24) ?_
  show AWp cx _ _ _
  refine awp_seq ?_
  refine rg ?_
  refine qv (m_fdp fd24_0) ?_
  refine qv (m_ldp sz3 ag3) ?_
  refine qv (m_bld pl24 ze24) ?_
  refine qp (m_al ze24) ?_
  refine qs (m_st sz24) ?_
  show AWp cx _ _ _
  refine awp_seq ?_
  refine awp_seq ?_
  refine rg ?_
  refine qv m_as ?_
  show AWp cx _ _ _
  refine awp_block ?_
  refine awp_loop (ι := Nat) (fun i => ⟨lk [(1, .pt 1 0 0), (2, .pt 2 0 0), (3, .pt 3 0 0), (4, .dv (i64 (i : Nat)))], mkM [(1, 0, some ⟨[.dv (i64 (y.places)), .dv (.list ((y.steps).map dStp))], 0, 24, 0, false⟩), (2, 0, some ⟨[.dv (i64 0), .nils], 0, 24, 0, false⟩), (3, 0, some ⟨[.dv (i64 y.places), .sl 35 0 0 i], 0, 24, 0, false⟩), (35, 0, some (rowP ((turnY y).steps.take i)))]⟩) (fun i => i ≤ y.steps.length) (fun i => y.steps.length - i) 0 (by simp) (tl [(1, 1), (2, 2), (3, 3)] (hF := by simp [FLe, svLe, lk, mkM, isLive, tauL, rowP_nil, rowP_esz, rowP_elem, rowP_st, rowP_row]) (hM := by simp [MLe, blkLe, svLe, svLes, lk, mkM, isLive, tauL, svLes_ints, svLes_self, isDvs, isDvs_map, isDvs_app, isDvs_take, isDvs_set, isDvs_repl, rowP_nil, rowP_esz, rowP_elem, rowP_st, rowP_row])) ?_
  intro i hφ0
  refine awp_seq ?_
  refine awp_seq ?_
  refine rg ?_
  refine qv m_mv ?_
  refine qv (m_fdp fd24_1) ?_
  refine qv (m_ldp sz22 ag22) ?_
  refine qv (m_len il22) ?_
  refine qv m_lss ?_
  show AWp cx _ _ _
  refine cd (fun hc0 => ?_) (fun hc0 => ?_)
  · try simp at hc0
    refine awp_skip ?_
    show AWp cx _ _ _
    refine awp_seq ?_
    refine awp_block ?_
    refine rd mixed ?_
    have hin : i < y.steps.length := by omega
    obtain ⟨s, hgs⟩ : ∃ s, y.steps[i]? = some s := ⟨_, List.getElem?_eq_getElem hin⟩
    have hsm : s ∈ y.steps := List.mem_of_getElem? hgs
    obtain ⟨hst, hsg⟩ := hs s hsm
    have htt := turn_take hgs
    have htl : (turnY y).steps.length = y.steps.length := by simp [turnY]
    have hpl : (rowP ((turnY y).steps.take i)).cells.length = i * 2 := by rw [rowP_len, List.length_take]; omega
    refine zv (m_fdp fd24_1) ?_
    refine zv (m_ldp sz22 ag22) ?_
    refine zr (m_bsl el25 ze3 sz3) ?_
    refine zv (m_fdp fd24_1) ?_
    refine zv (m_ldp sz22 ag22) ?_
    refine zv m_mv ?_
    first | refine zv (m_ixN el22 sz55) ?_ | refine zv (m_ix el22 sz55) ?_
    refine zv (m_fd fd55_1) ?_
    refine zv (m_ld sz25 ag25) ?_
    refine za1 (m_app1 el25 el25 ze3 sz3 by3) ?_
    refine zr (m_bsl el25 ze3 sz3) ?_
    refine zv (m_fdp fd24_1) ?_
    refine zv (m_ldp sz22 ag22) ?_
    refine zv m_mv ?_
    first | refine zv (m_ixN el22 sz55) ?_ | refine zv (m_ix el22 sz55) ?_
    refine zv (m_fd fd55_0) ?_
    refine zv (m_ld sz25 ag25) ?_
    refine za1 (m_app1 el25 el25 ze3 sz3 by3) ?_
    refine zv (m_bld pl55 ze55) ?_
    refine zr (m_bsl el22 ze55 sz55) ?_
    first | refine za0 (m_app0 el22 el22 ze55 sz55 by55 (hln := hpl)) ?_ | refine za1 (m_app1 el22 el22 ze55 sz55 by55 (hln := hpl)) ?_
    refine zv (m_fdp fd24_1) ?_
    refine zs (m_st sz22) ?_
    refine ⟨by rfl, ?_⟩
    show AWp cx _ _ _
    refine awp_frz 24 ?_
    refine awp_frz 32 ?_
    refine awp_sinkB 35 (cs := (rowP ((turnY y).steps.take i ++ [turnS s])).cells) (by simp only [mkM, reduceIte, Nat.reduceEqDiff] <;> rfl) ?_ hg ?_
    · rw [rowP_snoc]
      exact sinkC_app (sinkC_refl _) ⟨.inr ⟨_, rfl, data_ints (L := s.give) (by simp only [mkM, reduceIte, Nat.reduceEqDiff] <;> rfl) rfl rfl rfl rfl (fun _ => trivial)⟩, .inr ⟨_, rfl, data_ints (L := s.take) (by simp only [mkM, reduceIte, Nat.reduceEqDiff] <;> rfl) rfl rfl rfl rfl (fun _ => trivial)⟩, trivial⟩
    refine rg ?_
    refine qv m_mv ?_
    refine qv m_add ?_
    refine qv m_as ?_
    exact ⟨i + 1, hin, (by simp only; omega), (tl [(1, 1), (2, 2), (3, 3), (35, 35)] (hF := by simp [FLe, svLe, lk, mkM, isLive, tauL, htt, rowP_esz, rowP_elem, rowP_st, rowP_row, rowP_dvs]) (hM := by simp [MLe, blkLe, svLe, svLes, lk, mkM, isLive, tauL, svLes_ints, svLes_self, isDvs, isDvs_map, isDvs_app, isDvs_take, isDvs_set, isDvs_repl, htt, rowP_esz, rowP_elem, rowP_st, rowP_row, rowP_dvs]))⟩
  · try simp at hc0
    refine awp_exit ?_
    show AWp cx _ _ _
    refine awp_seq ?_
    refine rg ?_
    refine qv (m_ldpa sz24 ag24) ?_
    refine qs (m_st sz24) ?_
    show AWp cx _ _ _
    refine awp_ret ?_
    have hse : (turnY y).steps.take i = (turnY y).steps := List.take_of_length_le (by simp [turnY]; omega)
    refine end_cell (.inr rfl) (s1 := .agg [.dv (i64 y.places), .sl 35 0 0 i]) (by simp only [loadSV, sz24, ag24, St.look, St.ev, lk, mkM, blkOf, svOf, svOfCell, reduceIte, Nat.reduceAdd, Nat.reduceEqDiff, Nat.reduceMul]; rfl) (data_agg (args_cons (.dv _ trivial) (args_cons (data_rowP (L := (turnY y).steps) (by simp only [mkM, reduceIte, Nat.reduceEqDiff, hse] <;> rfl) trivial (by simp [turnY]; omega) (fun _ => trivial)) args_nil)))
end Go.Ab.Try
set_option linter.all false
namespace Go.Ab.Try
open Go Go.Ab Go.Proofs
theorem srt_turn {y : Yd} {S : List Int} : srtB giveS takeS (turnY y) S = srtB takeS giveS y S := by
  simp only [srtB, turnY, List.any_map]
  rfl
end Go.Ab.Try
set_option linter.all false
namespace Go.Ab.Try
open Go Go.Ab Go.Proofs
end Go.Ab.Try
