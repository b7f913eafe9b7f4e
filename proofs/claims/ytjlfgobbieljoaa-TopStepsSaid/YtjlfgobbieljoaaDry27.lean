/- The functions of the dry laws, part 27. The walks are written by wip/gen/gw.py. -/
import Derived.Test.YtjlfgobbieljoaaDryC
import Derived.Test.YtjlfgobbieljoaaAbH
import Derived.Test.YtjlfgobbieljoaaDryB
import Derived.Test.YtjlfgobbieljoaaDryC
import Derived.Test.YtjlfgobbieljoaaDryL1
import Derived.Test.YtjlfgobbieljoaaDryT
set_option linter.all false
namespace Go.Ab.Try
open Go Go.Ab Go.Proofs
def turnR (y : Yd) : Yd × Int := if validate y ≠ 0 then (⟨0, []⟩, validate y) else (turnY y, 0)
theorem turn_bad {y : Yd} (h : validate y ≠ 0) : turnR y = (⟨0, []⟩, validate y) := by unfold turnR; rw [if_pos h]
theorem turn_ok {y : Yd} (h : validate y = 0) : turnR y = (turnY y, 0) := by unfold turnR; rw [if_neg (by simp [h])]
theorem awp_join {cx : Cx} {X R : Code} {K : Exit → St → Prop} {S : St} (S1 : St) (hJ : AWp cx R K S1) (h : (∀ T, Le cx T S1 → AWp cx R K T) → AWp cx (.seq X R) K S) : AWp cx (.seq X R) K S := h fun _ hT => AWp.le hT hJ
theorem turn_len6 {y : Yd} (h : VYd y) : ∀ s ∈ y.steps, s.take.length ≤ 6 ∧ s.give.length ≤ 6 := by
  obtain ⟨v1, v2, v3, v4⟩ := validate_ok h
  intro s hs
  have h4 := v4 s hs
  simp only [okStp, Bool.and_eq_true] at h4
  have := allIn_len h4.1
  have := allIn_len h4.2
  omega
theorem x2d {P : Program} {okd : DV → Prop} {S : St} {rv : List ResultVar} {x : Exit} {s0 s1 : SV} {d0 d1 : DV} (he : x = .normal ∨ x = .ret) (h : resSV P S rv = some [s0, s1]) (h0 : RetOk okd S.M s0 (.dv d0)) (h1 : RetOk okd S.M s1 (.dv d1)) : EndK P okd rv (.many [.dv d0, .dv d1]) x S :=
  ⟨he, [s0, s1], [.dv d0, .dv d1], h, ⟨h0, h1, trivial⟩, ra_d (by simp [AllDv1]), rfl⟩
theorem okSet_of {pl : Int} {set : List Int} (h : set.Pairwise (· < ·)) (hi : ∀ x ∈ set, 0 ≤ x ∧ x < pl) : okSet pl set = true := by
  refine okSet_yes fun j hj => ?_
  have h1 := hi _ (List.mem_of_getElem? (sg_get hj))
  unfold okAt within
  simp only [Bool.and_eq_true, Bool.or_eq_true, decide_eq_true_eq]
  refine ⟨by omega, ?_⟩
  by_cases e : j = 0
  · exact .inl e
  · right
    have h2 := List.pairwise_iff_getElem.1 h (j - 1) j (by omega) hj (by omega)
    have h3 := sg_get (l := set) (i := j - 1) (by omega)
    have h4 := sg_get hj
    rw [List.getElem?_eq_getElem (by omega)] at h3
    rw [List.getElem?_eq_getElem hj] at h4
    rw [← Option.some.inj h3, ← Option.some.inj h4]; exact h2
theorem great_placed {tc nd : Stp → List Int} {y : Yd} {set : List Int} (h : placedE y set = 0) : placedE y (great tc nd y set) = 0 := by
  obtain ⟨hv, ho⟩ := placed_ok h
  have hv' : validate y = 0 := hv
  have hs := (great_good (tc := tc) (nd := nd) (y := y) set).2
  unfold placedE
  rw [if_neg (by simp [hv']), if_pos (okSet_of ((okSet_sorted ho).sublist hs) fun x hx => okSet_in ho x (hs.subset hx))]
theorem siph_top {y : Yd} {set : List Int} (h : (siphR y set).2 = 0) : isSiphR y (siphR y set).1 = (true, 0) := by
  unfold siphR at h ⊢
  split at h
  · rename_i e; exact absurd h e
  · rename_i e
    have e' : placedE y set = 0 := Classical.not_not.1 e
    rw [if_neg e]
    unfold isSiphR
    dsimp only
    rw [great_placed e', (great_good (tc := giveS) (nd := takeS) (y := y) set).1]; rfl
theorem trap_top {y : Yd} {set : List Int} (h : (trapR y set).2 = 0) : isTrapR y (trapR y set).1 = (true, 0) := by
  unfold trapR at h ⊢
  split at h
  · rename_i e; exact absurd h e
  · rename_i e
    have e' : placedE y set = 0 := Classical.not_not.1 e
    rw [if_neg e]
    unfold isTrapR
    dsimp only
    rw [great_placed e', (great_good (tc := takeS) (nd := giveS) (y := y) set).1]; rfl
theorem weigh_ok {y : Yd} {w m l : List Int} (h : (runR y m l).2.2 = 0) (hi : (invR y w).2 = 0) : (weighR y w m).2 = 0 ∧ (weighR y w (runR y m l).1).2 = 0 := by
  obtain ⟨hv, hm, h40, hl, hf, h2, e⟩ := runR_ok h
  have h0 : (runFrom y m l 0).2.2 = 0 := by rw [← e]; exact h
  obtain ⟨r1, _⟩ := run_pt hv l m 0 hm hl h0
  have hf2 := filledE_of hv r1
  have hv' : validate y = 0 := hv
  have ha : allIn w y.places (-20) 20 = true := by
    unfold invR at hi
    rw [if_neg (by simp [hv'])] at hi
    split at hi
    · rename_i e; exact e
    · cases hi
  rw [e]
  simp [weighR, hf, hf2, ha]
set_option maxHeartbeats 4000000 in
theorem f39 (y : Yd) : ACalls Try.prog 39 [dYd y] (.many [.dv (dYd (turnR y).1), .dv (i64 (turnR y).2)]) := by
  refine callsA_of Try.func39 rfl rfl (by rw [Try.ntmps39]; simp) fun cx hP hn hg => ?_
  rw [Try.ntmps39] at hn
  rw [startF_lk, none_mkM]
  simp only [List.nil_append, List.append_nil, List.cons_append, zipSV, Nat.reduceAdd]
  refine awp_seq ?_
  refine rg ?_
  refine qp m_box ?_
  refine qp (m_al ze24) ?_
  refine qv m_as ?_
  show AWp cx _ _ _
  refine awp_seq ?_
  refine awp_seq ?_
  refine rg ?_
  refine qv (m_ldpa sz24 ag24) ?_
  refine qqF (f28 y) ?_
  refine qv m_as ?_
  show AWp cx _ _ _
  refine awp_seq ?_
  refine rg ?_
  refine qv m_mv ?_
  refine qv m_neq ?_
  show AWp cx _ _ _
  refine cd (fun hc0 => ?_) (fun hc0 => ?_)
  · skip
    have h0 : validate y ≠ 0 := by simpa using hc0
    refine awp_seq ?_
    refine rg ?_
    refine qv (m_bld pl24 ze24) ?_
    refine qv m_mv ?_
    refine qs (m_st sz24) ?_
    refine qv m_as ?_
    show AWp cx _ _ _
    refine awp_ret ?_
    rw [turn_bad h0]
    exact x2d (rv := [.cell 2 24, .tmp 3]) (s0 := .agg [.dv (i64 0), .nils]) (s1 := .dv (i64 (validate y))) (.inr rfl) (by simp only [resSV, loadSV, St.look, St.ev, lk, mkM, blkOf, svOf, svOfCell, reduceIte, Nat.reduceAdd, Nat.reduceEqDiff, Nat.reduceMul, sz24, ag24]; rfl) (.agg _ _ rfl fun j s c hs hd => by match j, hs, hd with | 0, hs, hd => cases hs; cases hd; exact retOk_dv (.dv _ trivial) | 1, hs, hd => cases hs; cases hd; exact .nils) (retOk_dv (.dv _ trivial))
  · skip
    have h0 : validate y = 0 := by simpa using hc0
    obtain ⟨v1, v2, v3, v4⟩ := validate_ok h0
    have hs := turn_len6 h0
    refine awp_skip ?_
    show AWp cx _ _ _
    refine awp_seq ?_
    refine rg ?_
    refine qv (m_fdp fd24_0) ?_
    refine qv (m_ldp sz3 ag3) ?_
    refine qv (m_bld pl24 ze24) ?_
    refine qp (m_al ze24) ?_
    refine qs (m_st sz24) ?_
    show AWp cx _ _ _
    refine awp_seq ?_
    refine awp_seq ?_
    refine rg ?_
    refine qv (m_fdp fd24_1) ?_
    refine qv (m_ldp sz22 ag22) ?_
    refine qv (m_len il22) ?_
    refine qv m_mv ?_
    show AWp cx _ _ _
    refine awp_block ?_
    refine awp_loop (ι := Nat) (fun i => ⟨lk [(2, .pt 2 0 0), (5, .pt 5 0 0), (18, .dv (.list ((y.steps).map dStp))), (19, .dv (i64 ((y.steps.length : Int)))), (20, .dv (i64 (i : Nat)))], mkM [(2, 0, some ⟨[.dv (i64 0), .nils], 0, 24, 0, false⟩), (5, 0, some ⟨[.dv (i64 y.places), .sl 34 0 0 i], 0, 24, 0, false⟩), (34, 0, some (rowP ((turnY y).steps.take i)))]⟩) (fun i => i ≤ y.steps.length) (fun i => y.steps.length - i) 0 (by simp) (tl [(2, 2), (5, 5)] (hF := by simp [FLe, svLe, lk, mkM, isLive, tauL, rowP_nil, rowP_esz, rowP_elem, rowP_st, rowP_row]) (hM := by simp [MLe, blkLe, svLe, svLes, lk, mkM, isLive, tauL, svLes_ints, svLes_self, isDvs, isDvs_map, isDvs_app, isDvs_take, isDvs_set, isDvs_repl, rowP_nil, rowP_esz, rowP_elem, rowP_st, rowP_row])) ?_
    intro i hφ0
    refine awp_seq ?_
    refine rg ?_
    refine qv m_lss ?_
    show AWp cx _ _ _
    refine awp_seq ?_
    refine cd (fun hc1 => ?_) (fun hc1 => ?_)
    · try simp at hc1
      refine awp_skip ?_
      show AWp cx _ _ _
      refine awp_seq ?_
      refine awp_block ?_
      refine awp_seq ?_
      have hin : i < y.steps.length := by omega
      obtain ⟨s, hgs⟩ : ∃ s, y.steps[i]? = some s := ⟨_, List.getElem?_eq_getElem hin⟩
      have hsm : s ∈ y.steps := List.mem_of_getElem? hgs
      obtain ⟨hst, hsg⟩ := hs s hsm
      have htt := turn_take hgs
      have htl : (turnY y).steps.length = y.steps.length := by simp [turnY]
      have hpl : (rowP ((turnY y).steps.take i)).cells.length = i * 2 := by rw [rowP_len, List.length_take]; omega
      refine rg ?_
      first | refine qv (m_ixN el22 sz55) ?_ | refine qv (m_ix el22 sz55) ?_
      refine qv (m_lda sz55 ag55) ?_
      refine qp (m_al ze55) ?_
      refine qs (m_st sz55) ?_
      show AWp cx _ _ _
      refine rd mixed ?_
      refine zv (m_fdp fd24_1) ?_
      refine zv (m_ldp sz22 ag22) ?_
      refine zv (m_fdp fd55_1) ?_
      refine zv (m_ldp sz25 ag25) ?_
      refine zqF (R := []) (f76 s.give (by omega)) ?_
      refine zv (m_fdp fd55_0) ?_
      refine zv (m_ldp sz25 ag25) ?_
      refine zqF (R := []) (f76 s.take (by omega)) ?_
      refine zv (m_bld pl55 ze55) ?_
      refine zr (m_bsl el22 ze55 sz55) ?_
      first | refine za0 (m_app0 el22 el22 ze55 sz55 by55 (hln := hpl)) ?_ | refine za1 (m_app1 el22 el22 ze55 sz55 by55 (hln := hpl)) ?_
      refine zv (m_fdp fd24_1) ?_
      refine zs (m_st sz22) ?_
      refine ⟨by rfl, ?_⟩
      show AWp cx _ _ _
      refine awp_frz 28 ?_
      refine awp_frz 31 ?_
      refine awp_sinkB 34 (cs := (rowP ((turnY y).steps.take i ++ [turnS s])).cells) (by simp only [mkM, reduceIte, Nat.reduceEqDiff] <;> rfl) ?_ hg ?_
      · rw [rowP_snoc]
        exact sinkC_app (sinkC_refl _) ⟨.inr ⟨_, rfl, data_ints (L := s.give) (by simp only [mkM, reduceIte, Nat.reduceEqDiff] <;> rfl) rfl rfl rfl rfl (fun _ => trivial)⟩, .inr ⟨_, rfl, data_ints (L := s.take) (by simp only [mkM, reduceIte, Nat.reduceEqDiff] <;> rfl) rfl rfl rfl rfl (fun _ => trivial)⟩, trivial⟩
      refine rg ?_
      refine qv m_add ?_
      refine qv m_mv ?_
      exact ⟨i + 1, hin, (by simp only; omega), (tl [(1, 1), (2, 2), (5, 5), (34, 34)] (hF := by simp [FLe, svLe, lk, mkM, isLive, tauL, htt, rowP_esz, rowP_elem, rowP_st, rowP_row, rowP_dvs]) (hM := by simp [MLe, blkLe, svLe, svLes, lk, mkM, isLive, tauL, svLes_ints, svLes_self, isDvs, isDvs_map, isDvs_app, isDvs_take, isDvs_set, isDvs_repl, htt, rowP_esz, rowP_elem, rowP_st, rowP_row, rowP_dvs]))⟩
    · try simp at hc1
      refine awp_exit ?_
      show AWp cx _ _ _
      refine awp_seq ?_
      refine rg ?_
      refine qv (m_ldpa sz24 ag24) ?_
      refine qs (m_st sz24) ?_
      refine qv m_as ?_
      show AWp cx _ _ _
      refine awp_ret ?_
      have hse : (turnY y).steps.take i = (turnY y).steps := List.take_of_length_le (by simp [turnY]; omega)
      rw [turn_ok h0]
      exact x2d (rv := [.cell 2 24, .tmp 3]) (s0 := .agg [.dv (i64 y.places), .sl 34 0 0 i]) (s1 := .dv (i64 0)) (.inr rfl) (by simp only [resSV, loadSV, St.look, St.ev, lk, mkM, blkOf, svOf, svOfCell, reduceIte, Nat.reduceAdd, Nat.reduceEqDiff, Nat.reduceMul, sz24, ag24]; rfl) (retOk_dv (data_agg (args_cons (.dv _ trivial) (args_cons (data_rowP (L := (turnY y).steps) (by simp only [mkM, reduceIte, Nat.reduceEqDiff, hse] <;> rfl) trivial (by simp [turnY]; omega) (fun _ => trivial)) args_nil)))) (retOk_dv (.dv _ trivial))
theorem f55 (m set : List Int) (hm : ∀ x ∈ m, 0 ≤ x ∧ x ≤ 50) (hs : set.length ≤ 1000) : ACallsF Try.prog 55 [ints m, ints set] (.one (.dv (i64 (tok m set)))) := by
  refine callsF_of Try.func55 rfl rfl (by rw [Try.ntmps55]; simp) fun cx hP hn hg => ?_
  rw [Try.ntmps55] at hn
  rw [startF_lk, none_mkM]
  simp only [List.nil_append, List.append_nil, List.cons_append, zipSV, Nat.reduceAdd]
  refine awp_seq ?_
  refine rg ?_
  refine qv m_as ?_
  show AWp cx _ _ _
  refine awp_seq ?_
  refine rg ?_
  refine qv m_as ?_
  show AWp cx _ _ _
  refine awp_seq ?_
  refine awp_seq ?_
  refine rg ?_
  refine qv m_as ?_
  show AWp cx _ _ _
  refine awp_block ?_
  refine awp_loop (ι := Nat) (fun i => ⟨lk [(0, .dv (ints (m))), (1, .dv (ints (set))), (5, .dv (i64 (tok m (set.take i)))), (6, .dv (i64 (i : Nat)))], mkM []⟩) (fun i => i ≤ set.length) (fun i => set.length - i) 0 (by simp) (tl [] (hF := by simp [FLe, svLe, lk, mkM, isLive, tauL, tok]) (hM := by simp [MLe, blkLe, svLe, svLes, lk, mkM, isLive, tauL, svLes_ints, svLes_self, isDvs, isDvs_map, isDvs_app, isDvs_take, isDvs_set, isDvs_repl, tok])) ?_
  intro i hφ0
  refine awp_seq ?_
  refine awp_seq ?_
  refine rg ?_
  refine qv m_mv ?_
  refine qv m_mv ?_
  refine qv (m_len il25) ?_
  refine qv m_lss ?_
  show AWp cx _ _ _
  refine cd (fun hc0 => ?_) (fun hc0 => ?_)
  · try simp at hc0
    refine awp_skip ?_
    show AWp cx _ _ _
    refine awp_seq ?_
    refine awp_block ?_
    refine awp_seq ?_
    refine rg ?_
    have hin : i < set.length := by omega
    have hgi := sg_get hin
    have hsn := tok_snoc (m := m) hgi
    have hb := tok_bd hm (set.take i)
    have htl : (set.take i).length ≤ 1000 := by simp; omega
    have hb1 := tokAt_bd hm (sg set i)
    have ho1 : sg set i < 0 → tokAt m (sg set i) = 0 := fun h => tok_off (by omega)
    have ho2 : (m.length : Int) ≤ sg set i → tokAt m (sg set i) = 0 := fun h => tok_off (by omega)
    refine qv m_mv ?_
    refine qv m_mv ?_
    first | refine qv (m_ixN el25 sz3) ?_ | refine qv (m_ix el25 sz3) ?_
    refine qv (m_ld sz3 ag3) ?_
    refine qv m_geq ?_
    refine qx m_mv (fun hg18 => ?_) (fun hg18 => ?_)
    · try simp at hg18
      refine qv m_mv ?_
      refine qv m_mv ?_
      first | refine qv (m_ixN el25 sz3) ?_ | refine qv (m_ix el25 sz3) ?_
      refine qv (m_ld sz3 ag3) ?_
      refine qv m_mv ?_
      refine qv (m_len il25) ?_
      refine qv m_lss ?_
      refine qv m_pk ?_
      show AWp cx _ _ _
      refine cd (fun hc1 => ?_) (fun hc1 => ?_)
      · try simp at hc1
        have hq := tok_here (m := m) (q := sg set i) (by simp_all; try omega) (by simp_all; try omega)
        refine rg ?_
        refine qv m_mv ?_
        refine qv m_mv ?_
        refine qv m_mv ?_
        refine qv m_mv ?_
        first | refine qv (m_ixN el25 sz3) ?_ | refine qv (m_ix el25 sz3) ?_
        refine qv (m_ld sz3 ag3) ?_
        first | refine qv (m_ixN el25 sz3) ?_ | refine qv (m_ix el25 sz3) ?_
        refine qv (m_ld sz3 ag3) ?_
        refine qv m_add ?_
        refine qv m_as ?_
        show AWp cx _ _ _
        refine rg ?_
        refine qv m_mv ?_
        refine qv m_add ?_
        refine qv m_as ?_
        exact ⟨i + 1, hin, (by simp only; omega), (tl [] (hF := by simp [FLe, svLe, lk, mkM, isLive, tauL, hsn, *]) (hM := by simp [MLe, blkLe, svLe, svLes, lk, mkM, isLive, tauL, svLes_ints, svLes_self, isDvs, isDvs_map, isDvs_app, isDvs_take, isDvs_set, isDvs_repl, hsn, *]))⟩
      · try simp at hc1
        refine awp_skip ?_
        show AWp cx _ _ _
        refine rg ?_
        refine qv m_mv ?_
        refine qv m_add ?_
        refine qv m_as ?_
        exact ⟨i + 1, hin, (by simp only; omega), (tl [] (hF := by simp [FLe, svLe, lk, mkM, isLive, tauL, hsn, *]) (hM := by simp [MLe, blkLe, svLe, svLes, lk, mkM, isLive, tauL, svLes_ints, svLes_self, isDvs, isDvs_map, isDvs_app, isDvs_take, isDvs_set, isDvs_repl, hsn, *]))⟩
    · try simp at hg18
      refine qk ?_
      refine qk ?_
      refine qk ?_
      refine qk ?_
      refine qk ?_
      refine qk ?_
      refine qk ?_
      refine qv m_pk ?_
      show AWp cx _ _ _
      refine cdF (hb := by first | rfl | simp | simp_all) (ht := ?_)
      refine awp_skip ?_
      show AWp cx _ _ _
      refine rg ?_
      refine qv m_mv ?_
      refine qv m_add ?_
      refine qv m_as ?_
      exact ⟨i + 1, hin, (by simp only; omega), (tl [] (hF := by simp [FLe, svLe, lk, mkM, isLive, tauL, hsn, *]) (hM := by simp [MLe, blkLe, svLe, svLes, lk, mkM, isLive, tauL, svLes_ints, svLes_self, isDvs, isDvs_map, isDvs_app, isDvs_take, isDvs_set, isDvs_repl, hsn, *]))⟩
  · try simp at hc0
    refine awp_exit ?_
    show AWp cx _ _ _
    refine awp_seq ?_
    refine rg ?_
    refine qv m_mv ?_
    refine qv m_as ?_
    show AWp cx _ _ _
    refine awp_ret ?_
    exact x1 (hr := (rI_ (by rw [List.take_of_length_le (by omega)])))
theorem f89e (F : DV) : ACallsF Try.prog 89 [.list [], F] (.one (.dv (i64 (-1)))) := by
  refine callsF_of Try.func89 rfl rfl (by rw [Try.ntmps89]; simp) fun cx hP hn hg => ?_
  rw [Try.ntmps89] at hn
  rw [startF_lk, none_mkM]
  simp only [List.nil_append, List.append_nil, List.cons_append, zipSV, Nat.reduceAdd]
  refine awp_seq ?_
  refine rg ?_
  refine qv m_as ?_
  show AWp cx _ _ _
  refine awp_seq ?_
  refine awp_seq ?_
  refine rg ?_
  refine qv m_mv ?_
  refine qv (m_len (L := ([] : List (List Int))) (F := ints) il91) ?_
  refine qv m_mv ?_
  show AWp cx _ _ _
  refine awp_block ?_
  refine awp_loop (ι := Nat) (fun i => ⟨lk [(0, .dv (.list ((([] : List (List Int))).map ints))), (1, .dv (F)), (7, .dv (i64 0)), (8, .dv (i64 0))], mkM []⟩) (fun i => True) (fun i => 0) 0 (by simp) (tl []) ?_
  intro i hφ0
  refine awp_seq ?_
  refine rg ?_
  refine qv m_lss ?_
  show AWp cx _ _ _
  refine awp_seq ?_
  refine cdF (hb := by simp) (ht := ?_)
  refine awp_exit ?_
  show AWp cx _ _ _
  refine awp_seq ?_
  refine rg ?_
  refine qv m_as ?_
  show AWp cx _ _ _
  refine awp_ret ?_
  exact x1 (hr := (rI_))
theorem f46t : ACallsF Try.prog 46 [dYd (⟨3, []⟩ : Yd)] (.many [.dv (i64 3), .dv (i64 0)]) := by
  have hv : validate (⟨3, []⟩ : Yd) = 0 := by decide
  refine callsF_of Try.func46 rfl rfl (by rw [Try.ntmps46]; simp) fun cx hP hn hg => ?_
  rw [Try.ntmps46] at hn
  rw [startF_lk, none_mkM]
  simp only [List.nil_append, List.append_nil, List.cons_append, zipSV, Nat.reduceAdd]
  refine awp_seq ?_
  refine rg ?_
  refine qp m_box ?_
  refine qv m_as ?_
  refine qv m_as ?_
  show AWp cx _ _ _
  refine awp_seq ?_
  refine awp_seq ?_
  refine rg ?_
  refine qv (m_ldpa sz24 ag24) ?_
  refine qqF (f28 (⟨3, []⟩ : Yd)) ?_
  refine qv m_as ?_
  show AWp cx _ _ _
  refine awp_seq ?_
  refine rg ?_
  refine qv m_mv ?_
  refine qv m_neq ?_
  show AWp cx _ _ _
  refine cdF (hb := by simp [hv]) (ht := ?_)
  refine awp_skip ?_
  show AWp cx _ _ _
  refine awp_seq ?_
  refine rg ?_
  refine qv m_as ?_
  show AWp cx _ _ _
  refine awp_seq ?_
  refine awp_seq ?_
  refine rg ?_
  refine qv (m_fdp fd24_1) ?_
  refine qv (m_ldp sz22 ag22) ?_
  refine qv (m_len (L := ([] : List Stp)) (F := dStp) il22) ?_
  refine qv m_mv ?_
  show AWp cx _ _ _
  refine awp_block ?_
  refine awp_loop (ι := Nat) (fun i => ⟨lk [(1, .pt 1 0 0), (5, .nils), (26, .dv (.list ((((⟨3, []⟩ : Yd)).steps).map dStp))), (27, .dv (i64 0)), (28, .dv (i64 0))], mkM [(1, 0, some ⟨[.dv (i64 (((⟨3, []⟩ : Yd)).places)), .dv (.list ((((⟨3, []⟩ : Yd)).steps).map dStp))], 0, 24, 0, false⟩)]⟩) (fun i => True) (fun i => 0) 0 (by simp) (tl [(1, 1)]) ?_
  intro i hφ0
  refine awp_seq ?_
  refine rg ?_
  refine qv m_lss ?_
  show AWp cx _ _ _
  refine awp_seq ?_
  refine cdF (hb := by simp) (ht := ?_)
  refine awp_exit ?_
  show AWp cx _ _ _
  refine awp_seq ?_
  refine awp_sink 5 (d := .list []) .nils hg ?_
  refine rg ?_
  refine qv m_as ?_
  show AWp cx _ _ _
  refine awp_seq ?_
  refine awp_seq ?_
  refine rg ?_
  refine qv (m_fdp fd24_0) ?_
  refine qv (m_ldp sz3 ag3) ?_
  refine qv m_mv ?_
  show AWp cx _ _ _
  refine awp_block ?_
  refine awp_loop (ι := Nat) (fun p => ⟨lk [(1, .pt 1 0 0), (5, .dv (.list [])), (10, .dv (i64 0)), (58, .dv (i64 (((⟨3, []⟩ : Yd)).places))), (59, .dv (i64 (p : Nat)))], mkM [(1, 0, some ⟨[.dv (i64 (((⟨3, []⟩ : Yd)).places)), .dv (.list ((((⟨3, []⟩ : Yd)).steps).map dStp))], 0, 24, 0, false⟩)]⟩) (fun p => p ≤ 3) (fun p => 3 - p) 0 (by simp) (tl [(1, 1)]) ?_
  intro p hφ2
  refine awp_seq ?_
  refine rg ?_
  refine qv m_lss ?_
  show AWp cx _ _ _
  refine awp_seq ?_
  refine cd (fun hc3 => ?_) (fun hc3 => ?_)
  · try simp at hc3
    refine awp_skip ?_
    show AWp cx _ _ _
    refine awp_seq ?_
    refine awp_block ?_
    refine awp_seq ?_
    refine rg ?_
    refine qv m_mv ?_
    refine qp (m_al ze3) ?_
    refine qs (m_st sz3) ?_
    show AWp cx _ _ _
    refine awp_seq ?_
    refine rg ?_
    refine qv m_mv ?_
    refine qv m_mv ?_
    refine qv (m_cut (L := ([] : List (List Int))) (F := ints) (L' := []) (hL := rfl) el91 sz25) ?_
    refine qfn ?_
    refine qqF (f89e (.fn 90 [] [.cptr [i64 (p : Nat)]])) ?_
    refine qv m_as ?_
    show AWp cx _ _ _
    refine awp_seq ?_
    refine awp_seq ?_
    refine rg ?_
    refine qv m_mv ?_
    refine qv m_lss ?_
    show AWp cx _ _ _
    refine cdT (hb := by simp) (ht := ?_)
    refine awp_exit ?_
    show AWp cx _ _ _
    refine rg ?_
    refine qv m_add ?_
    refine qv m_mv ?_
    exact ⟨p + 1, (by omega), (by simp only; omega), (tl [(1, 1)])⟩
  · try simp at hc3
    obtain rfl : p = 3 := by omega
    refine awp_exit ?_
    show AWp cx _ _ _
    refine awp_seq ?_
    refine rg ?_
    refine qv (m_fdp fd24_0) ?_
    refine qv (m_ldp sz3 ag3) ?_
    refine qv m_mv ?_
    refine qv m_sub ?_
    refine qv m_as ?_
    refine qv m_as ?_
    show AWp cx _ _ _
    refine awp_ret ?_
    exact x2 (hr := (rI_)) (hr' := (rI_))
end Go.Ab.Try
