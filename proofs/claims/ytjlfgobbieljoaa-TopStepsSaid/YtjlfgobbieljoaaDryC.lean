/- Dry20, DryL3, Dry21. -/
import Derived.Test.YtjlfgobbieljoaaDryB
import Derived.Test.YtjlfgobbieljoaaAbH
import Derived.Test.YtjlfgobbieljoaaDryT
set_option linter.all false
set_option linter.all false
namespace Go.Ab.Try
open Go Go.Ab Go.Proofs
def turnS (s : Stp) : Stp := ⟨s.give, s.take⟩
def turnY (y : Yd) : Yd := ⟨y.places, y.steps.map turnS⟩
def rowP (L : List Stp) : Blk := ⟨L.flatMap fun s => [.dv (ints s.take), .dv (ints s.give)], 2, 55, 0, true⟩
theorem rowP_esz {L : List Stp} : (rowP L).esz = 2 := rfl
theorem rowP_elem {L : List Stp} : (rowP L).elem = 55 := rfl
theorem rowP_st {L : List Stp} : (rowP L).st = 0 := rfl
theorem rowP_row {L : List Stp} : (rowP L).row = true := rfl
theorem rowP_nil : (rowP []).cells = [] := rfl
theorem rowP_dvs : ∀ L : List Stp, isDvs (rowP L).cells = true
  | [] => rfl
  | s :: L => by
    show isDvs (.dv (ints s.take) :: .dv (ints s.give) :: (rowP L).cells) = true
    simp [isDvs, rowP_dvs L]
theorem rowP_len : ∀ L : List Stp, (rowP L).cells.length = L.length * 2
  | [] => rfl
  | s :: L => by
    show (SV.dv (ints s.take) :: .dv (ints s.give) :: (rowP L).cells).length = _
    simp [rowP_len L]; omega
theorem rowP_args {ok : Nat → Prop} {okd : DV → Prop} {M : Nat → Nat × Option Blk} (hd : ∀ l, okd (ints l)) : ∀ L : List Stp, ArgsSV (Data ok okd M) (rowP L).cells (flat (L.map dStp))
  | [] => args_nil
  | s :: L => by
    show ArgsSV (Data ok okd M) (.dv (ints s.take) :: .dv (ints s.give) :: (rowP L).cells) (ints s.take :: ints s.give :: flat (L.map dStp))
    exact args_cons (.dv _ (hd _)) (args_cons (.dv _ (hd _)) (rowP_args hd L))
theorem data_rowP {ok : Nat → Prop} {okd : DV → Prop} {M : Nat → Nat × Option Blk} {t g n : Nat} {L : List Stp} (hM : M t = (g, some (rowP L))) (hst : ok 0) (hl : L.length = n) (hd : ∀ l, okd (ints l)) : Data ok okd M (.sl t g 0 n) (.list (L.map dStp)) :=
  data_cells (blk := rowP L) hM hst (by simpa using hl) (fun d h => by obtain ⟨s, _, rfl⟩ := List.mem_map.1 h; rfl) (rowP_args hd L)
theorem rowP_snoc {L : List Stp} {s : Stp} : (rowP (L ++ [s])).cells = (rowP L).cells ++ [.dv (ints s.take), .dv (ints s.give)] := by simp [rowP]
theorem turn_take {y : Yd} {i : Nat} {s : Stp} (h : y.steps[i]? = some s) : (turnY y).steps.take (i + 1) = (turnY y).steps.take i ++ [turnS s] := take_snoc (by simp [turnY, h])
theorem f77 (y : Yd) (hy : y.steps.length ≤ 6) (hs : ∀ s ∈ y.steps, s.take.length ≤ 6 ∧ s.give.length ≤ 6) : ACalls Try.prog 77 [dYd y] (.one (.dv (dYd (turnY y)))) := by
  refine callsA_of Try.func77 rfl rfl (by rw [Try.ntmps77]; simp) fun cx hP hn hg => ?_
  rw [Try.ntmps77] at hn
  rw [startF_lk, none_mkM]
  simp only [List.nil_append, List.append_nil, List.cons_append, zipSV, Nat.reduceAdd]
  refine awp_seq ?_
  refine rg ?_
  refine qp m_box ?_
  refine qp (m_al ze24) ?_
  show AWp cx _ _ _
  refine awp_seq ?_
  refine rg ?_
  refine qv (m_fdp fd24_0) ?_
  refine qv (m_ldp sz3 ag3) ?_
  refine qv (m_bld pl24 ze24) ?_
  refine qp (m_al ze24) ?_
  refine qs (m_st sz24) ?_
  show AWp cx _ _ _
  refine awp_seq ?_
  refine awp_seq ?_
  refine rg ?_
  refine qv m_as ?_
  show AWp cx _ _ _
  refine awp_block ?_
  refine awp_loop (ι := Nat) (fun i => ⟨lk [(1, .pt 1 0 0), (2, .pt 2 0 0), (3, .pt 3 0 0), (4, .dv (i64 (i : Nat)))], mkM [(1, 0, some ⟨[.dv (i64 (y.places)), .dv (.list ((y.steps).map dStp))], 0, 24, 0, false⟩), (2, 0, some ⟨[.dv (i64 0), .nils], 0, 24, 0, false⟩), (3, 0, some ⟨[.dv (i64 y.places), .sl 35 0 0 i], 0, 24, 0, false⟩), (35, 0, some (rowP ((turnY y).steps.take i)))]⟩) (fun i => i ≤ y.steps.length) (fun i => y.steps.length - i) 0 (by simp) (tl [(1, 1), (2, 2), (3, 3)] (hF := by simp [FLe, svLe, lk, mkM, isLive, tauL, rowP_nil, rowP_esz, rowP_elem, rowP_st, rowP_row]) (hM := by simp [MLe, blkLe, svLe, svLes, lk, mkM, isLive, tauL, svLes_ints, svLes_self, isDvs, isDvs_map, isDvs_app, isDvs_take, isDvs_set, isDvs_repl, rowP_nil, rowP_esz, rowP_elem, rowP_st, rowP_row])) ?_
  intro i hφ0
  refine awp_seq ?_
  refine awp_seq ?_
  refine rg ?_
  refine qv m_mv ?_
  refine qv (m_fdp fd24_1) ?_
  refine qv (m_ldp sz22 ag22) ?_
  refine qv (m_len il22) ?_
  refine qv m_lss ?_
  show AWp cx _ _ _
  refine cd (fun hc0 => ?_) (fun hc0 => ?_)
  · try simp at hc0
    refine awp_skip ?_
    show AWp cx _ _ _
    refine awp_seq ?_
    refine awp_block ?_
    refine rd mixed ?_
    have hin : i < y.steps.length := by omega
    obtain ⟨s, hgs⟩ : ∃ s, y.steps[i]? = some s := ⟨_, List.getElem?_eq_getElem hin⟩
    have hsm : s ∈ y.steps := List.mem_of_getElem? hgs
    obtain ⟨hst, hsg⟩ := hs s hsm
    have htt := turn_take hgs
    have htl : (turnY y).steps.length = y.steps.length := by simp [turnY]
    have hpl : (rowP ((turnY y).steps.take i)).cells.length = i * 2 := by rw [rowP_len, List.length_take]; omega
    refine zv (m_fdp fd24_1) ?_
    refine zv (m_ldp sz22 ag22) ?_
    refine zr (m_bsl el25 ze3 sz3) ?_
    refine zv (m_fdp fd24_1) ?_
    refine zv (m_ldp sz22 ag22) ?_
    refine zv m_mv ?_
    first | refine zv (m_ixN el22 sz55) ?_ | refine zv (m_ix el22 sz55) ?_
    refine zv (m_fd fd55_1) ?_
    refine zv (m_ld sz25 ag25) ?_
    refine za1 (m_app1 el25 el25 ze3 sz3 by3) ?_
    refine zr (m_bsl el25 ze3 sz3) ?_
    refine zv (m_fdp fd24_1) ?_
    refine zv (m_ldp sz22 ag22) ?_
    refine zv m_mv ?_
    first | refine zv (m_ixN el22 sz55) ?_ | refine zv (m_ix el22 sz55) ?_
    refine zv (m_fd fd55_0) ?_
    refine zv (m_ld sz25 ag25) ?_
    refine za1 (m_app1 el25 el25 ze3 sz3 by3) ?_
    refine zv (m_bld pl55 ze55) ?_
    refine zr (m_bsl el22 ze55 sz55) ?_
    first | refine za0 (m_app0 el22 el22 ze55 sz55 by55 (hln := hpl)) ?_ | refine za1 (m_app1 el22 el22 ze55 sz55 by55 (hln := hpl)) ?_
    refine zv (m_fdp fd24_1) ?_
    refine zs (m_st sz22) ?_
    refine ⟨by rfl, ?_⟩
    show AWp cx _ _ _
    refine awp_frz 24 ?_
    refine awp_frz 32 ?_
    refine awp_sinkB 35 (cs := (rowP ((turnY y).steps.take i ++ [turnS s])).cells) (by simp only [mkM, reduceIte, Nat.reduceEqDiff] <;> rfl) ?_ hg ?_
    · rw [rowP_snoc]
      exact sinkC_app (sinkC_refl _) ⟨.inr ⟨_, rfl, data_ints (L := s.give) (by simp only [mkM, reduceIte, Nat.reduceEqDiff] <;> rfl) rfl rfl rfl rfl (fun _ => trivial)⟩, .inr ⟨_, rfl, data_ints (L := s.take) (by simp only [mkM, reduceIte, Nat.reduceEqDiff] <;> rfl) rfl rfl rfl rfl (fun _ => trivial)⟩, trivial⟩
    refine rg ?_
    refine qv m_mv ?_
    refine qv m_add ?_
    refine qv m_as ?_
    exact ⟨i + 1, hin, (by simp only; omega), (tl [(1, 1), (2, 2), (3, 3), (35, 35)] (hF := by simp [FLe, svLe, lk, mkM, isLive, tauL, htt, rowP_esz, rowP_elem, rowP_st, rowP_row, rowP_dvs]) (hM := by simp [MLe, blkLe, svLe, svLes, lk, mkM, isLive, tauL, svLes_ints, svLes_self, isDvs, isDvs_map, isDvs_app, isDvs_take, isDvs_set, isDvs_repl, htt, rowP_esz, rowP_elem, rowP_st, rowP_row, rowP_dvs]))⟩
  · try simp at hc0
    refine awp_exit ?_
    show AWp cx _ _ _
    refine awp_seq ?_
    refine rg ?_
    refine qv (m_ldpa sz24 ag24) ?_
    refine qs (m_st sz24) ?_
    show AWp cx _ _ _
    refine awp_ret ?_
    have hse : (turnY y).steps.take i = (turnY y).steps := List.take_of_length_le (by simp [turnY]; omega)
    refine end_cell (.inr rfl) (s1 := .agg [.dv (i64 y.places), .sl 35 0 0 i]) (by simp only [loadSV, sz24, ag24, St.look, St.ev, lk, mkM, blkOf, svOf, svOfCell, reduceIte, Nat.reduceAdd, Nat.reduceEqDiff, Nat.reduceMul]; rfl) (data_agg (args_cons (.dv _ trivial) (args_cons (data_rowP (L := (turnY y).steps) (by simp only [mkM, reduceIte, Nat.reduceEqDiff, hse] <;> rfl) trivial (by simp [turnY]; omega) (fun _ => trivial)) args_nil)))
end Go.Ab.Try
set_option linter.all false
namespace Go.Ab.Try
open Go Go.Ab Go.Proofs
theorem sorted_ext : ∀ {a b : List Int}, a.Pairwise (· < ·) → b.Pairwise (· < ·) → (∀ x, x ∈ a ↔ x ∈ b) → a = b
  | [], [], _, _, _ => rfl
  | [], y :: b, _, _, h => by have := (h y).2 (by simp); simp at this
  | x :: a, [], _, _, h => by have := (h x).1 (by simp); simp at this
  | x :: a, y :: b, ha, hb, h => by
    rw [List.pairwise_cons] at ha hb
    have e : x = y := by
      have h1 := (h x).1 (by simp)
      have h2 := (h y).2 (by simp)
      rw [List.mem_cons] at h1 h2
      rcases h1 with h1 | h1
      · exact h1
      · rcases h2 with h2 | h2
        · exact h2.symm
        · have := hb.1 x h1
          have := ha.1 y h2
          omega
    subst e
    rw [sorted_ext ha.2 hb.2 fun z => ?_]
    have hz := h z
    simp only [List.mem_cons] at hz
    constructor
    · intro hza
      have := ha.1 z hza
      rcases hz.1 (.inr hza) with h1 | h1
      · omega
      · exact h1
    · intro hzb
      have := hb.1 z hzb
      rcases hz.2 (.inr hzb) with h1 | h1
      · omega
      · exact h1
theorem okSet_sorted {pl : Int} {set : List Int} (h : okSet pl set = true) : set.Pairwise (· < ·) := by
  have h1 : ∀ j, j < set.length → okAt pl set j = true := fun j hj => List.all_eq_true.1 h j (List.mem_range.2 hj)
  have h2 : ∀ d i : Nat, i + d + 1 < set.length → sg set i < sg set (i + d + 1) := by
    intro d
    induction d with
    | zero =>
      intro i hi
      have := h1 (i + 1) (by omega)
      simp [okAt] at this
      exact this.2
    | succ d ih =>
      intro i hi
      have e1 := ih i (by omega)
      have := h1 (i + d + 1 + 1) (by omega)
      simp [okAt] at this
      have e2 := this.2
      have : i + (d + 1) + 1 = i + d + 1 + 1 := by omega
      rw [this]
      omega
  rw [List.pairwise_iff_getElem]
  intro i j hi hj hij
  have := h2 (j - i - 1) i (by omega)
  have e : i + (j - i - 1) + 1 = j := by omega
  rw [e] at this
  simpa [sg, hi, hj] using this
theorem mask_of (f : Nat → Bool) : ∀ k : Nat, ∃ m, m < 2 ^ k ∧ ∀ i, i < k → (m / 2 ^ i % 2 = 1 ↔ f i = true)
  | 0 => ⟨0, by simp, fun i hi => by omega⟩
  | k + 1 => by
    obtain ⟨m, h1, h2⟩ := mask_of f k
    have hp : 2 ^ (k + 1) = 2 * 2 ^ k := by rw [Nat.pow_succ]; omega
    refine ⟨m + (if f k then 2 ^ k else 0), by split <;> omega, fun i hi => ?_⟩
    rcases Nat.lt_or_ge i k with h3 | h3
    · rw [← h2 i h3]
      split
      · have e : 2 ^ k = 2 ^ i * (2 * 2 ^ (k - i - 1)) := by
          rw [← Nat.pow_succ', ← Nat.pow_add]
          congr 1; omega
        rw [e, Nat.add_mul_div_left _ _ (Nat.two_pow_pos i)]
        omega
      · simp
    · obtain rfl : i = k := by omega
      by_cases hf : f i = true
      · rw [if_pos hf]
        have : (m + 2 ^ i) / 2 ^ i = 1 := by
          rw [Nat.add_div_right _ (Nat.two_pow_pos i), Nat.div_eq_of_lt h1]
        rw [this]; simp [hf]
      · rw [if_neg hf]
        simp [hf, Nat.div_eq_of_lt h1]
theorem map_sg (set : List Int) : (List.range set.length).map (sg set) = set := by
  apply List.ext_getElem
  · simp
  · intro i h1 h2; simp [sg, h2]
theorem sel_filter (set : List Int) (f : Int → Bool) : ∃ m, m < 2 ^ set.length ∧ sel set m = set.filter f := by
  obtain ⟨m, h1, h2⟩ := mask_of (fun i => f (sg set i)) set.length
  refine ⟨m, h1, ?_⟩
  unfold sel selK
  rw [show (List.range set.length).filter (fun i => decide (m / 2 ^ i % 2 = 1)) = (List.range set.length).filter (f ∘ sg set) from ?_]
  · rw [← List.filter_map, map_sg]
  · apply List.filter_congr
    intro i hi
    have := h2 i (List.mem_range.1 hi)
    simp only [Function.comp]
    by_cases hf : f (sg set i) = true
    · simp [hf, this.2 hf]
    · have h3 : ¬ m / 2 ^ i % 2 = 1 := fun h => hf (this.1 h)
      simp [hf, h3]
theorem meets_mono {l S out : List Int} (h : ∀ p ∈ S, p ∈ out) (hm : meets l S = true) : meets l out = true := by
  obtain ⟨p, hp, hq⟩ := meets_iff.1 hm
  exact meets_iff.2 ⟨p, h p hp, hq⟩
theorem fold_keeps {tc nd : Stp → List Int} {S : List Int} : ∀ {l : List Stp} {out : List Int}, (∀ s ∈ l, meets (tc s) S = true → meets (nd s) S = true) → (∀ p ∈ S, p ∈ out) → ∀ p ∈ S, p ∈ l.foldl (stpG tc nd) out
  | [], out, _, h => h
  | s :: l, out, hs, h => by
    rw [List.foldl_cons]
    refine fold_keeps (fun s' hs' => hs s' (by simp [hs'])) fun p hp => ?_
    unfold stpG
    split
    · exact h p hp
    · rename_i hn
      unfold delF
      rw [List.mem_filter]
      refine ⟨h p hp, ?_⟩
      have : ¬ 0 < sg (tc s) p.toNat := fun hpos => hn (meets_mono h (hs s (by simp) (meets_iff.2 ⟨p, hp, hpos⟩)))
      simpa using this
theorem great_keeps {tc nd : Stp → List Int} {y : Yd} {S : List Int} (hS : srtB tc nd y S = true) (out : List Int) (h : ∀ p ∈ S, p ∈ out) : ∀ p ∈ S, p ∈ great tc nd y out := by
  by_cases hb : srtB tc nd y out = true
  · rw [great_yes hb]; exact h
  · rw [great_no hb]
    exact great_keeps hS _ (fold_keeps (fun s hs => srt_at hS hs) h)
termination_by out.length
decreasing_by exact passG_lt hb
theorem great_eq {y : Yd} {set : List Int} (h : okSet y.places set = true) : greatRef y set = great giveS takeS y set := by
  obtain ⟨g1, g2⟩ := great_good (tc := giveS) (nd := takeS) (y := y) set
  have hso := okSet_sorted h
  have hin := okSet_in h
  refine sorted_ext ?_ (hso.sublist g2) fun x => ?_
  · unfold greatRef greatK
    rw [List.pairwise_map]
    refine List.Pairwise.imp (R := (· < ·)) (fun h => by omega) ?_
    exact List.Pairwise.sublist List.filter_sublist List.pairwise_lt_range
  · unfold greatRef greatK
    simp only [List.mem_map, List.mem_filter, List.mem_range]
    constructor
    · rintro ⟨p, ⟨_, hp⟩, rfl⟩
      obtain ⟨m, hm, hq⟩ := List.any_eq_true.1 hp
      simp only [Bool.and_eq_true, List.contains_iff_mem] at hq
      exact great_keeps hq.1 set (fun q hq' => sel_mem hq') _ hq.2
    · intro hx
      have hxs := g2.subset hx
      have hb := hin x hxs
      refine ⟨x.toNat, ⟨by omega, ?_⟩, by omega⟩
      have ex : ((x.toNat : Nat) : Int) = x := by omega
      rw [ex]
      obtain ⟨m, hm, he⟩ := sel_filter set fun p => (great giveS takeS y set).contains p
      have he' : sel set m = great giveS takeS y set := by
        rw [he]
        refine sorted_ext (hso.sublist List.filter_sublist) (hso.sublist g2) fun z => ?_
        simp only [List.mem_filter, List.contains_iff_mem]
        exact ⟨fun h => h.2, fun h => ⟨g2.subset h, h⟩⟩
      refine List.any_eq_true.2 ⟨m, List.mem_range.2 hm, ?_⟩
      rw [he', g1]
      simpa using hx
theorem srt_turn {y : Yd} {S : List Int} : srtB giveS takeS (turnY y) S = srtB takeS giveS y S := by
  simp only [srtB, turnY, List.any_map]
  rfl
theorem fold_turn {l : List Stp} {out : List Int} : (l.map turnS).foldl (stpG giveS takeS) out = l.foldl (stpG takeS giveS) out := by
  rw [List.foldl_map]
  rfl
theorem great_turn {y : Yd} (out : List Int) : great giveS takeS (turnY y) out = great takeS giveS y out := by
  by_cases hb : srtB takeS giveS y out = true
  · rw [great_yes hb, great_yes (by rw [srt_turn]; exact hb)]
  · rw [great_no hb, great_no (by rw [srt_turn]; exact hb)]
    have e : passG giveS takeS (turnY y) out = passG takeS giveS y out := fold_turn
    rw [e]
    exact great_turn _
termination_by out.length
decreasing_by exact passG_lt hb
def refSiphR (y : Yd) (set : List Int) : List Int × Int := if placedE y set ≠ 0 then ([], placedE y set) else (greatRef y set, 0)
def refTrapR (y : Yd) (set : List Int) : List Int × Int := if placedE y set ≠ 0 then ([], placedE y set) else (greatRef (turnY y) set, 0)
def isTrapRef (y : Yd) (set : List Int) : Bool × Int := (decide (placedE y set = 0) && srtB giveS takeS (turnY y) set, placedE y set)
theorem siph_same {y : Yd} {set : List Int} : refSiphR y set = siphR y set := by
  unfold refSiphR siphR
  split
  · rfl
  · rename_i h
    rw [great_eq (placed_ok (by simpa using h)).2]
theorem trap_same {y : Yd} {set : List Int} : refTrapR y set = trapR y set := by
  unfold refTrapR trapR
  split
  · rfl
  · rename_i h
    rw [great_eq (y := turnY y) (show okSet y.places set = true from (placed_ok (y := y) (by simpa using h)).2), great_turn]
theorem isTrap_same {y : Yd} {set : List Int} : isTrapRef y set = isTrapR y set := by
  unfold isTrapRef isTrapR
  rw [srt_turn]
end Go.Ab.Try
set_option linter.all false
namespace Go.Ab.Try
open Go Go.Ab Go.Proofs
theorem turn_in {y : Yd} {set : List Int} (h1 : ∀ s ∈ y.steps, InL set s.take) (h2 : ∀ s ∈ y.steps, InL set s.give) : (∀ s ∈ (turnY y).steps, InL set s.take) ∧ (∀ s ∈ (turnY y).steps, InL set s.give) := by
  simp only [turnY, List.mem_map]
  constructor
  · rintro s ⟨s', hs, rfl⟩; exact h2 s' hs
  · rintro s ⟨s', hs, rfl⟩; exact h1 s' hs
theorem valid_len {y : Yd} (h : VYd y) : ∀ s ∈ y.steps, s.take.length ≤ 6 ∧ s.give.length ≤ 6 := by
  obtain ⟨v1, v2, v3, v4⟩ := validate_ok h
  intro s hs
  have h4 := v4 s hs
  simp only [okStp, Bool.and_eq_true] at h4
  have := allIn_len h4.1
  have := allIn_len h4.2
  omega
theorem siph_len {y : Yd} {set : List Int} : (siphR y set).1.length < 1000000 := by
  unfold siphR
  split
  · simp
  · rename_i h
    obtain ⟨hv, ho⟩ := placed_ok (y := y) (set := set) (by simpa using h)
    obtain ⟨v1, v2, v3, v4⟩ := validate_ok hv
    have := okSet_len (by omega) ho
    have := (great_good (tc := giveS) (nd := takeS) (y := y) set).2.length_le
    simp only; omega
theorem trap_len {y : Yd} {set : List Int} : (trapR y set).1.length < 1000000 := by
  unfold trapR
  split
  · simp
  · rename_i h
    obtain ⟨hv, ho⟩ := placed_ok (y := y) (set := set) (by simpa using h)
    obtain ⟨v1, v2, v3, v4⟩ := validate_ok hv
    have := okSet_len (by omega) ho
    have := (great_good (tc := takeS) (nd := giveS) (y := y) set).2.length_le
    simp only; omega
theorem f53 (y : Yd) (set : List Int) : ACallsF Try.prog 53 [dYd y, ints set] (.many [rI (refSiphR y set).1, .dv (i64 (refSiphR y set).2)]) := by
  refine callsF_of Try.func53 rfl rfl (by rw [Try.ntmps53]; simp) fun cx hP hn hg => ?_
  rw [Try.ntmps53] at hn
  rw [startF_lk, none_mkM]
  simp only [List.nil_append, List.append_nil, List.cons_append, zipSV, Nat.reduceAdd]
  refine awp_seq ?_
  refine rg ?_
  refine qp m_box ?_
  refine qv m_as ?_
  refine qv m_as ?_
  show AWp cx _ _ _
  refine awp_seq ?_
  refine awp_seq ?_
  refine rg ?_
  refine qv (m_ldpa sz24 ag24) ?_
  refine qv m_mv ?_
  refine qqF (f95 y set) ?_
  refine qv m_as ?_
  show AWp cx _ _ _
  refine awp_seq ?_
  refine rg ?_
  refine qv m_mv ?_
  refine qv m_neq ?_
  show AWp cx _ _ _
  refine cd (fun hc0 => ?_) (fun hc0 => ?_)
  · try simp at hc0
    refine awp_seq ?_
    refine rg ?_
    refine qv m_mv ?_
    refine qv m_as ?_
    refine qv m_as ?_
    show AWp cx _ _ _
    refine awp_ret ?_
    exact x2 (hr := (rN_ (by simp [refSiphR, hc0]))) (hr' := (rI_ (by simp [refSiphR, hc0])))
  · try simp at hc0
    obtain ⟨hv, hok⟩ := placed_ok hc0
    obtain ⟨v1, v2, v3, v4⟩ := validate_ok hv
    have hin := okSet_in hok
    have hsl := okSet_len (by omega) hok
    obtain ⟨i1, i2⟩ := valid_in hv hin
    obtain ⟨t1, t2⟩ := turn_in i1 i2
    have htl : (turnY y).steps.length = y.steps.length := by simp [turnY]
    have hvl := valid_len hv
    refine awp_skip ?_
    show AWp cx _ _ _
    refine awp_seq ?_
    refine rg ?_
    refine qv (m_ldpa sz24 ag24) ?_
    refine qv m_mv ?_
    refine qqF (f97 y set i2 i1 hin (by omega) (by omega) (by omega) (by omega)) ?_
    refine qv m_as ?_
    refine qv m_as ?_
    show AWp cx _ _ _
    refine awp_ret ?_
    have e1 : refSiphR y set = (greatRef y set, 0) := by simp [refSiphR, hc0]
    rw [e1]
    exact x2 (hr := (rR_)) (hr' := (rI_))
theorem f54 (y : Yd) (set : List Int) : ACallsF Try.prog 54 [dYd y, ints set] (.many [rI (refTrapR y set).1, .dv (i64 (refTrapR y set).2)]) := by
  refine callsF_of Try.func54 rfl rfl (by rw [Try.ntmps54]; simp) fun cx hP hn hg => ?_
  rw [Try.ntmps54] at hn
  rw [startF_lk, none_mkM]
  simp only [List.nil_append, List.append_nil, List.cons_append, zipSV, Nat.reduceAdd]
  refine awp_seq ?_
  refine rg ?_
  refine qp m_box ?_
  refine qv m_as ?_
  refine qv m_as ?_
  show AWp cx _ _ _
  refine awp_seq ?_
  refine awp_seq ?_
  refine rg ?_
  refine qv (m_ldpa sz24 ag24) ?_
  refine qv m_mv ?_
  refine qqF (f95 y set) ?_
  refine qv m_as ?_
  show AWp cx _ _ _
  refine awp_seq ?_
  refine rg ?_
  refine qv m_mv ?_
  refine qv m_neq ?_
  show AWp cx _ _ _
  refine cd (fun hc0 => ?_) (fun hc0 => ?_)
  · try simp at hc0
    refine awp_seq ?_
    refine rg ?_
    refine qv m_mv ?_
    refine qv m_as ?_
    refine qv m_as ?_
    show AWp cx _ _ _
    refine awp_ret ?_
    exact x2 (hr := (rN_ (by simp [refTrapR, hc0]))) (hr' := (rI_ (by simp [refTrapR, hc0])))
  · try simp at hc0
    obtain ⟨hv, hok⟩ := placed_ok hc0
    obtain ⟨v1, v2, v3, v4⟩ := validate_ok hv
    have hin := okSet_in hok
    have hsl := okSet_len (by omega) hok
    obtain ⟨i1, i2⟩ := valid_in hv hin
    obtain ⟨t1, t2⟩ := turn_in i1 i2
    have htl : (turnY y).steps.length = y.steps.length := by simp [turnY]
    have hvl := valid_len hv
    refine awp_skip ?_
    show AWp cx _ _ _
    refine awp_seq ?_
    refine rg ?_
    refine qv (m_ldpa sz24 ag24) ?_
    refine qqA (f77 y (by omega) hvl) ?_
    refine qv m_mv ?_
    refine qqF (f97 (turnY y) set t2 t1 hin (by omega) (by omega) (show 0 ≤ y.places by omega) (show y.places ≤ 6 by omega)) ?_
    refine qv m_as ?_
    refine qv m_as ?_
    show AWp cx _ _ _
    refine awp_ret ?_
    have e1 : refTrapR y set = (greatRef (turnY y) set, 0) := by simp [refTrapR, hc0]
    rw [e1]
    exact x2 (hr := (rR_)) (hr' := (rI_))
theorem f52 (y : Yd) (set : List Int) : ACallsF Try.prog 52 [dYd y, ints set] (.many [.dv (.bool (isTrapRef y set).1), .dv (i64 (isTrapRef y set).2)]) := by
  refine callsF_of Try.func52 rfl rfl (by rw [Try.ntmps52]; simp) fun cx hP hn hg => ?_
  rw [Try.ntmps52] at hn
  rw [startF_lk, none_mkM]
  simp only [List.nil_append, List.append_nil, List.cons_append, zipSV, Nat.reduceAdd]
  refine awp_seq ?_
  refine rg ?_
  refine qp m_box ?_
  refine qv m_as ?_
  refine qv m_as ?_
  show AWp cx _ _ _
  refine awp_seq ?_
  refine awp_seq ?_
  refine rg ?_
  refine qv (m_ldpa sz24 ag24) ?_
  refine qv m_mv ?_
  refine qqF (f95 y set) ?_
  refine qv m_as ?_
  show AWp cx _ _ _
  refine awp_seq ?_
  refine rg ?_
  refine qv m_mv ?_
  refine qv m_neq ?_
  show AWp cx _ _ _
  refine cd (fun hc0 => ?_) (fun hc0 => ?_)
  · try simp at hc0
    refine awp_seq ?_
    refine rg ?_
    refine qv m_mv ?_
    refine qv m_as ?_
    refine qv m_as ?_
    show AWp cx _ _ _
    refine awp_ret ?_
    exact x2 (hr := (rB_ (by simp [isTrapRef, hc0]))) (hr' := (rI_ (by simp [isTrapRef, hc0])))
  · try simp at hc0
    obtain ⟨hv, hok⟩ := placed_ok hc0
    obtain ⟨v1, v2, v3, v4⟩ := validate_ok hv
    have hin := okSet_in hok
    have hsl := okSet_len (by omega) hok
    obtain ⟨i1, i2⟩ := valid_in hv hin
    obtain ⟨t1, t2⟩ := turn_in i1 i2
    have htl : (turnY y).steps.length = y.steps.length := by simp [turnY]
    have hvl := valid_len hv
    refine awp_skip ?_
    show AWp cx _ _ _
    refine awp_seq ?_
    refine rg ?_
    refine qv (m_ldpa sz24 ag24) ?_
    refine qqA (f77 y (by omega) hvl) ?_
    refine qv m_mv ?_
    refine qqF (f96 (turnY y) set t2 t1 (by omega) (by omega)) ?_
    refine qv m_as ?_
    refine qv m_as ?_
    show AWp cx _ _ _
    refine awp_ret ?_
    exact x2 (hr := (rB_ (by simp [isTrapRef, hc0]))) (hr' := (rI_ (by simp [isTrapRef, hc0])))
set_option maxHeartbeats 4000000 in
theorem f14 (y : Yd) (set : List Int) : ACallsF Try.prog 14 [dYd y, ints set] (.one (.dv (.bool true))) := by
  refine callsF_of Try.func14 rfl rfl (by rw [Try.ntmps14]; simp) fun cx hP hn hg => ?_
  rw [Try.ntmps14] at hn
  rw [startF_lk, none_mkM]
  simp only [List.nil_append, List.append_nil, List.cons_append, zipSV, Nat.reduceAdd]
  refine awp_seq ?_
  refine rg ?_
  refine qp m_box ?_
  refine qv m_as ?_
  show AWp cx _ _ _
  refine awp_seq ?_
  refine awp_seq ?_
  refine rg ?_
  refine qv (m_ldpa sz24 ag24) ?_
  refine qqF (f16 y) ?_
  refine qx m_mv (fun hg23 => ?_) (fun hg23 => ?_)
  · try simp at hg23
    refine qk ?_
    refine qk ?_
    refine qv m_pk ?_
    show AWp cx _ _ _
    refine cdT (hb := by first | rfl | simp | simp_all) (ht := ?_)
    refine awp_seq ?_
    refine rg ?_
    refine qqF (f18) ?_
    refine qv m_as ?_
    show AWp cx _ _ _
    refine awp_ret ?_
    exact x1 (hr := (rB_))
  · try simp at hg23
    refine qv m_mv ?_
    refine qqF (f17 set) ?_
    refine qv m_pk ?_
    show AWp cx _ _ _
    refine cd (fun hc0 => ?_) (fun hc0 => ?_)
    · try simp at hc0
      refine awp_seq ?_
      refine rg ?_
      refine qqF (f18) ?_
      refine qv m_as ?_
      show AWp cx _ _ _
      refine awp_ret ?_
      exact x1 (hr := (rB_))
    · try simp at hc0
      refine awp_skip ?_
      show AWp cx _ _ _
      refine awp_seq ?_
      refine rg ?_
      refine qv (m_ldpa sz24 ag24) ?_
      refine qv m_mv ?_
      refine qqF (f42 y set) ?_
      refine qv m_mv ?_
      refine qv m_ext ?_
      refine qv m_ext ?_
      refine qv m_as ?_
      refine qv m_as ?_
      show AWp cx _ _ _
      refine awp_seq ?_
      refine rg ?_
      refine qv (m_ldpa sz24 ag24) ?_
      refine qv m_mv ?_
      refine qqF (f51 y set) ?_
      refine qv m_mv ?_
      refine qv m_ext ?_
      refine qv m_ext ?_
      refine qv m_as ?_
      refine qv m_as ?_
      show AWp cx _ _ _
      refine awp_seq ?_
      refine rg ?_
      refine qv (m_ldpa sz24 ag24) ?_
      refine qv m_mv ?_
      refine qqF (f43 y set) ?_
      refine qv m_mv ?_
      refine qv m_ext ?_
      refine qv m_ext ?_
      refine qv m_as ?_
      refine qv m_as ?_
      show AWp cx _ _ _
      refine awp_seq ?_
      refine rg ?_
      refine qv (m_ldpa sz24 ag24) ?_
      refine qv m_mv ?_
      refine qqF (f52 y set) ?_
      refine qv m_mv ?_
      refine qv m_ext ?_
      refine qv m_ext ?_
      refine qv m_as ?_
      refine qv m_as ?_
      show AWp cx _ _ _
      refine awp_seq ?_
      refine rg ?_
      refine qv (m_ldpa sz24 ag24) ?_
      refine qv m_mv ?_
      refine qqA (f48 y set) ?_
      refine qv m_mv ?_
      refine qv m_ext ?_
      refine qv m_ext ?_
      refine qv m_as ?_
      refine qv m_as ?_
      show AWp cx _ _ _
      refine awp_seq ?_
      refine rg ?_
      refine qv (m_ldpa sz24 ag24) ?_
      refine qv m_mv ?_
      refine qqF (f53 y set) ?_
      refine qv m_mv ?_
      refine qv m_ext ?_
      refine qv m_ext ?_
      refine qv m_as ?_
      refine qv m_as ?_
      show AWp cx _ _ _
      refine awp_seq ?_
      refine rg ?_
      refine qv (m_ldpa sz24 ag24) ?_
      refine qv m_mv ?_
      refine qqA (f49 y set) ?_
      refine qv m_mv ?_
      refine qv m_ext ?_
      refine qv m_ext ?_
      refine qv m_as ?_
      refine qv m_as ?_
      show AWp cx _ _ _
      refine awp_seq ?_
      refine rg ?_
      refine qv (m_ldpa sz24 ag24) ?_
      refine qv m_mv ?_
      refine qqF (f54 y set) ?_
      refine qv m_mv ?_
      refine qv m_ext ?_
      refine qv m_ext ?_
      refine qv m_as ?_
      refine qv m_as ?_
      show AWp cx _ _ _
      refine awp_seq ?_
      refine rg ?_
      refine qv m_mv ?_
      refine qv m_mv ?_
      refine qv (m_beq ib4) ?_
      refine qx m_mv (fun hg79 => ?_) (fun hg79 => ?_)
      rotate_left
      · exact absurd hg79 (by simp)
      refine qv m_mv ?_
      refine qv m_mv ?_
      refine qv m_eql ?_
      refine qv m_pk ?_
      refine qx m_mv (fun hg84 => ?_) (fun hg84 => ?_)
      rotate_left
      · exact absurd hg84 (by simp)
      refine qv m_mv ?_
      refine qv m_mv ?_
      refine qv (m_beq ib4) ?_
      refine qv m_pk ?_
      refine qx m_mv (fun hg89 => ?_) (fun hg89 => ?_)
      rotate_left
      · exact absurd hg89 (by simp [isTrap_same])
      refine qv m_mv ?_
      refine qv m_mv ?_
      refine qv m_eql ?_
      refine qv m_pk ?_
      refine qx m_mv (fun hg94 => ?_) (fun hg94 => ?_)
      rotate_left
      · exact absurd hg94 (by simp [isTrap_same])
      refine qv m_mv ?_
      refine qv m_mv ?_
      refine qqF (f21 (siphR y set).1 (refSiphR y set).1 siph_len) ?_
      refine qv m_pk ?_
      refine qx m_mv (fun hg99 => ?_) (fun hg99 => ?_)
      rotate_left
      · exact absurd hg99 (by simp [siph_same])
      refine qv m_mv ?_
      refine qv m_mv ?_
      refine qv m_eql ?_
      refine qv m_pk ?_
      refine qx m_mv (fun hg104 => ?_) (fun hg104 => ?_)
      rotate_left
      · exact absurd hg104 (by simp [siph_same])
      refine qv m_mv ?_
      refine qv m_mv ?_
      refine qqF (f21 (trapR y set).1 (refTrapR y set).1 trap_len) ?_
      refine qv m_pk ?_
      refine qx m_mv (fun hg109 => ?_) (fun hg109 => ?_)
      rotate_left
      · exact absurd hg109 (by simp [trap_same])
      refine qv m_mv ?_
      refine qv m_mv ?_
      refine qv m_eql ?_
      refine qv m_pk ?_
      refine qx m_mv (fun hg114 => ?_) (fun hg114 => ?_)
      rotate_left
      · exact absurd hg114 (by simp [trap_same])
      refine qqF (f18) ?_
      refine qv m_pk ?_
      refine qv m_as ?_
      show AWp cx _ _ _
      refine awp_ret ?_
      exact x1 (hr := (rB_))
end Go.Ab.Try
