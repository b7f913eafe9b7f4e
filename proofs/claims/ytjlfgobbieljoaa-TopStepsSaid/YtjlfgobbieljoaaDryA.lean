/- Dry15, Dry16, DryL2. -/
import Derived.Test.YtjlfgobbieljoaaDry14
import Derived.Test.YtjlfgobbieljoaaAb26
import Derived.Test.YtjlfgobbieljoaaDryL1
set_option linter.all false
set_option linter.all false
namespace Go.Ab.Try
open Go Go.Ab Go.Proofs
def sg (l : List Int) (i : Nat) : Int := l.getD i 0
theorem sg_get {l : List Int} {i : Nat} (h : i < l.length) : l[i]? = some (sg l i) := by simp [sg, h]
def okAt (pl : Int) (set : List Int) (j : Nat) : Bool := within (sg set j) 0 (pl - 1) && (decide (j = 0) || decide (sg set (j - 1) < sg set j))
def okSet (pl : Int) (set : List Int) : Bool := (List.range set.length).all (okAt pl set)
def placedE (y : Yd) (set : List Int) : Int := if validate y ≠ 0 then validate y else if okSet y.places set then 0 else 1
theorem okSet_no {pl : Int} {set : List Int} {i : Nat} (hi : i < set.length) (h : okAt pl set i = false) : okSet pl set = false := by
  unfold okSet
  rw [List.all_eq_false]
  exact ⟨i, List.mem_range.2 hi, by simp [h]⟩
theorem okSet_yes {pl : Int} {set : List Int} (h : ∀ j, j < set.length → okAt pl set j = true) : okSet pl set = true := by
  unfold okSet
  rw [List.all_eq_true]
  exact fun j hj => h j (List.mem_range.1 hj)
theorem okSet_in {pl : Int} {set : List Int} (h : okSet pl set = true) : ∀ x ∈ set, 0 ≤ x ∧ x < pl := by
  intro x hx
  obtain ⟨j, hj, rfl⟩ := List.getElem_of_mem hx
  have := List.all_eq_true.1 h j (List.mem_range.2 hj)
  simp [okAt, within, sg, hj] at this
  omega
theorem placed_ok {y : Yd} {set : List Int} (h : placedE y set = 0) : VYd y ∧ okSet y.places set = true := by
  unfold placedE at h
  split at h
  · rename_i h1; exact absurd h h1
  · rename_i h1
    split at h
    · rename_i h2; exact ⟨by simpa [VYd] using h1, h2⟩
    · cases h
theorem okAt_len {pl : Int} {set : List Int} {i : Nat} (hpl : 0 ≤ pl) (h : ∀ j, j < i → j < set.length → okAt pl set j = true) (hi : i ≤ set.length) : (i : Int) ≤ pl := by
  have key : ∀ j, j < i → (j : Int) ≤ sg set j := by
    intro j
    induction j with
    | zero =>
      intro hj
      have := h 0 hj (by omega)
      simp [okAt, within] at this
      omega
    | succ j ih =>
      intro hj
      have := h (j + 1) hj (by omega)
      have := ih (by omega)
      simp [okAt, within] at *
      omega
  rcases Nat.eq_zero_or_pos i with h0 | h0
  · omega
  · have h1 := key (i - 1) (by omega)
    have h2 := h (i - 1) (by omega) (by omega)
    simp [okAt, within] at h2
    omega
theorem okSet_len {pl : Int} {set : List Int} (hpl : 0 ≤ pl) (h : okSet pl set = true) : (set.length : Int) ≤ pl :=
  okAt_len hpl (fun j hj _ => List.all_eq_true.1 h j (List.mem_range.2 hj)) (Nat.le_refl _)
def meets (l set : List Int) : Bool := set.any fun p => decide (0 < sg l p.toNat)
def srtB (tc nd : Stp → List Int) (y : Yd) (set : List Int) : Bool := !(y.steps.any fun s => meets (tc s) set && !meets (nd s) set)
abbrev dSrt (nm : ByteArray) (ft fn : Nat) : DV := .agg [.str nm, .fn ft [] [], .fn fn [] []]
def nmS : ByteArray := { data := #[115, 105, 112, 104, 111, 110] }
def nmT : ByteArray := { data := #[116, 114, 97, 112] }
theorem scal_srt {nm : ByteArray} {ft fn : Nat} : Scalar (dSrt nm ft fn) := by
  refine .agg _ fun c hc => ?_
  simp only [List.mem_cons, List.not_mem_nil, or_false] at hc
  rcases hc with rfl | rfl | rfl
  · exact .str _
  · exact .fn _ _ _ (by simp) (by simp)
  · exact .fn _ _ _ (by simp) (by simp)
def InL (set : List Int) (l : List Int) : Prop := ∀ p ∈ set, 0 ≤ p ∧ p < l.length
theorem f79 (y : Yd) (set : List Int) : ACallsF Try.prog 79 [dYd y, ints set] (.one (.dv (i64 (placedE y set)))) := by
  refine callsF_of Try.func79 rfl rfl (by rw [Try.ntmps79]; simp) fun cx hP hn hg => ?_
  rw [Try.ntmps79] at hn
  rw [startF_lk, none_mkM]
  simp only [List.nil_append, List.append_nil, List.cons_append, zipSV, Nat.reduceAdd]
  refine awp_seq ?_
  refine rg ?_
  refine qp m_box ?_
  refine qv m_as ?_
  show AWp cx _ _ _
  refine awp_seq ?_
  refine awp_seq ?_
  refine rg ?_
  refine qv (m_ldpa sz24 ag24) ?_
  refine qqF (f28 y) ?_
  refine qv m_as ?_
  show AWp cx _ _ _
  refine awp_seq ?_
  refine rg ?_
  refine qv m_mv ?_
  refine qv m_neq ?_
  show AWp cx _ _ _
  refine cd (fun hc0 => ?_) (fun hc0 => ?_)
  · try simp at hc0
    refine awp_seq ?_
    refine rg ?_
    refine qv m_mv ?_
    refine qv m_as ?_
    show AWp cx _ _ _
    refine awp_ret ?_
    rw [show placedE y set = validate y by simp [placedE, hc0]]
    exact x1 (hr := (rI_))
  · try simp at hc0
    refine awp_skip ?_
    show AWp cx _ _ _
    refine awp_seq ?_
    refine awp_seq ?_
    refine rg ?_
    obtain ⟨v1, v2, v3, v4⟩ := validate_ok hc0
    refine qv m_mv ?_
    refine qv (m_len il25) ?_
    refine qv m_mv ?_
    show AWp cx _ _ _
    refine awp_block ?_
    refine awp_loop (ι := Nat) (fun i => ⟨lk [(1, .dv (ints (set))), (2, .pt 2 0 0), (13, .dv (ints (set))), (14, .dv (i64 ((set.length : Int)))), (15, .dv (i64 (i : Nat)))], mkM [(2, 0, some ⟨[.dv (i64 (y.places)), .dv (.list ((y.steps).map dStp))], 0, 24, 0, false⟩)]⟩) (fun i => i ≤ set.length ∧ ∀ j (hj : j < i) (h : j < set.length), okAt y.places set j = true) (fun i => set.length - i) 0 (by simp) (tl [(2, 2)]) ?_
    intro i hφ0
    refine awp_seq ?_
    refine rg ?_
    refine qv m_lss ?_
    show AWp cx _ _ _
    refine awp_seq ?_
    refine cd (fun hc1 => ?_) (fun hc1 => ?_)
    · try simp at hc1
      refine awp_skip ?_
      show AWp cx _ _ _
      refine awp_seq ?_
      refine awp_block ?_
      refine awp_seq ?_
      refine rg ?_
      have hin : i < set.length := by omega
      have hgi := sg_get hin
      have hib := okAt_len (by omega) hφ0.2 hφ0.1
      refine qv m_mv ?_
      first | refine qv (m_ixN el25 sz3) ?_ | refine qv (m_ix el25 sz3) ?_
      refine qv (m_ld sz3 ag3) ?_
      refine qv m_as ?_
      refine qv m_as ?_
      show AWp cx _ _ _
      refine awp_seq ?_
      refine rg ?_
      refine qv m_mv ?_
      refine qv (m_fdp fd24_0) ?_
      refine qv (m_ldp sz3 ag3) ?_
      refine qv m_sub ?_
      refine qqF (f70 (sg set i) 0 (y.places - 1)) ?_
      refine qv m_not ?_
      refine qx m_mv (fun hg26 => ?_) (fun hg26 => ?_)
      · try simp at hg26
        refine qk ?_
        refine qk ?_
        refine qk ?_
        refine qk ?_
        refine qk ?_
        refine qk ?_
        refine qk ?_
        refine qk ?_
        refine qk ?_
        refine qk ?_
        refine qk ?_
        refine qv m_pk ?_
        show AWp cx _ _ _
        refine cdT (hb := by first | rfl | simp | simp_all) (ht := ?_)
        refine awp_seq ?_
        refine rg ?_
        refine qv m_as ?_
        show AWp cx _ _ _
        refine awp_ret ?_
        have ea : okAt y.places set i = false := by
          simp_all [okAt]; try omega
        rw [show placedE y set = 1 by simp [placedE, hc0, okSet_no hin ea]]
        exact x1 (hr := (rI_))
      · try simp at hg26
        refine qv m_mv ?_
        refine qv m_gtr ?_
        refine qx m_mv (fun hg29 => ?_) (fun hg29 => ?_)
        · try simp at hg29
          refine qv m_mv ?_
          refine qv m_mv ?_
          refine qv m_sub ?_
          have hg1 : set[((i : Int) - 1).toNat]? = some (sg set (i - 1)) := by
            have : ((i : Int) - 1).toNat = i - 1 := by omega
            rw [this]; exact sg_get (by omega)
          first | refine qv (m_ixN el25 sz3) ?_ | refine qv (m_ix el25 sz3) ?_
          refine qv (m_ld sz3 ag3) ?_
          refine qv m_mv ?_
          refine qv m_geq ?_
          refine qv m_pk ?_
          refine qv m_pk ?_
          show AWp cx _ _ _
          refine cd (fun hc2 => ?_) (fun hc2 => ?_)
          · try simp at hc2
            refine awp_seq ?_
            refine rg ?_
            refine qv m_as ?_
            show AWp cx _ _ _
            refine awp_ret ?_
            have ea : okAt y.places set i = false := by
              simp_all [okAt]; try omega
            rw [show placedE y set = 1 by simp [placedE, hc0, okSet_no hin ea]]
            exact x1 (hr := (rI_))
          · try simp at hc2
            refine awp_skip ?_
            show AWp cx _ _ _
            refine rg ?_
            refine qv m_add ?_
            refine qv m_mv ?_
            refine ⟨i + 1, ?_, (by simp only; omega), (tl [(2, 2)])⟩
            refine ⟨hin, fun j hj h => ?_⟩
            rcases Nat.lt_or_ge j i with h1 | h1
            · exact hφ0.2 j h1 h
            · obtain rfl : j = i := by omega
              simp_all [okAt]; try omega
        · try simp at hg29
          refine qk ?_
          refine qk ?_
          refine qk ?_
          refine qk ?_
          refine qk ?_
          refine qk ?_
          refine qk ?_
          refine qv m_pk ?_
          refine qv m_pk ?_
          show AWp cx _ _ _
          refine cdF (hb := by first | rfl | simp | simp_all) (ht := ?_)
          refine awp_skip ?_
          show AWp cx _ _ _
          refine rg ?_
          refine qv m_add ?_
          refine qv m_mv ?_
          refine ⟨i + 1, ?_, (by simp only; omega), (tl [(2, 2)])⟩
          refine ⟨hin, fun j hj h => ?_⟩
          rcases Nat.lt_or_ge j i with h1 | h1
          · exact hφ0.2 j h1 h
          · obtain rfl : j = i := by omega
            simp_all [okAt]; try omega
    · try simp at hc1
      refine awp_exit ?_
      show AWp cx _ _ _
      refine awp_seq ?_
      refine rg ?_
      refine qv m_as ?_
      show AWp cx _ _ _
      refine awp_ret ?_
      have ea : okSet y.places set = true := okSet_yes fun j hj => hφ0.2 j (by omega) hj
      rw [show placedE y set = 0 by simp [placedE, hc0, ea]]
      exact x1 (hr := (rI_))
theorem f95 (y : Yd) (set : List Int) : ACallsF Try.prog 95 [dYd y, ints set] (.one (.dv (i64 (placedE y set)))) := by
  refine callsF_of Try.func95 rfl rfl (by rw [Try.ntmps95]; simp) fun cx hP hn hg => ?_
  rw [Try.ntmps95] at hn
  rw [startF_lk, none_mkM]
  simp only [List.nil_append, List.append_nil, List.cons_append, zipSV, Nat.reduceAdd]
  refine awp_seq ?_
  refine rg ?_
  refine qp m_box ?_
  refine qv m_as ?_
  show AWp cx _ _ _
  refine awp_seq ?_
  refine awp_seq ?_
  refine rg ?_
  refine qv (m_ldpa sz24 ag24) ?_
  refine qqF (f29 y) ?_
  refine qv m_as ?_
  show AWp cx _ _ _
  refine awp_seq ?_
  refine rg ?_
  refine qv m_mv ?_
  refine qv m_neq ?_
  show AWp cx _ _ _
  refine cd (fun hc0 => ?_) (fun hc0 => ?_)
  · try simp at hc0
    refine awp_seq ?_
    refine rg ?_
    refine qv m_mv ?_
    refine qv m_as ?_
    show AWp cx _ _ _
    refine awp_ret ?_
    rw [show placedE y set = validate y by simp [placedE, hc0]]
    exact x1 (hr := (rI_))
  · try simp at hc0
    obtain ⟨v1, v2, v3, v4⟩ := validate_ok hc0
    refine awp_skip ?_
    show AWp cx _ _ _
    refine awp_seq ?_
    refine awp_seq ?_
    refine rg ?_
    refine qv m_as ?_
    show AWp cx _ _ _
    refine awp_block ?_
    refine awp_loop (ι := Nat) (fun i => ⟨lk [(1, .dv (ints (set))), (2, .pt 2 0 0), (6, .dv (i64 (i : Nat)))], mkM [(2, 0, some ⟨[.dv (i64 (y.places)), .dv (.list ((y.steps).map dStp))], 0, 24, 0, false⟩)]⟩) (fun i => i ≤ set.length ∧ ∀ j (hj : j < i) (h : j < set.length), okAt y.places set j = true) (fun i => set.length - i) 0 (by simp) (tl [(2, 2)]) ?_
    intro i hφ0
    refine awp_seq ?_
    refine awp_seq ?_
    refine rg ?_
    refine qv m_mv ?_
    refine qv m_mv ?_
    refine qv (m_len il25) ?_
    refine qv m_lss ?_
    show AWp cx _ _ _
    refine cd (fun hc1 => ?_) (fun hc1 => ?_)
    · try simp at hc1
      refine awp_skip ?_
      show AWp cx _ _ _
      refine awp_seq ?_
      refine awp_block ?_
      refine awp_seq ?_
      refine rd mixed ?_
      have hin : i < set.length := by omega
      have hgi := sg_get hin
      have hib := okAt_len (by omega) hφ0.2 hφ0.1
      refine zv m_mv ?_
      refine zv m_mv ?_
      first | refine zv (m_ixN el25 sz3) ?_ | refine zv (m_ix el25 sz3) ?_
      refine zv (m_ld sz3 ag3) ?_
      refine zv (m_fdp fd24_0) ?_
      refine zv (m_ldp sz3 ag3) ?_
      refine zv m_sub ?_
      refine zqF (R := []) (f72 (sg set i) 0 (y.places - 1)) ?_
      refine zv m_not ?_
      refine zx m_mv (fun hg27 => ?_) (fun hg27 => ?_)
      · try simp at hg27
        refine zk ?_
        refine zk ?_
        refine zk ?_
        refine zk ?_
        refine zk ?_
        refine zk ?_
        refine zk ?_
        refine zk ?_
        refine zk ?_
        refine zk ?_
        refine zk ?_
        refine zk ?_
        refine zk ?_
        refine zk ?_
        refine zv m_pk ?_
        refine ⟨by rfl, ?_⟩
        show AWp cx _ _ _
        refine cdT (hb := by first | rfl | simp | simp_all) (ht := ?_)
        refine awp_seq ?_
        refine rg ?_
        refine qv m_as ?_
        show AWp cx _ _ _
        refine awp_ret ?_
        have ea : okAt y.places set i = false := by
          simp_all [okAt]; try omega
        rw [show placedE y set = 1 by simp [placedE, hc0, okSet_no hin ea]]
        exact x1 (hr := (rI_))
      · try simp at hg27
        refine zv m_mv ?_
        refine zv m_gtr ?_
        refine zx m_mv (fun hg30 => ?_) (fun hg30 => ?_)
        · try simp at hg30
          refine zv m_mv ?_
          refine zv m_mv ?_
          first | refine zv (m_ixN el25 sz3) ?_ | refine zv (m_ix el25 sz3) ?_
          refine zv (m_ld sz3 ag3) ?_
          refine zv m_mv ?_
          refine zv m_mv ?_
          refine zv m_sub ?_
          have hg1 : set[((i : Int) - 1).toNat]? = some (sg set (i - 1)) := by
            have : ((i : Int) - 1).toNat = i - 1 := by omega
            rw [this]; exact sg_get (by omega)
          first | refine zv (m_ixN el25 sz3) ?_ | refine zv (m_ix el25 sz3) ?_
          refine zv (m_ld sz3 ag3) ?_
          refine zv m_leq ?_
          refine zv m_pk ?_
          refine zv m_pk ?_
          refine ⟨by rfl, ?_⟩
          show AWp cx _ _ _
          refine cd (fun hc2 => ?_) (fun hc2 => ?_)
          · try simp at hc2
            refine awp_seq ?_
            refine rg ?_
            refine qv m_as ?_
            show AWp cx _ _ _
            refine awp_ret ?_
            have ea : okAt y.places set i = false := by
              simp_all [okAt]; try omega
            rw [show placedE y set = 1 by simp [placedE, hc0, okSet_no hin ea]]
            exact x1 (hr := (rI_))
          · try simp at hc2
            refine awp_skip ?_
            show AWp cx _ _ _
            refine rg ?_
            refine qv m_mv ?_
            refine qv m_add ?_
            refine qv m_as ?_
            refine ⟨i + 1, ?_, (by simp only; omega), (tl [(2, 2)])⟩
            refine ⟨hin, fun j hj h => ?_⟩
            rcases Nat.lt_or_ge j i with h1 | h1
            · exact hφ0.2 j h1 h
            · obtain rfl : j = i := by omega
              simp_all [okAt]; try omega
        · try simp at hg30
          refine zk ?_
          refine zk ?_
          refine zk ?_
          refine zk ?_
          refine zk ?_
          refine zk ?_
          refine zk ?_
          refine zk ?_
          refine zk ?_
          refine zk ?_
          refine zv m_pk ?_
          refine zv m_pk ?_
          refine ⟨by rfl, ?_⟩
          show AWp cx _ _ _
          refine cdF (hb := by first | rfl | simp | simp_all) (ht := ?_)
          refine awp_skip ?_
          show AWp cx _ _ _
          refine rg ?_
          refine qv m_mv ?_
          refine qv m_add ?_
          refine qv m_as ?_
          refine ⟨i + 1, ?_, (by simp only; omega), (tl [(2, 2)])⟩
          refine ⟨hin, fun j hj h => ?_⟩
          rcases Nat.lt_or_ge j i with h1 | h1
          · exact hφ0.2 j h1 h
          · obtain rfl : j = i := by omega
            simp_all [okAt]; try omega
    · try simp at hc1
      refine awp_exit ?_
      show AWp cx _ _ _
      refine awp_seq ?_
      refine rg ?_
      refine qv m_as ?_
      show AWp cx _ _ _
      refine awp_ret ?_
      have ea : okSet y.places set = true := okSet_yes fun j hj => hφ0.2 j (by omega) hj
      rw [show placedE y set = 0 by simp [placedE, hc0, ea]]
      exact x1 (hr := (rI_))
theorem f80 : ACallsF Try.prog 80 [] (.one (.dv (dSrt nmS 100 101))) := by
  refine callsF_of Try.func80 rfl rfl (by rw [Try.ntmps80]; simp) fun cx hP hn hg => ?_
  rw [Try.ntmps80] at hn
  rw [startF_lk, none_mkM]
  simp only [List.nil_append, List.append_nil, List.cons_append, zipSV, Nat.reduceAdd]
  refine awp_seq ?_
  refine rg ?_
  refine qp (m_al ze77) ?_
  show AWp cx _ _ _
  refine awp_seq ?_
  refine rg ?_
  refine qv (m_bld pl77 ze77) ?_
  refine qs (m_st sz77) ?_
  show AWp cx _ _ _
  refine awp_ret ?_
  exact end_cell (.inr rfl) (s1 := .dv (dSrt nmS 100 101)) (by simp only [loadSV, sz77, ag77, St.look, St.ev, lk, mkM, blkOf, svOf, svOfCell, reduceIte, Nat.reduceAdd, Nat.reduceEqDiff, Nat.reduceMul]; rfl) (.dv _ scal_srt)
theorem f82 : ACallsF Try.prog 82 [] (.one (.dv (dSrt nmT 104 105))) := by
  refine callsF_of Try.func82 rfl rfl (by rw [Try.ntmps82]; simp) fun cx hP hn hg => ?_
  rw [Try.ntmps82] at hn
  rw [startF_lk, none_mkM]
  simp only [List.nil_append, List.append_nil, List.cons_append, zipSV, Nat.reduceAdd]
  refine awp_seq ?_
  refine rg ?_
  refine qp (m_al ze77) ?_
  show AWp cx _ _ _
  refine awp_seq ?_
  refine rg ?_
  refine qv (m_bld pl77 ze77) ?_
  refine qs (m_st sz77) ?_
  show AWp cx _ _ _
  refine awp_ret ?_
  exact end_cell (.inr rfl) (s1 := .dv (dSrt nmT 104 105)) (by simp only [loadSV, sz77, ag77, St.look, St.ev, lk, mkM, blkOf, svOf, svOfCell, reduceIte, Nat.reduceAdd, Nat.reduceEqDiff, Nat.reduceMul]; rfl) (.dv _ scal_srt)
theorem f100 (s : Stp) : ACalls Try.prog 100 ([] ++ [dStp s] ++ []) (.one (.dv (ints s.give))) := by
  refine callsA_of Try.func100 rfl rfl (by rw [Try.ntmps100]; simp) fun cx hP hn hg => ?_
  rw [Try.ntmps100] at hn
  rw [startF_lk, none_mkM]
  simp only [List.nil_append, List.append_nil, List.cons_append, zipSV, Nat.reduceAdd]
  refine awp_seq ?_
  refine rg ?_
  refine qp m_box ?_
  refine qv m_as ?_
  show AWp cx _ _ _
  refine awp_seq ?_
  refine rg ?_
  refine qv (m_fdp fd55_1) ?_
  refine qv (m_ldp sz25 ag25) ?_
  refine qv m_as ?_
  show AWp cx _ _ _
  refine awp_ret ?_
  exact x1 (hr := (rD_))
theorem f101 (s : Stp) : ACalls Try.prog 101 ([] ++ [dStp s] ++ []) (.one (.dv (ints s.take))) := by
  refine callsA_of Try.func101 rfl rfl (by rw [Try.ntmps101]; simp) fun cx hP hn hg => ?_
  rw [Try.ntmps101] at hn
  rw [startF_lk, none_mkM]
  simp only [List.nil_append, List.append_nil, List.cons_append, zipSV, Nat.reduceAdd]
  refine awp_seq ?_
  refine rg ?_
  refine qp m_box ?_
  refine qv m_as ?_
  show AWp cx _ _ _
  refine awp_seq ?_
  refine rg ?_
  refine qv (m_fdp fd55_0) ?_
  refine qv (m_ldp sz25 ag25) ?_
  refine qv m_as ?_
  show AWp cx _ _ _
  refine awp_ret ?_
  exact x1 (hr := (rD_))
theorem f104 (s : Stp) : ACalls Try.prog 104 ([] ++ [dStp s] ++ []) (.one (.dv (ints s.take))) := by
  refine callsA_of Try.func104 rfl rfl (by rw [Try.ntmps104]; simp) fun cx hP hn hg => ?_
  rw [Try.ntmps104] at hn
  rw [startF_lk, none_mkM]
  simp only [List.nil_append, List.append_nil, List.cons_append, zipSV, Nat.reduceAdd]
  refine awp_seq ?_
  refine rg ?_
  refine qp m_box ?_
  refine qv m_as ?_
  show AWp cx _ _ _
  refine awp_seq ?_
  refine rg ?_
  refine qv (m_fdp fd55_0) ?_
  refine qv (m_ldp sz25 ag25) ?_
  refine qv m_as ?_
  show AWp cx _ _ _
  refine awp_ret ?_
  exact x1 (hr := (rD_))
theorem f105 (s : Stp) : ACalls Try.prog 105 ([] ++ [dStp s] ++ []) (.one (.dv (ints s.give))) := by
  refine callsA_of Try.func105 rfl rfl (by rw [Try.ntmps105]; simp) fun cx hP hn hg => ?_
  rw [Try.ntmps105] at hn
  rw [startF_lk, none_mkM]
  simp only [List.nil_append, List.append_nil, List.cons_append, zipSV, Nat.reduceAdd]
  refine awp_seq ?_
  refine rg ?_
  refine qp m_box ?_
  refine qv m_as ?_
  show AWp cx _ _ _
  refine awp_seq ?_
  refine rg ?_
  refine qv (m_fdp fd55_1) ?_
  refine qv (m_ldp sz25 ag25) ?_
  refine qv m_as ?_
  show AWp cx _ _ _
  refine awp_ret ?_
  exact x1 (hr := (rD_))
theorem f110 (l : List Int) (p : Int) (h0 : 0 ≤ p) (h1 : p < l.length) : ACallsF Try.prog 110 [i64 p, .cptr [ints l]] (.one (.dv (.bool (decide (0 < sg l p.toNat))))) := by
  have hg := sg_get (l := l) (i := p.toNat) (by omega)
  refine callsF_of Try.func110 rfl rfl (by rw [Try.ntmps110]; simp) fun cx hP hn hg => ?_
  rw [Try.ntmps110] at hn
  rw [startF_lk, none_mkM]
  simp only [List.nil_append, List.append_nil, List.cons_append, zipSV, Nat.reduceAdd]
  refine awp_seq ?_
  refine rg ?_
  refine qv m_as ?_
  show AWp cx _ _ _
  refine awp_seq ?_
  refine rg ?_
  first | refine qv (m_ld sz25 ag25) ?_ | refine qv (m_ldp sz25 ag25) ?_
  refine qv m_mv ?_
  first | refine qv (m_ixN el25 sz3) ?_ | refine qv (m_ix el25 sz3) ?_ | refine qv (m_ixR el25 sz3) ?_
  first | refine qv (m_ld sz3 ag3) ?_ | refine qv (m_ldp sz3 ag3) ?_
  refine qv m_gtr ?_
  refine qv m_as ?_
  show AWp cx _ _ _
  refine awp_ret ?_
  exact x1 (hr := (rB_))
theorem f103 (l set : List Int) (hs : InL set l) (hl : set.length < 1000000) : ACallsF Try.prog 103 [ints l, ints set] (.one (.dv (.bool (meets l set)))) := by
  refine callsF_of Try.func103 rfl rfl (by rw [Try.ntmps103]; simp) fun cx hP hn hg => ?_
  rw [Try.ntmps103] at hn
  rw [startF_lk, none_mkM]
  simp only [List.nil_append, List.append_nil, List.cons_append, zipSV, Nat.reduceAdd]
  refine awp_seq ?_
  refine rg ?_
  refine qp m_box ?_
  refine qv m_as ?_
  show AWp cx _ _ _
  refine awp_seq ?_
  refine rg ?_
  refine qv m_mv ?_
  refine qfn ?_
  refine qqF (f84 set 110 [] [.cptr [ints l]] (fun p => decide (0 < sg l p.toNat)) (fun p hp => f110 l p (hs p hp).1 (hs p hp).2) hl) ?_
  refine qv m_as ?_
  show AWp cx _ _ _
  refine awp_ret ?_
  exact x1 (hr := (rB_ (by simp [meets])))
theorem f102 (nm : ByteArray) (ft fn : Nat) (tc nd : Stp → List Int) (s : Stp) (set : List Int) (ht : ACalls Try.prog ft ([] ++ [dStp s] ++ []) (.one (.dv (ints (tc s))))) (hnd : ACalls Try.prog fn ([] ++ [dStp s] ++ []) (.one (.dv (ints (nd s))))) (h1 : InL set (tc s)) (h2 : InL set (nd s)) (hl : set.length < 1000000) :
    ACallsF Try.prog 102 [dStp s, .cptr [.str nm, .fn ft [] [], .fn fn [] []], .cptr [ints set]] (.one (.dv (.bool (meets (tc s) set && !meets (nd s) set)))) := by
  refine callsF_of Try.func102 rfl rfl (by rw [Try.ntmps102]; simp) fun cx hP hn hg => ?_
  rw [Try.ntmps102] at hn
  rw [startF_lk, none_mkM]
  simp only [List.nil_append, List.append_nil, List.cons_append, zipSV, Nat.reduceAdd]
  refine awp_seq ?_
  refine rg ?_
  refine qp m_box ?_
  refine qv m_as ?_
  show AWp cx _ _ _
  refine awp_seq ?_
  refine rd mixed ?_
  refine zv (m_fd fd77_1) ?_
  refine zv (m_ld sz75 ag75) ?_
  refine zv (m_ldpa sz55 ag55) ?_
  refine zqVA (R := []) (ht) ?_
  refine zv (m_ld sz25 ag25) ?_
  refine zqF (R := []) (f103 (tc s) set h1 hl) ?_
  refine zx m_mv (fun hg11 => ?_) (fun hg11 => ?_)
  · try simp at hg11
    refine zv (m_fd fd77_2) ?_
    refine zv (m_ld sz75 ag75) ?_
    refine zv (m_ldpa sz55 ag55) ?_
    refine zqVA (R := []) (hnd) ?_
    refine zv (m_ld sz25 ag25) ?_
    refine zqF (R := []) (f103 (nd s) set h2 hl) ?_
    refine zv m_not ?_
    refine zv m_pk ?_
    refine zv m_as ?_
    refine ⟨by rfl, ?_⟩
    show AWp cx _ _ _
    refine awp_ret ?_
    exact x1 (hr := (rB_ (by simp_all)))
  · try simp at hg11
    refine zk ?_
    refine zk ?_
    refine zk ?_
    refine zk ?_
    refine zk ?_
    refine zk ?_
    refine zk ?_
    refine zv m_pk ?_
    refine zv m_as ?_
    refine ⟨by rfl, ?_⟩
    show AWp cx _ _ _
    refine awp_ret ?_
    exact x1 (hr := (rB_ (by simp_all)))
theorem f81 (nm : ByteArray) (ft fn : Nat) (tc nd : Stp → List Int) (y : Yd) (set : List Int) (ht : ∀ s ∈ y.steps, ACalls Try.prog ft ([] ++ [dStp s] ++ []) (.one (.dv (ints (tc s))))) (hnd : ∀ s ∈ y.steps, ACalls Try.prog fn ([] ++ [dStp s] ++ []) (.one (.dv (ints (nd s)))))
    (h1 : ∀ s ∈ y.steps, InL set (tc s)) (h2 : ∀ s ∈ y.steps, InL set (nd s)) (hl : set.length < 1000000) (hy : y.steps.length < 1000000) : ACallsF Try.prog 81 [dSrt nm ft fn, dYd y, ints set] (.one (.dv (.bool (srtB tc nd y set)))) := by
  refine callsF_of Try.func81 rfl rfl (by rw [Try.ntmps81]; simp) fun cx hP hn hg => ?_
  rw [Try.ntmps81] at hn
  rw [startF_lk, none_mkM]
  simp only [List.nil_append, List.append_nil, List.cons_append, zipSV, Nat.reduceAdd]
  refine awp_seq ?_
  refine rg ?_
  refine qp m_box ?_
  refine qp m_box ?_
  refine qp m_box ?_
  refine qv m_as ?_
  show AWp cx _ _ _
  refine awp_seq ?_
  refine rg ?_
  refine qv (m_fdp fd24_1) ?_
  refine qv (m_ldp sz22 ag22) ?_
  refine qfn ?_
  refine qqF (f63 y.steps 102 [] [.cptr [.str nm, .fn ft [] [], .fn fn [] []], .cptr [ints set]] (fun s => meets (tc s) set && !meets (nd s) set) (fun s hs => f102 nm ft fn tc nd s set (ht s hs) (hnd s hs) (h1 s hs) (h2 s hs) hl) hy) ?_
  refine qv m_not ?_
  refine qv m_as ?_
  show AWp cx _ _ _
  refine awp_ret ?_
  exact x1 (hr := (rD_))
theorem valid_in {y : Yd} (h : VYd y) {set : List Int} (hs : ∀ x ∈ set, 0 ≤ x ∧ x < y.places) : (∀ s ∈ y.steps, InL set s.take) ∧ (∀ s ∈ y.steps, InL set s.give) := by
  obtain ⟨v1, v2, v3, v4⟩ := validate_ok h
  refine ⟨fun s hss p hp => ?_, fun s hss p hp => ?_⟩ <;>
  · have h4 := v4 s hss
    simp only [okStp, Bool.and_eq_true] at h4
    have := allIn_len h4.1
    have := allIn_len h4.2
    have := hs p hp
    omega
abbrev giveS (s : Stp) : List Int := s.give
abbrev takeS (s : Stp) : List Int := s.take
def isSiphR (y : Yd) (set : List Int) : Bool × Int := (decide (placedE y set = 0) && srtB giveS takeS y set, placedE y set)
def isTrapR (y : Yd) (set : List Int) : Bool × Int := (decide (placedE y set = 0) && srtB takeS giveS y set, placedE y set)
theorem f42 (y : Yd) (set : List Int) : ACallsF Try.prog 42 [dYd y, ints set] (.many [.dv (.bool (isSiphR y set).1), .dv (i64 (isSiphR y set).2)]) := by
  refine callsF_of Try.func42 rfl rfl (by rw [Try.ntmps42]; simp) fun cx hP hn hg => ?_
  rw [Try.ntmps42] at hn
  rw [startF_lk, none_mkM]
  simp only [List.nil_append, List.append_nil, List.cons_append, zipSV, Nat.reduceAdd]
  refine awp_seq ?_
  refine rg ?_
  refine qp m_box ?_
  refine qv m_as ?_
  refine qv m_as ?_
  show AWp cx _ _ _
  refine awp_seq ?_
  refine rg ?_
  refine qv (m_ldpa sz24 ag24) ?_
  refine qv m_mv ?_
  refine qqF (f79 y set) ?_
  refine qv m_as ?_
  show AWp cx _ _ _
  refine awp_seq ?_
  refine rd mixed ?_
  refine zv m_mv ?_
  refine zv m_eql ?_
  refine zx m_mv (fun hg12 => ?_) (fun hg12 => ?_)
  · try simp at hg12
    obtain ⟨hv, hok⟩ := placed_ok hg12
    obtain ⟨v1, v2, v3, v4⟩ := validate_ok hv
    have hin := okSet_in hok
    have hsl := okSet_len (by omega) hok
    obtain ⟨i1, i2⟩ := valid_in hv hin
    refine zqF (R := []) (f80) ?_
    refine zv (m_ldpa sz24 ag24) ?_
    refine zv m_mv ?_
    refine zqF (R := []) (f81 nmS 100 101 giveS takeS y set (fun s _ => f100 s) (fun s _ => f101 s) i2 i1 (by omega) (by omega)) ?_
    refine zv m_pk ?_
    refine zv m_mv ?_
    refine zv m_as ?_
    refine zv m_as ?_
    refine ⟨by rfl, ?_⟩
    show AWp cx _ _ _
    refine awp_ret ?_
    exact x2 (hr := (rB_ (by simp [isSiphR, hg12]))) (hr' := (rI_ (by simp [isSiphR])))
  · try simp at hg12
    refine zk ?_
    refine zk ?_
    refine zk ?_
    refine zk ?_
    refine zv m_pk ?_
    refine zv m_mv ?_
    refine zv m_as ?_
    refine zv m_as ?_
    refine ⟨by rfl, ?_⟩
    show AWp cx _ _ _
    refine awp_ret ?_
    exact x2 (hr := (rB_ (by simp [isSiphR, hg12]))) (hr' := (rI_ (by simp [isSiphR])))
theorem f43 (y : Yd) (set : List Int) : ACallsF Try.prog 43 [dYd y, ints set] (.many [.dv (.bool (isTrapR y set).1), .dv (i64 (isTrapR y set).2)]) := by
  refine callsF_of Try.func43 rfl rfl (by rw [Try.ntmps43]; simp) fun cx hP hn hg => ?_
  rw [Try.ntmps43] at hn
  rw [startF_lk, none_mkM]
  simp only [List.nil_append, List.append_nil, List.cons_append, zipSV, Nat.reduceAdd]
  refine awp_seq ?_
  refine rg ?_
  refine qp m_box ?_
  refine qv m_as ?_
  refine qv m_as ?_
  show AWp cx _ _ _
  refine awp_seq ?_
  refine rg ?_
  refine qv (m_ldpa sz24 ag24) ?_
  refine qv m_mv ?_
  refine qqF (f79 y set) ?_
  refine qv m_as ?_
  show AWp cx _ _ _
  refine awp_seq ?_
  refine rd mixed ?_
  refine zv m_mv ?_
  refine zv m_eql ?_
  refine zx m_mv (fun hg12 => ?_) (fun hg12 => ?_)
  · try simp at hg12
    obtain ⟨hv, hok⟩ := placed_ok hg12
    obtain ⟨v1, v2, v3, v4⟩ := validate_ok hv
    have hin := okSet_in hok
    have hsl := okSet_len (by omega) hok
    obtain ⟨i1, i2⟩ := valid_in hv hin
    refine zqF (R := []) (f82) ?_
    refine zv (m_ldpa sz24 ag24) ?_
    refine zv m_mv ?_
    refine zqF (R := []) (f81 nmT 104 105 takeS giveS y set (fun s _ => f104 s) (fun s _ => f105 s) i1 i2 (by omega) (by omega)) ?_
    refine zv m_pk ?_
    refine zv m_mv ?_
    refine zv m_as ?_
    refine zv m_as ?_
    refine ⟨by rfl, ?_⟩
    show AWp cx _ _ _
    refine awp_ret ?_
    exact x2 (hr := (rB_ (by simp [isTrapR, hg12]))) (hr' := (rI_ (by simp [isTrapR])))
  · try simp at hg12
    refine zk ?_
    refine zk ?_
    refine zk ?_
    refine zk ?_
    refine zv m_pk ?_
    refine zv m_mv ?_
    refine zv m_as ?_
    refine zv m_as ?_
    refine ⟨by rfl, ?_⟩
    show AWp cx _ _ _
    refine awp_ret ?_
    exact x2 (hr := (rB_ (by simp [isTrapR, hg12]))) (hr' := (rI_ (by simp [isTrapR])))
end Go.Ab.Try
set_option linter.all false
namespace Go.Ab.Try
open Go Go.Ab Go.Proofs
theorem awp_frz {cx : Cx} {c : Code} {K : Exit → St → Prop} {l : List (Nat × SV)} {m : List (Nat × Nat × Option Blk)} (t : Nat) {g : Nat} {b : Blk} (k : AWp cx c K ⟨lk l, mkM ((t, g, some { b with st := 1 }) :: m)⟩) (h0 : mkM m t = (g, some b) := by (simp only [mkM, reduceIte, Nat.reduceEqDiff] <;> rfl)) (h1 : OwS b.st ∨ b.st = 1 := by (first | exact .inl (.inl rfl) | exact .inr rfl)) : AWp cx c K ⟨lk l, mkM m⟩ := by
  refine AWp.le (Le.freeze (S := ⟨lk l, mkM m⟩) h0 h1) ?_
  rw [upd_mkM]; exact k
def stpG (tc nd : Stp → List Int) (out : List Int) (s : Stp) : List Int := if meets (nd s) out then out else delF (fun p => decide (0 < sg (tc s) p.toNat)) out
def passG (tc nd : Stp → List Int) (y : Yd) (out : List Int) : List Int := y.steps.foldl (stpG tc nd) out
theorem delF_sub {p : Int → Bool} {L : List Int} : (delF p L).Sublist L := List.filter_sublist
theorem stpG_sub {tc nd : Stp → List Int} {out : List Int} {s : Stp} : (stpG tc nd out s).Sublist out := by
  unfold stpG
  split
  · exact List.Sublist.refl _
  · exact delF_sub
theorem foldG_sub {tc nd : Stp → List Int} : ∀ {l : List Stp} {out : List Int}, (l.foldl (stpG tc nd) out).Sublist out
  | [], out => List.Sublist.refl _
  | s :: l, out => (foldG_sub (l := l)).trans stpG_sub
theorem foldG_lt {tc nd : Stp → List Int} : ∀ {l : List Stp} {out : List Int}, (l.any fun s => meets (tc s) out && !meets (nd s) out) = true → (l.foldl (stpG tc nd) out).length < out.length
  | [], out, h => by simp at h
  | s :: l, out, h => by
    simp only [List.foldl_cons]
    by_cases hs : (meets (tc s) out && !meets (nd s) out) = true
    · simp only [Bool.and_eq_true, Bool.not_eq_true'] at hs
      refine Nat.lt_of_le_of_lt foldG_sub.length_le ?_
      unfold stpG
      rw [if_neg (by simp [hs.2])]
      unfold delF
      rw [List.length_filter_lt_length_iff_exists]
      obtain ⟨p, hp, hq⟩ := List.any_eq_true.1 hs.1
      exact ⟨p, hp, by simpa using hq⟩
    · rcases Nat.lt_or_ge (stpG tc nd out s).length out.length with h1 | h1
      · exact Nat.lt_of_le_of_lt foldG_sub.length_le h1
      · rw [stpG_sub.eq_of_length_le h1]
        refine foldG_lt ?_
        rw [List.any_cons] at h
        simp only [Bool.or_eq_true] at h
        rcases h with h | h
        · exact absurd h hs
        · exact h
theorem passG_sub {tc nd : Stp → List Int} {y : Yd} {out : List Int} : (passG tc nd y out).Sublist out := foldG_sub
theorem passG_lt {tc nd : Stp → List Int} {y : Yd} {out : List Int} (h : ¬ srtB tc nd y out = true) : (passG tc nd y out).length < out.length :=
  foldG_lt (by unfold srtB at h; simpa using h)
def great (tc nd : Stp → List Int) (y : Yd) (out : List Int) : List Int :=
  if _h : srtB tc nd y out = true then out else great tc nd y (passG tc nd y out)
termination_by out.length
decreasing_by exact passG_lt _h
theorem great_yes {tc nd : Stp → List Int} {y : Yd} {out : List Int} (h : srtB tc nd y out = true) : great tc nd y out = out := by
  rw [great]; exact dif_pos h
theorem great_no {tc nd : Stp → List Int} {y : Yd} {out : List Int} (h : ¬ srtB tc nd y out = true) : great tc nd y out = great tc nd y (passG tc nd y out) := by
  rw [great]; exact dif_neg h
theorem passG_at {tc nd : Stp → List Int} {l : List Stp} {out : List Int} {i : Nat} {s : Stp} (h : l[i]? = some s) : (l.take (i + 1)).foldl (stpG tc nd) out = stpG tc nd ((l.take i).foldl (stpG tc nd) out) s := by
  rw [take_snoc h, List.foldl_append]; rfl
theorem InL.sub {a b l : List Int} (h : InL a l) (hs : b.Sublist a) : InL b l := fun p hp => h p (hs.subset hp)
theorem f108 (nm : ByteArray) (ft fn : Nat) (tc : Stp → List Int) (s : Stp) (x : Int) (ht : ACalls Try.prog ft ([] ++ [dStp s] ++ []) (.one (.dv (ints (tc s))))) (h0 : 0 ≤ x) (h1 : x < (tc s).length) :
    ACallsF Try.prog 108 [i64 x, .cptr [.str nm, .fn ft [] [], .fn fn [] []], .cptr [ints s.take, ints s.give]] (.one (.dv (.bool (decide (0 < sg (tc s) x.toNat))))) := by
  have hge := sg_get (l := tc s) (i := x.toNat) (by omega)
  refine callsF_of Try.func108 rfl rfl (by rw [Try.ntmps108]; simp) fun cx hP hn hg => ?_
  rw [Try.ntmps108] at hn
  rw [startF_lk, none_mkM]
  simp only [List.nil_append, List.append_nil, List.cons_append, zipSV, Nat.reduceAdd]
  refine awp_seq ?_
  refine rg ?_
  refine qv m_as ?_
  show AWp cx _ _ _
  refine awp_seq ?_
  refine rg ?_
  refine qv (m_fd fd77_1) ?_
  refine qv (m_ld sz75 ag75) ?_
  refine qv (m_lda sz55 ag55) ?_
  refine qqVA (ht) ?_
  refine qv m_mv ?_
  first | refine qv (m_ixN el25 sz3) ?_ | refine qv (m_ix el25 sz3) ?_ | refine qv (m_ixR el25 sz3) ?_
  first | refine qv (m_ld sz3 ag3) ?_ | refine qv (m_ldp sz3 ag3) ?_
  refine qv m_gtr ?_
  refine qv m_as ?_
  show AWp cx _ _ _
  refine awp_ret ?_
  exact x1 (hr := (rD_))
theorem f94 (nm : ByteArray) (ft fn : Nat) (tc nd : Stp → List Int) (y : Yd) (set : List Int) (ht : ∀ s ∈ y.steps, ACalls Try.prog ft ([] ++ [dStp s] ++ []) (.one (.dv (ints (tc s))))) (hnd : ∀ s ∈ y.steps, ACalls Try.prog fn ([] ++ [dStp s] ++ []) (.one (.dv (ints (nd s)))))
    (h1 : ∀ s ∈ y.steps, InL set (tc s)) (h2 : ∀ s ∈ y.steps, InL set (nd s)) (hl : set.length < 1000000) (hy : y.steps.length < 1000000) : ACallsF Try.prog 94 [dSrt nm ft fn, dYd y, ints set] (.one (.dv (ints (great tc nd y set)))) := by
  refine callsF_of Try.func94 rfl rfl (by rw [Try.ntmps94]; simp) fun cx hP hn hg => ?_
  rw [Try.ntmps94] at hn
  rw [startF_lk, none_mkM]
  simp only [List.nil_append, List.append_nil, List.cons_append, zipSV, Nat.reduceAdd]
  refine awp_seq ?_
  refine rg ?_
  refine qp m_box ?_
  refine qp m_box ?_
  refine qv m_as ?_
  show AWp cx _ _ _
  refine awp_seq ?_
  refine rg ?_
  refine qv m_mv ?_
  refine qqF (f76 set hl) ?_
  refine qv m_as ?_
  show AWp cx _ _ _
  refine awp_seq ?_
  refine awp_block ?_
  refine awp_frz 3 ?_
  refine awp_loop (ι := List Int × List Int) (fun q => ⟨lk [(3, .pt 3 0 0), (4, .pt 4 0 0), (7, .sl 7 0 0 q.1.length)], mkM [(3, 0, some ⟨[.dv (.str nm), .dv (.fn ft [] []), .dv (.fn fn [] [])], 0, 77, 1, false⟩), (4, 0, some ⟨[.dv (i64 (y.places)), .dv (.list ((y.steps).map dStp))], 0, 24, 0, false⟩), (7, 0, some (rowI (q.1 ++ q.2)))]⟩) (fun q => great tc nd y q.1 = great tc nd y set ∧ q.1.Sublist set) (fun q => q.1.length) (set, []) ⟨rfl, List.Sublist.refl _⟩ (tl [(3, 3), (4, 4), (7, 11)] (hF := by simp [FLe, svLe, lk, mkM, isLive, tauL, rowK]) (hM := by simp [MLe, blkLe, svLe, svLes, lk, mkM, isLive, tauL, svLes_ints, svLes_self, isDvs, isDvs_map, isDvs_app, isDvs_take, isDvs_set, isDvs_repl, rowK])) ?_
  intro q hφ0
  refine awp_seq ?_
  refine awp_seq ?_
  refine rg ?_
  refine qv (m_ldpa sz77 ag77) ?_
  refine qv (m_ldpa sz24 ag24) ?_
  refine qv m_mv ?_
  refine qqF (f81 nm ft fn tc nd y q.1 ht hnd (fun s hs => (h1 s hs).sub hφ0.2) (fun s hs => (h2 s hs).sub hφ0.2) (by have := hφ0.2.length_le; omega) hy) ?_ (ha := (args_cons data_dv (args_cons data_dv (args_cons (data_intsP (L := q.1) (zs := q.2) (by simp only [mkM, reduceIte, Nat.reduceEqDiff] <;> rfl) trivial rfl rfl rfl (fun _ => trivial)) args_nil))))
  refine qv m_not ?_
  show AWp cx _ _ _
  refine cd (fun hc0 => ?_) (fun hc0 => ?_)
  · try simp at hc0
    refine awp_skip ?_
    show AWp cx _ _ _
    refine awp_block ?_
    refine awp_seq ?_
    refine rg ?_
    refine qv (m_fdp fd24_1) ?_
    refine qv (m_ldp sz22 ag22) ?_
    refine qv (m_len il22) ?_
    refine qv m_mv ?_
    show AWp cx _ _ _
    refine awp_block ?_
    refine awp_loop (ι := Nat × List Int × List Int) (fun r => ⟨lk [(3, .pt 3 0 0), (4, .pt 4 0 0), (7, .sl 7 0 0 r.2.1.length), (18, .dv (.list ((y.steps).map dStp))), (19, .dv (i64 ((y.steps.length : Int)))), (20, .dv (i64 (r.1 : Nat)))], mkM [(3, 0, some ⟨[.dv (.str nm), .dv (.fn ft [] []), .dv (.fn fn [] [])], 0, 77, 1, false⟩), (4, 0, some ⟨[.dv (i64 (y.places)), .dv (.list ((y.steps).map dStp))], 0, 24, 0, false⟩), (7, 0, some (rowI (r.2.1 ++ r.2.2)))]⟩) (fun r => (r.1 ≤ y.steps.length ∧ (y.steps.take r.1).foldl (stpG tc nd) q.1 = r.2.1 ∧ r.2.1.Sublist q.1)) (fun r => y.steps.length - r.1) (0, q.1, q.2) ⟨Nat.zero_le _, rfl, List.Sublist.refl _⟩ (tl [(3, 3), (4, 4), (7, 7)] (hF := by simp [FLe, svLe, lk, mkM, isLive, tauL, rowK]) (hM := by simp [MLe, blkLe, svLe, svLes, lk, mkM, isLive, tauL, svLes_ints, svLes_self, isDvs, isDvs_map, isDvs_app, isDvs_take, isDvs_set, isDvs_repl, rowK])) ?_
    intro r hφ1
    refine awp_seq ?_
    refine rg ?_
    refine qv m_lss ?_
    show AWp cx _ _ _
    refine awp_seq ?_
    refine cd (fun hc1 => ?_) (fun hc1 => ?_)
    · try simp at hc1
      refine awp_skip ?_
      show AWp cx _ _ _
      refine awp_seq ?_
      refine awp_block ?_
      refine awp_seq ?_
      refine rg ?_
      have hin : r.1 < y.steps.length := by omega
      obtain ⟨s, hgs⟩ : ∃ s, y.steps[r.1]? = some s := ⟨_, List.getElem?_eq_getElem hin⟩
      have hsm : s ∈ y.steps := List.mem_of_getElem? hgs
      have hsb := hφ1.2.2.trans hφ0.2
      have hsl := hsb.length_le
      first | refine qv (m_ixN el22 sz55) ?_ | refine qv (m_ix el22 sz55) ?_
      refine qv (m_lda sz55 ag55) ?_
      refine qp (m_al ze55) ?_
      refine qs (m_st sz55) ?_
      show AWp cx _ _ _
      refine awp_seq ?_
      refine rg ?_
      refine qv (m_fdp fd77_2) ?_
      refine qv (m_ldp sz75 ag75) ?_
      refine qv (m_ldpa sz55 ag55) ?_
      refine qqVA (hnd s hsm) ?_
      refine qv m_mv ?_
      refine qqF (f103 (nd s) r.2.1 ((h2 s hsm).sub hsb) (by omega)) ?_ (ha := (args_cons data_dv (args_cons (data_intsP (L := r.2.1) (zs := r.2.2) (by simp only [mkM, reduceIte, Nat.reduceEqDiff] <;> rfl) trivial rfl rfl rfl (fun _ => trivial)) args_nil)))
      refine qv m_not ?_
      show AWp cx _ _ _
      refine cd (fun hc2 => ?_) (fun hc2 => ?_)
      · try simp at hc2
        refine rg ?_
        refine qv m_mv ?_
        refine qfn ?_
        refine qqG (f107 r.2.1 r.2.2 108 [] [.cptr [.str nm, .fn ft [] [], .fn fn [] []], .cptr [ints s.take, ints s.give]] (fun p => decide (0 < sg (tc s) p.toNat)) (fun x hx => f108 nm ft fn tc s x (ht s hsm) (((h1 s hsm).sub hsb) x hx).1 (((h1 s hsm).sub hsb) x hx).2) (by omega)) [] [(100000, 7)] [7] ?_
        refine qv m_as ?_
        show AWp cx _ _ _
        refine rg ?_
        refine qv m_add ?_
        refine qv m_mv ?_
        exact ⟨(r.1 + 1, delF (fun p => decide (0 < sg (tc s) p.toNat)) r.2.1, List.replicate (r.2.1.length - (delF (fun p => decide (0 < sg (tc s) p.toNat)) r.2.1).length) 0 ++ r.2.2), ⟨hin, by rw [passG_at hgs, hφ1.2.1]; simp [stpG, hc2], delF_sub.trans hφ1.2.2⟩, (by simp only; omega), (tl [(3, 3), (4, 4), (7, 7)] (hF := by simp [FLe, svLe, lk, mkM, isLive, tauL, rowK, List.append_assoc]) (hM := by simp [MLe, blkLe, svLe, svLes, lk, mkM, isLive, tauL, svLes_ints, svLes_self, isDvs, isDvs_map, isDvs_app, isDvs_take, isDvs_set, isDvs_repl, rowK, List.append_assoc]))⟩
      · try simp at hc2
        refine awp_skip ?_
        show AWp cx _ _ _
        refine rg ?_
        refine qv m_add ?_
        refine qv m_mv ?_
        exact ⟨(r.1 + 1, r.2.1, r.2.2), ⟨hin, by rw [passG_at hgs, hφ1.2.1]; simp [stpG, hc2], hφ1.2.2⟩, (by simp only; omega), (tl [(3, 3), (4, 4), (7, 7)] (hF := by simp [FLe, svLe, lk, mkM, isLive, tauL, rowK, List.append_assoc]) (hM := by simp [MLe, blkLe, svLe, svLes, lk, mkM, isLive, tauL, svLes_ints, svLes_self, isDvs, isDvs_map, isDvs_app, isDvs_take, isDvs_set, isDvs_repl, rowK, List.append_assoc]))⟩
    · try simp at hc1
      refine awp_exit ?_
      refine ⟨(r.2.1, r.2.2), ?_, (by
        have e : r.2.1 = passG tc nd y q.1 := by
          rw [← hφ1.2.1, List.take_of_length_le (by omega)]; rfl
        simp only [e]; exact passG_lt (by simp [hc0])), (tl [(3, 3), (4, 4), (7, 7)] (hF := by simp [FLe, svLe, lk, mkM, isLive, tauL, rowK]) (hM := by simp [MLe, blkLe, svLe, svLes, lk, mkM, isLive, tauL, svLes_ints, svLes_self, isDvs, isDvs_map, isDvs_app, isDvs_take, isDvs_set, isDvs_repl, rowK]))⟩
      have e : r.2.1 = passG tc nd y q.1 := by
        rw [← hφ1.2.1, List.take_of_length_le (by omega)]; rfl
      exact ⟨by simp only [e]; rw [← great_no (by simp [hc0])]; exact hφ0.1, hφ1.2.2.trans hφ0.2⟩
  · try simp at hc0
    refine awp_exit ?_
    show AWp cx _ _ _
    refine awp_seq ?_
    refine rg ?_
    refine qv m_mv ?_
    refine qv m_as ?_
    show AWp cx _ _ _
    refine awp_ret ?_
    rw [← hφ0.1, great_yes (by simpa using hc0)]
    exact x1 (hr := data_intsP (L := q.1) (zs := q.2) (by simp only [mkM, reduceIte, Nat.reduceEqDiff] <;> rfl) trivial rfl rfl rfl (fun _ => .int _ _))
end Go.Ab.Try
set_option linter.all false
namespace Go.Ab.Try
open Go Go.Ab Go.Proofs
def siphR (y : Yd) (set : List Int) : List Int × Int := if placedE y set ≠ 0 then ([], placedE y set) else (great giveS takeS y set, 0)
def trapR (y : Yd) (set : List Int) : List Int × Int := if placedE y set ≠ 0 then ([], placedE y set) else (great takeS giveS y set, 0)
theorem great_good {tc nd : Stp → List Int} {y : Yd} (out : List Int) : srtB tc nd y (great tc nd y out) = true ∧ (great tc nd y out).Sublist out := by
  by_cases h : srtB tc nd y out = true
  · rw [great_yes h]; exact ⟨h, List.Sublist.refl _⟩
  · rw [great_no h]
    have := great_good (tc := tc) (nd := nd) (y := y) (passG tc nd y out)
    exact ⟨this.1, this.2.trans passG_sub⟩
termination_by out.length
decreasing_by exact passG_lt h
def tokAt (m : List Int) (p : Int) : Int := if 0 ≤ p ∧ p < m.length then sg m p.toNat else 0
def tok (m set : List Int) : Int := (set.map (tokAt m)).sum
theorem sg_bd {m : List Int} {lo hi : Int} (h : ∀ x ∈ m, lo ≤ x ∧ x ≤ hi) {p : Nat} (hp : p < m.length) : lo ≤ sg m p ∧ sg m p ≤ hi := h _ (List.mem_of_getElem? (sg_get hp))
theorem tokAt_bd {m : List Int} (h : ∀ x ∈ m, 0 ≤ x ∧ x ≤ 50) (p : Int) : 0 ≤ tokAt m p ∧ tokAt m p ≤ 50 := by
  unfold tokAt
  split
  · exact sg_bd h (by omega)
  · omega
theorem tok_bd {m : List Int} (h : ∀ x ∈ m, 0 ≤ x ∧ x ≤ 50) : ∀ set : List Int, 0 ≤ tok m set ∧ tok m set ≤ 50 * set.length
  | [] => by simp [tok]
  | p :: l => by
    have h1 := tokAt_bd h p
    have h2 := tok_bd h l
    simp only [tok, List.map_cons, List.sum_cons, List.length_cons] at *
    omega
theorem tok_snoc {m set : List Int} {i : Nat} {p : Int} (h : set[i]? = some p) : tok m (set.take (i + 1)) = tok m (set.take i) + tokAt m p := by
  rw [take_snoc h]; simp [tok]
theorem tok_zero {m : List Int} (h : ∀ x ∈ m, 0 ≤ x ∧ x ≤ 50) : ∀ set : List Int, tok m set = 0 ↔ ∀ p ∈ set, tokAt m p = 0
  | [] => by simp [tok]
  | p :: l => by
    have h1 := tokAt_bd h p
    have h2 := tok_bd h l
    have h3 := tok_zero h l
    simp only [tok, List.map_cons, List.sum_cons, List.mem_cons, forall_eq_or_imp] at *
    constructor
    · intro h4; exact ⟨by omega, h3.1 (by omega)⟩
    · intro h4; have := h3.2 h4.2; omega
theorem vm_bd {y : Yd} {m : List Int} (hm : VM y m) : ∀ x ∈ m, 0 ≤ x ∧ x ≤ 50 := fun x hx => allIn_mem hm x hx
theorem sg_moved {s : Stp} {m : List Int} {p : Nat} (h : p < m.length) : sg (moved s m) p = sg m p + (sg s.give p - sg s.take p) := by
  simp [moved, sg, h]
theorem step_at {y : Yd} {m : List Int} {s : Int} (hv : VYd y) (hm : VM y m) (h0 : 0 ≤ s) (h1 : s < y.steps.length) (ha : (afterR (stepAt y s) m).2 = 0) :
    VM y (afterR (stepAt y s) m).1 ∧ stepAt y s ∈ y.steps ∧ ∀ p : Int, 0 ≤ p → p < y.places → tokAt m p = sg m p.toNat ∧ tokAt (afterR (stepAt y s) m).1 p = sg m p.toNat + (sg (stepAt y s).give p.toNat - sg (stepAt y s).take p.toNat) ∧ sg (stepAt y s).take p.toNat ≤ sg m p.toNat ∧ 0 ≤ sg (stepAt y s).give p.toNat ∧ 0 ≤ sg (stepAt y s).take p.toNat := by
  obtain ⟨a1, a2, a3⟩ := after_vm hv hm h0 h1 ha
  obtain ⟨hf, he⟩ := fits_of hv hm h0 h1
  have hmem := List.mem_of_getElem? he
  refine ⟨a1, hmem, fun p p0 p1 => ?_⟩
  obtain ⟨v1, v2, v3, v4⟩ := validate_ok hv
  have hs := v4 _ hmem
  simp only [okStp, Bool.and_eq_true] at hs
  have e1 := allIn_len hm
  have e2 := allIn_len hs.1
  have e3 := allIn_len hs.2
  have hp : p.toNat < m.length := by omega
  have ht : p.toNat < (stepAt y s).take.length := by omega
  have hg : p.toNat < (stepAt y s).give.length := by omega
  have c1 := covers_at a3 hp ht
  have b1 := sg_bd (fun x hx => allIn_mem hs.1 x hx) ht
  have b2 := sg_bd (fun x hx => allIn_mem hs.2 x hx) hg
  refine ⟨by unfold tokAt; rw [if_pos (by omega)], ?_, ?_, b2.1, b1.1⟩
  · rw [a2]; unfold tokAt; rw [if_pos (by rw [moved_len]; omega), sg_moved hp]
  · simpa [sg, hp, ht] using c1
theorem srt_at {tc nd : Stp → List Int} {y : Yd} {S : List Int} (h : srtB tc nd y S = true) {s : Stp} (hs : s ∈ y.steps) : meets (tc s) S = true → meets (nd s) S = true := by
  intro h1
  unfold srtB at h
  simp only [Bool.not_eq_true', List.any_eq_false] at h
  have := h s hs
  simp only [h1, Bool.true_and, Bool.not_eq_true', Bool.not_eq_false] at this
  simpa using this
theorem meets_iff {l S : List Int} : meets l S = true ↔ ∃ p ∈ S, 0 < sg l p.toNat := by simp [meets]
theorem run_siph {y : Yd} (hv : VYd y) {S : List Int} (hS : ∀ p ∈ S, 0 ≤ p ∧ p < y.places) (hs : srtB giveS takeS y S = true) : ∀ (l m : List Int) (i : Nat), VM y m → (∀ x ∈ l, 0 ≤ x ∧ x < y.steps.length) → (runFrom y m l i).2.2 = 0 → tok m S = 0 → tok (runFrom y m l i).1 S = 0
  | [], m, i, hm, _, _, hz => hz
  | s :: l, m, i, hm, hl, h, hz => by
    obtain ⟨s0, s1⟩ := hl s (by simp)
    simp only [runFrom] at h ⊢
    split at h
    · rename_i h1; exact absurd h h1
    · rename_i h1
      rw [if_neg h1]
      obtain ⟨a1, a2, a3⟩ := step_at hv hm s0 s1 (by simpa using h1)
      refine run_siph hv hS hs l _ (i + 1) a1 (fun x hx => hl x (by simp [hx])) h ?_
      rw [tok_zero (vm_bd hm)] at hz
      rw [tok_zero (vm_bd a1)]
      intro p hp
      obtain ⟨q1, q2, q3, q4, q5⟩ := a3 p (hS p hp).1 (hS p hp).2
      have hz' := hz p hp
      have hn : ¬ meets (giveS (stepAt y s)) S = true := fun hmg => by
        obtain ⟨q, hq, hq'⟩ := meets_iff.1 (srt_at hs a2 hmg)
        obtain ⟨r1, r2, r3, r4, r5⟩ := a3 q (hS q hq).1 (hS q hq).2
        have := hz q hq
        simp only [takeS] at hq'
        omega
      have : ¬ 0 < sg (stepAt y s).give p.toNat := fun h => hn (meets_iff.2 ⟨p, hp, h⟩)
      omega
theorem tok_pos {m : List Int} (h : ∀ x ∈ m, 0 ≤ x ∧ x ≤ 50) {S : List Int} : 0 < tok m S ↔ ∃ p ∈ S, 0 < tokAt m p := by
  have h1 := tok_zero h S
  have h2 := (tok_bd h S).1
  constructor
  · intro h3
    apply Classical.byContradiction
    intro h4
    have : tok m S = 0 := h1.2 fun p hp => by
      have := (tokAt_bd h p).1
      have : ¬ 0 < tokAt m p := fun hh => h4 ⟨p, hp, hh⟩
      omega
    omega
  · rintro ⟨p, hp, h3⟩
    have : tok m S ≠ 0 := fun h4 => by have := h1.1 h4 p hp; omega
    omega
theorem run_trap {y : Yd} (hv : VYd y) {S : List Int} (hS : ∀ p ∈ S, 0 ≤ p ∧ p < y.places) (hs : srtB takeS giveS y S = true) : ∀ (l m : List Int) (i : Nat), VM y m → (∀ x ∈ l, 0 ≤ x ∧ x < y.steps.length) → (runFrom y m l i).2.2 = 0 → 0 < tok m S → 0 < tok (runFrom y m l i).1 S
  | [], m, i, hm, _, _, hz => hz
  | s :: l, m, i, hm, hl, h, hz => by
    obtain ⟨s0, s1⟩ := hl s (by simp)
    simp only [runFrom] at h ⊢
    split at h
    · rename_i h1; exact absurd h h1
    · rename_i h1
      rw [if_neg h1]
      obtain ⟨a1, a2, a3⟩ := step_at hv hm s0 s1 (by simpa using h1)
      refine run_trap hv hS hs l _ (i + 1) a1 (fun x hx => hl x (by simp [hx])) h ?_
      rw [tok_pos (vm_bd hm)] at hz
      rw [tok_pos (vm_bd a1)]
      obtain ⟨p, hp, hz⟩ := hz
      obtain ⟨q1, q2, q3, q4, q5⟩ := a3 p (hS p hp).1 (hS p hp).2
      by_cases hm' : meets (takeS (stepAt y s)) S = true
      · obtain ⟨q, hq, hq'⟩ := meets_iff.1 (srt_at hs a2 hm')
        obtain ⟨r1, r2, r3, r4, r5⟩ := a3 q (hS q hq).1 (hS q hq).2
        simp only [giveS] at hq'
        exact ⟨q, hq, by omega⟩
      · have : ¬ 0 < sg (stepAt y s).take p.toNat := fun h => hm' (meets_iff.2 ⟨p, hp, h⟩)
        exact ⟨p, hp, by omega⟩
theorem stays_ok {y : Yd} {m l g : List Int} (h : (runR y m l).2.2 = 0) :
    (∀ x ∈ m, 0 ≤ x ∧ x ≤ 50) ∧ (∀ x ∈ (runR y m l).1, 0 ≤ x ∧ x ≤ 50) ∧ (siphR y g).1.length ≤ 6 ∧ (trapR y g).1.length ≤ 6 ∧
    ((siphR y g).2 = 0 → tok m (siphR y g).1 = 0 → tok (runR y m l).1 (siphR y g).1 = 0) ∧
    ((trapR y g).2 = 0 → tok m (trapR y g).1 ≠ 0 → 0 < tok (runR y m l).1 (trapR y g).1) := by
  obtain ⟨hv, hm, h40, hl, _, _, e⟩ := runR_ok h
  have e' : (runFrom y m l 0).2.2 = 0 := by rw [← e]; exact h
  have hvm := (runFrom_vm hv l m 0 hm hl).1 e'
  have hr : ∀ {tc nd : Stp → List Int}, placedE y g = 0 → (great tc nd y g).length ≤ 6 ∧ ∀ p ∈ great tc nd y g, 0 ≤ p ∧ p < y.places := fun {tc nd} hp => by
    obtain ⟨_, ho⟩ := placed_ok hp
    obtain ⟨v1, v2, v3, v4⟩ := validate_ok hv
    have := okSet_len (by omega) ho
    have hsub := (great_good (tc := tc) (nd := nd) (y := y) g).2
    have := hsub.length_le
    exact ⟨by omega, fun p hp => okSet_in ho p (hsub.subset hp)⟩
  rw [e]
  refine ⟨vm_bd hm, vm_bd hvm, ?_, ?_, ?_, ?_⟩
  · unfold siphR
    split
    · simp
    · rename_i hp; exact (hr (by simpa using hp)).1
  · unfold trapR
    split
    · simp
    · rename_i hp; exact (hr (by simpa using hp)).1
  · unfold siphR
    split
    · rename_i hp; intro h1; exact absurd h1 hp
    · rename_i hp
      intro _ h2
      exact run_siph hv (hr (by simpa using hp)).2 (great_good g).1 l m 0 hm hl e' h2
  · unfold trapR
    split
    · rename_i hp; intro h1; exact absurd h1 hp
    · rename_i hp
      intro _ h2
      refine run_trap hv (hr (by simpa using hp)).2 (great_good g).1 l m 0 hm hl e' ?_
      have := (tok_bd (vm_bd hm) (great takeS giveS y g)).1
      simp only at h2
      omega
end Go.Ab.Try
