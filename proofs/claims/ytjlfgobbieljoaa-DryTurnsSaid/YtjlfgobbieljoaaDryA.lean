/- Dry15, Dry16, DryL2. -/
import Derived.Test.YtjlfgobbieljoaaDry14
import Derived.Test.YtjlfgobbieljoaaAb26
import Derived.Test.YtjlfgobbieljoaaDryL1
set_option linter.all false
set_option linter.all false
namespace Go.Ab.Try
open Go Go.Ab Go.Proofs
def sg (l : List Int) (i : Nat) : Int := l.getD i 0
theorem sg_get {l : List Int} {i : Nat} (h : i < l.length) : l[i]? = some (sg l i) := by simp [sg, h]
def okAt (pl : Int) (set : List Int) (j : Nat) : Bool := within (sg set j) 0 (pl - 1) && (decide (j = 0) || decide (sg set (j - 1) < sg set j))
def okSet (pl : Int) (set : List Int) : Bool := (List.range set.length).all (okAt pl set)
def placedE (y : Yd) (set : List Int) : Int := if validate y ≠ 0 then validate y else if okSet y.places set then 0 else 1
theorem okSet_no {pl : Int} {set : List Int} {i : Nat} (hi : i < set.length) (h : okAt pl set i = false) : okSet pl set = false := by
  unfold okSet
  rw [List.all_eq_false]
  exact ⟨i, List.mem_range.2 hi, by simp [h]⟩
theorem okSet_yes {pl : Int} {set : List Int} (h : ∀ j, j < set.length → okAt pl set j = true) : okSet pl set = true := by
  unfold okSet
  rw [List.all_eq_true]
  exact fun j hj => h j (List.mem_range.1 hj)
theorem okSet_in {pl : Int} {set : List Int} (h : okSet pl set = true) : ∀ x ∈ set, 0 ≤ x ∧ x < pl := by
  intro x hx
  obtain ⟨j, hj, rfl⟩ := List.getElem_of_mem hx
  have := List.all_eq_true.1 h j (List.mem_range.2 hj)
  simp [okAt, within, sg, hj] at this
  omega
theorem placed_ok {y : Yd} {set : List Int} (h : placedE y set = 0) : VYd y ∧ okSet y.places set = true := by
  unfold placedE at h
  split at h
  · rename_i h1; exact absurd h h1
  · rename_i h1
    split at h
    · rename_i h2; exact ⟨by simpa [VYd] using h1, h2⟩
    · cases h
theorem okAt_len {pl : Int} {set : List Int} {i : Nat} (hpl : 0 ≤ pl) (h : ∀ j, j < i → j < set.length → okAt pl set j = true) (hi : i ≤ set.length) : (i : Int) ≤ pl := by
  have key : ∀ j, j < i → (j : Int) ≤ sg set j := by
    intro j
    induction j with
    | zero =>
      intro hj
      have := h 0 hj (by omega)
      simp [okAt, within] at this
      omega
    | succ j ih =>
      intro hj
      have := h (j + 1) hj (by omega)
      have := ih (by omega)
      simp [okAt, within] at *
      omega
  rcases Nat.eq_zero_or_pos i with h0 | h0
  · omega
  · have h1 := key (i - 1) (by omega)
    have h2 := h (i - 1) (by omega) (by omega)
    simp [okAt, within] at h2
    omega
theorem okSet_len {pl : Int} {set : List Int} (hpl : 0 ≤ pl) (h : okSet pl set = true) : (set.length : Int) ≤ pl :=
  okAt_len hpl (fun j hj _ => List.all_eq_true.1 h j (List.mem_range.2 hj)) (Nat.le_refl _)
def meets (l set : List Int) : Bool := set.any fun p => decide (0 < sg l p.toNat)
def srtB (tc nd : Stp → List Int) (y : Yd) (set : List Int) : Bool := !(y.steps.any fun s => meets (tc s) set && !meets (nd s) set)
abbrev dSrt (nm : ByteArray) (ft fn : Nat) : DV := .agg [.str nm, .fn ft [] [], .fn fn [] []]
def nmS : ByteArray := { data := #[115, 105, 112, 104, 111, 110] }
def nmT : ByteArray := { data := #[116, 114, 97, 112] }
theorem scal_srt {nm : ByteArray} {ft fn : Nat} : Scalar (dSrt nm ft fn) := by
  refine .agg _ fun c hc => ?_
  simp only [List.mem_cons, List.not_mem_nil, or_false] at hc
  rcases hc with rfl | rfl | rfl
  · exact .str _
  · exact .fn _ _ _ (by simp) (by simp)
  · exact .fn _ _ _ (by simp) (by simp)
def InL (set : List Int) (l : List Int) : Prop := ∀ p ∈ set, 0 ≤ p ∧ p < l.length
theorem f79 (y : Yd) (set : List Int) : ACallsF Try.prog 79 [dYd y, ints set] (.one (.dv (i64 (placedE y set)))) := by
  refine callsF_of Try.func79 rfl rfl (by rw [Try.ntmps79]; simp) fun cx hP hn hg => ?_
  rw [Try.ntmps79] at hn
  rw [startF_lk, none_mkM]
  simp only [List.nil_append, List.append_nil, List.cons_append, zipSV, Nat.reduceAdd]
  refine awp_seq ?_
  refine rg ?_
  refine qp m_box ?_
  refine qv m_as ?_
  show AWp cx _ _ _
  refine awp_seq ?_
  refine awp_seq ?_
  refine rg ?_
  refine qv (m_ldpa sz24 ag24) ?_
  refine qqF (f28 y) ?_
  refine qv m_as ?_
  show AWp cx _ _ _
  refine awp_seq ?_
  refine rg ?_
  refine qv m_mv ?_
  refine qv m_neq ?_
  show AWp cx _ _ _
  refine cd (fun hc0 => ?_) (fun hc0 => ?_)
  · try simp at hc0
    refine awp_seq ?_
    refine rg ?_
    refine qv m_mv ?_
    refine qv m_as ?_
    show AWp cx _ _ _
    refine awp_ret ?_
    rw [show placedE y set = validate y by simp [placedE, hc0]]
    exact x1 (hr := (rI_))
  · try simp at hc0
    refine awp_skip ?_
    show AWp cx _ _ _
    refine awp_seq ?_
    refine awp_seq ?_
    refine rg ?_
    obtain ⟨v1, v2, v3, v4⟩ := validate_ok hc0
    refine qv m_mv ?_
    refine qv (m_len il25) ?_
    refine qv m_mv ?_
    show AWp cx _ _ _
    refine awp_block ?_
    refine awp_loop (ι := Nat) (fun i => ⟨lk [(1, .dv (ints (set))), (2, .pt 2 0 0), (13, .dv (ints (set))), (14, .dv (i64 ((set.length : Int)))), (15, .dv (i64 (i : Nat)))], mkM [(2, 0, some ⟨[.dv (i64 (y.places)), .dv (.list ((y.steps).map dStp))], 0, 24, 0, false⟩)]⟩) (fun i => i ≤ set.length ∧ ∀ j (hj : j < i) (h : j < set.length), okAt y.places set j = true) (fun i => set.length - i) 0 (by simp) (tl [(2, 2)]) ?_
    intro i hφ0
    refine awp_seq ?_
    refine rg ?_
    refine qv m_lss ?_
    show AWp cx _ _ _
    refine awp_seq ?_
    refine cd (fun hc1 => ?_) (fun hc1 => ?_)
    · try simp at hc1
      refine awp_skip ?_
      show AWp cx _ _ _
      refine awp_seq ?_
      refine awp_block ?_
      refine awp_seq ?_
      refine rg ?_
      have hin : i < set.length := by omega
      have hgi := sg_get hin
      have hib := okAt_len (by omega) hφ0.2 hφ0.1
      refine qv m_mv ?_
      first | refine qv (m_ixN el25 sz3) ?_ | refine qv (m_ix el25 sz3) ?_
      refine qv (m_ld sz3 ag3) ?_
      refine qv m_as ?_
      refine qv m_as ?_
      show AWp cx _ _ _
      refine awp_seq ?_
      refine rg ?_
      refine qv m_mv ?_
      refine qv (m_fdp fd24_0) ?_
      refine qv (m_ldp sz3 ag3) ?_
      refine qv m_sub ?_
      refine qqF (f70 (sg set i) 0 (y.places - 1)) ?_
      refine qv m_not ?_
      refine qx m_mv (fun hg26 => ?_) (fun hg26 => ?_)
      · try simp at hg26
        refine qk ?_
        refine qk ?_
        refine qk ?_
        refine qk ?_
        refine qk ?_
        refine qk ?_
        refine qk ?_
        refine qk ?_
        refine qk ?_
        refine qk ?_
        refine qk ?_
        refine qv m_pk ?_
        show AWp cx _ _ _
        refine cdT (hb := by first | rfl | simp | simp_all) (ht := ?_)
        refine awp_seq ?_
        refine rg ?_
        refine qv m_as ?_
        show AWp cx _ _ _
        refine awp_ret ?_
        have ea : okAt y.places set i = false := by
          simp_all [okAt]; try omega
        rw [show placedE y set = 1 by simp [placedE, hc0, okSet_no hin ea]]
        exact x1 (hr := (rI_))
      · try simp at hg26
        refine qv m_mv ?_
        refine qv m_gtr ?_
        refine qx m_mv (fun hg29 => ?_) (fun hg29 => ?_)
        · try simp at hg29
          refine qv m_mv ?_
          refine qv m_mv ?_
          refine qv m_sub ?_
          have hg1 : set[((i : Int) - 1).toNat]? = some (sg set (i - 1)) := by
            have : ((i : Int) - 1).toNat = i - 1 := by omega
            rw [this]; exact sg_get (by omega)
          first | refine qv (m_ixN el25 sz3) ?_ | refine qv (m_ix el25 sz3) ?_
          refine qv (m_ld sz3 ag3) ?_
          refine qv m_mv ?_
          refine qv m_geq ?_
          refine qv m_pk ?_
          refine qv m_pk ?_
          show AWp cx _ _ _
          refine cd (fun hc2 => ?_) (fun hc2 => ?_)
          · try simp at hc2
            refine awp_seq ?_
            refine rg ?_
            refine qv m_as ?_
            show AWp cx _ _ _
            refine awp_ret ?_
            have ea : okAt y.places set i = false := by
              simp_all [okAt]; try omega
            rw [show placedE y set = 1 by simp [placedE, hc0, okSet_no hin ea]]
            exact x1 (hr := (rI_))
          · try simp at hc2
            refine awp_skip ?_
            show AWp cx _ _ _
            refine rg ?_
            refine qv m_add ?_
            refine qv m_mv ?_
            refine ⟨i + 1, ?_, (by simp only; omega), (tl [(2, 2)])⟩
            refine ⟨hin, fun j hj h => ?_⟩
            rcases Nat.lt_or_ge j i with h1 | h1
            · exact hφ0.2 j h1 h
            · obtain rfl : j = i := by omega
              simp_all [okAt]; try omega
        · try simp at hg29
          refine qk ?_
          refine qk ?_
          refine qk ?_
          refine qk ?_
          refine qk ?_
          refine qk ?_
          refine qk ?_
          refine qv m_pk ?_
          refine qv m_pk ?_
          show AWp cx _ _ _
          refine cdF (hb := by first | rfl | simp | simp_all) (ht := ?_)
          refine awp_skip ?_
          show AWp cx _ _ _
          refine rg ?_
          refine qv m_add ?_
          refine qv m_mv ?_
          refine ⟨i + 1, ?_, (by simp only; omega), (tl [(2, 2)])⟩
          refine ⟨hin, fun j hj h => ?_⟩
          rcases Nat.lt_or_ge j i with h1 | h1
          · exact hφ0.2 j h1 h
          · obtain rfl : j = i := by omega
            simp_all [okAt]; try omega
    · try simp at hc1
      refine awp_exit ?_
      show AWp cx _ _ _
      refine awp_seq ?_
      refine rg ?_
      refine qv m_as ?_
      show AWp cx _ _ _
      refine awp_ret ?_
      have ea : okSet y.places set = true := okSet_yes fun j hj => hφ0.2 j (by omega) hj
      rw [show placedE y set = 0 by simp [placedE, hc0, ea]]
      exact x1 (hr := (rI_))
theorem f80 : ACallsF Try.prog 80 [] (.one (.dv (dSrt nmS 100 101))) := by
  refine callsF_of Try.func80 rfl rfl (by rw [Try.ntmps80]; simp) fun cx hP hn hg => ?_
  rw [Try.ntmps80] at hn
  rw [startF_lk, none_mkM]
  simp only [List.nil_append, List.append_nil, List.cons_append, zipSV, Nat.reduceAdd]
  refine awp_seq ?_
  refine rg ?_
  refine qp (m_al ze77) ?_
  show AWp cx _ _ _
  refine awp_seq ?_
  refine rg ?_
  refine qv (m_bld pl77 ze77) ?_
  refine qs (m_st sz77) ?_
  show AWp cx _ _ _
  refine awp_ret ?_
  exact end_cell (.inr rfl) (s1 := .dv (dSrt nmS 100 101)) (by simp only [loadSV, sz77, ag77, St.look, St.ev, lk, mkM, blkOf, svOf, svOfCell, reduceIte, Nat.reduceAdd, Nat.reduceEqDiff, Nat.reduceMul]; rfl) (.dv _ scal_srt)
theorem f82 : ACallsF Try.prog 82 [] (.one (.dv (dSrt nmT 104 105))) := by
  refine callsF_of Try.func82 rfl rfl (by rw [Try.ntmps82]; simp) fun cx hP hn hg => ?_
  rw [Try.ntmps82] at hn
  rw [startF_lk, none_mkM]
  simp only [List.nil_append, List.append_nil, List.cons_append, zipSV, Nat.reduceAdd]
  refine awp_seq ?_
  refine rg ?_
  refine qp (m_al ze77) ?_
  show AWp cx _ _ _
  refine awp_seq ?_
  refine rg ?_
  refine qv (m_bld pl77 ze77) ?_
  refine qs (m_st sz77) ?_
  show AWp cx _ _ _
  refine awp_ret ?_
  exact end_cell (.inr rfl) (s1 := .dv (dSrt nmT 104 105)) (by simp only [loadSV, sz77, ag77, St.look, St.ev, lk, mkM, blkOf, svOf, svOfCell, reduceIte, Nat.reduceAdd, Nat.reduceEqDiff, Nat.reduceMul]; rfl) (.dv _ scal_srt)
theorem f100 (s : Stp) : ACalls Try.prog 100 ([] ++ [dStp s] ++ []) (.one (.dv (ints s.give))) := by
  refine callsA_of Try.func100 rfl rfl (by rw [Try.ntmps100]; simp) fun cx hP hn hg => ?_
  rw [Try.ntmps100] at hn
  rw [startF_lk, none_mkM]
  simp only [List.nil_append, List.append_nil, List.cons_append, zipSV, Nat.reduceAdd]
  refine awp_seq ?_
  refine rg ?_
  refine qp m_box ?_
  refine qv m_as ?_
  show AWp cx _ _ _
  refine awp_seq ?_
  refine rg ?_
  refine qv (m_fdp fd55_1) ?_
  refine qv (m_ldp sz25 ag25) ?_
  refine qv m_as ?_
  show AWp cx _ _ _
  refine awp_ret ?_
  exact x1 (hr := (rD_))
theorem f101 (s : Stp) : ACalls Try.prog 101 ([] ++ [dStp s] ++ []) (.one (.dv (ints s.take))) := by
  refine callsA_of Try.func101 rfl rfl (by rw [Try.ntmps101]; simp) fun cx hP hn hg => ?_
  rw [Try.ntmps101] at hn
  rw [startF_lk, none_mkM]
  simp only [List.nil_append, List.append_nil, List.cons_append, zipSV, Nat.reduceAdd]
  refine awp_seq ?_
  refine rg ?_
  refine qp m_box ?_
  refine qv m_as ?_
  show AWp cx _ _ _
  refine awp_seq ?_
  refine rg ?_
  refine qv (m_fdp fd55_0) ?_
  refine qv (m_ldp sz25 ag25) ?_
  refine qv m_as ?_
  show AWp cx _ _ _
  refine awp_ret ?_
  exact x1 (hr := (rD_))
theorem f104 (s : Stp) : ACalls Try.prog 104 ([] ++ [dStp s] ++ []) (.one (.dv (ints s.take))) := by
  refine callsA_of Try.func104 rfl rfl (by rw [Try.ntmps104]; simp) fun cx hP hn hg => ?_
  rw [Try.ntmps104] at hn
  rw [startF_lk, none_mkM]
  simp only [List.nil_append, List.append_nil, List.cons_append, zipSV, Nat.reduceAdd]
  refine awp_seq ?_
  refine rg ?_
  refine qp m_box ?_
  refine qv m_as ?_
  show AWp cx _ _ _
  refine awp_seq ?_
  refine rg ?_
  refine qv (m_fdp fd55_0) ?_
  refine qv (m_ldp sz25 ag25) ?_
  refine qv m_as ?_
  show AWp cx _ _ _
  refine awp_ret ?_
  exact x1 (hr := (rD_))
theorem f105 (s : Stp) : ACalls Try.prog 105 ([] ++ [dStp s] ++ []) (.one (.dv (ints s.give))) := by
  refine callsA_of Try.func105 rfl rfl (by rw [Try.ntmps105]; simp) fun cx hP hn hg => ?_
  rw [Try.ntmps105] at hn
  rw [startF_lk, none_mkM]
  simp only [List.nil_append, List.append_nil, List.cons_append, zipSV, Nat.reduceAdd]
  refine awp_seq ?_
  refine rg ?_
  refine qp m_box ?_
  refine qv m_as ?_
  show AWp cx _ _ _
  refine awp_seq ?_
  refine rg ?_
  refine qv (m_fdp fd55_1) ?_
  refine qv (m_ldp sz25 ag25) ?_
  refine qv m_as ?_
  show AWp cx _ _ _
  refine awp_ret ?_
  exact x1 (hr := (rD_))
theorem f110 (l : List Int) (p : Int) (h0 : 0 ≤ p) (h1 : p < l.length) : ACallsF Try.prog 110 [i64 p, .cptr [ints l]] (.one (.dv (.bool (decide (0 < sg l p.toNat))))) := by
  have hg := sg_get (l := l) (i := p.toNat) (by omega)
  refine callsF_of Try.func110 rfl rfl (by rw [Try.ntmps110]; simp) fun cx hP hn hg => ?_
  rw [Try.ntmps110] at hn
  rw [startF_lk, none_mkM]
  simp only [List.nil_append, List.append_nil, List.cons_append, zipSV, Nat.reduceAdd]
  refine awp_seq ?_
  refine rg ?_
  refine qv m_as ?_
  show AWp cx _ _ _
  refine awp_seq ?_
  refine rg ?_
  first | refine qv (m_ld sz25 ag25) ?_ | refine qv (m_ldp sz25 ag25) ?_
  refine qv m_mv ?_
  first | refine qv (m_ixN el25 sz3) ?_ | refine qv (m_ix el25 sz3) ?_ | refine qv (m_ixR el25 sz3) ?_
  first | refine qv (m_ld sz3 ag3) ?_ | refine qv (m_ldp sz3 ag3) ?_
  refine qv m_gtr ?_
  refine qv m_as ?_
  show AWp cx _ _ _
  refine awp_ret ?_
  exact x1 (hr := (rB_))
theorem f103 (l set : List Int) (hs : InL set l) (hl : set.length < 1000000) : ACallsF Try.prog 103 [ints l, ints set] (.one (.dv (.bool (meets l set)))) := by
  refine callsF_of Try.func103 rfl rfl (by rw [Try.ntmps103]; simp) fun cx hP hn hg => ?_
  rw [Try.ntmps103] at hn
  rw [startF_lk, none_mkM]
  simp only [List.nil_append, List.append_nil, List.cons_append, zipSV, Nat.reduceAdd]
  refine awp_seq ?_
  refine rg ?_
  refine qp m_box ?_
  refine qv m_as ?_
  show AWp cx _ _ _
  refine awp_seq ?_
  refine rg ?_
  refine qv m_mv ?_
  refine qfn ?_
  refine qqF (f84 set 110 [] [.cptr [ints l]] (fun p => decide (0 < sg l p.toNat)) (fun p hp => f110 l p (hs p hp).1 (hs p hp).2) hl) ?_
  refine qv m_as ?_
  show AWp cx _ _ _
  refine awp_ret ?_
  exact x1 (hr := (rB_ (by simp [meets])))
theorem f102 (nm : ByteArray) (ft fn : Nat) (tc nd : Stp → List Int) (s : Stp) (set : List Int) (ht : ACalls Try.prog ft ([] ++ [dStp s] ++ []) (.one (.dv (ints (tc s))))) (hnd : ACalls Try.prog fn ([] ++ [dStp s] ++ []) (.one (.dv (ints (nd s))))) (h1 : InL set (tc s)) (h2 : InL set (nd s)) (hl : set.length < 1000000) :
    ACallsF Try.prog 102 [dStp s, .cptr [.str nm, .fn ft [] [], .fn fn [] []], .cptr [ints set]] (.one (.dv (.bool (meets (tc s) set && !meets (nd s) set)))) := by
  refine callsF_of Try.func102 rfl rfl (by rw [Try.ntmps102]; simp) fun cx hP hn hg => ?_
  rw [Try.ntmps102] at hn
  rw [startF_lk, none_mkM]
  simp only [List.nil_append, List.append_nil, List.cons_append, zipSV, Nat.reduceAdd]
  refine awp_seq ?_
  refine rg ?_
  refine qp m_box ?_
  refine qv m_as ?_
  show AWp cx _ _ _
  refine awp_seq ?_
  refine rd mixed ?_
  refine zv (m_fd fd77_1) ?_
  refine zv (m_ld sz75 ag75) ?_
  refine zv (m_ldpa sz55 ag55) ?_
  refine zqVA (R := []) (ht) ?_
  refine zv (m_ld sz25 ag25) ?_
  refine zqF (R := []) (f103 (tc s) set h1 hl) ?_
  refine zx m_mv (fun hg11 => ?_) (fun hg11 => ?_)
  · try simp at hg11
    refine zv (m_fd fd77_2) ?_
    refine zv (m_ld sz75 ag75) ?_
    refine zv (m_ldpa sz55 ag55) ?_
    refine zqVA (R := []) (hnd) ?_
    refine zv (m_ld sz25 ag25) ?_
    refine zqF (R := []) (f103 (nd s) set h2 hl) ?_
    refine zv m_not ?_
    refine zv m_pk ?_
    refine zv m_as ?_
    refine ⟨by rfl, ?_⟩
    show AWp cx _ _ _
    refine awp_ret ?_
    exact x1 (hr := (rB_ (by simp_all)))
  · try simp at hg11
    refine zk ?_
    refine zk ?_
    refine zk ?_
    refine zk ?_
    refine zk ?_
    refine zk ?_
    refine zk ?_
    refine zv m_pk ?_
    refine zv m_as ?_
    refine ⟨by rfl, ?_⟩
    show AWp cx _ _ _
    refine awp_ret ?_
    exact x1 (hr := (rB_ (by simp_all)))
theorem f81 (nm : ByteArray) (ft fn : Nat) (tc nd : Stp → List Int) (y : Yd) (set : List Int) (ht : ∀ s ∈ y.steps, ACalls Try.prog ft ([] ++ [dStp s] ++ []) (.one (.dv (ints (tc s))))) (hnd : ∀ s ∈ y.steps, ACalls Try.prog fn ([] ++ [dStp s] ++ []) (.one (.dv (ints (nd s)))))
    (h1 : ∀ s ∈ y.steps, InL set (tc s)) (h2 : ∀ s ∈ y.steps, InL set (nd s)) (hl : set.length < 1000000) (hy : y.steps.length < 1000000) : ACallsF Try.prog 81 [dSrt nm ft fn, dYd y, ints set] (.one (.dv (.bool (srtB tc nd y set)))) := by
  refine callsF_of Try.func81 rfl rfl (by rw [Try.ntmps81]; simp) fun cx hP hn hg => ?_
  rw [Try.ntmps81] at hn
  rw [startF_lk, none_mkM]
  simp only [List.nil_append, List.append_nil, List.cons_append, zipSV, Nat.reduceAdd]
  refine awp_seq ?_
  refine rg ?_
  refine qp m_box ?_
  refine qp m_box ?_
  refine qp m_box ?_
  refine qv m_as ?_
  show AWp cx _ _ _
  refine awp_seq ?_
  refine rg ?_
  refine qv (m_fdp fd24_1) ?_
  refine qv (m_ldp sz22 ag22) ?_
  refine qfn ?_
  refine qqF (f63 y.steps 102 [] [.cptr [.str nm, .fn ft [] [], .fn fn [] []], .cptr [ints set]] (fun s => meets (tc s) set && !meets (nd s) set) (fun s hs => f102 nm ft fn tc nd s set (ht s hs) (hnd s hs) (h1 s hs) (h2 s hs) hl) hy) ?_
  refine qv m_not ?_
  refine qv m_as ?_
  show AWp cx _ _ _
  refine awp_ret ?_
  exact x1 (hr := (rD_))
theorem valid_in {y : Yd} (h : VYd y) {set : List Int} (hs : ∀ x ∈ set, 0 ≤ x ∧ x < y.places) : (∀ s ∈ y.steps, InL set s.take) ∧ (∀ s ∈ y.steps, InL set s.give) := by
  obtain ⟨v1, v2, v3, v4⟩ := validate_ok h
  refine ⟨fun s hss p hp => ?_, fun s hss p hp => ?_⟩ <;>
  · have h4 := v4 s hss
    simp only [okStp, Bool.and_eq_true] at h4
    have := allIn_len h4.1
    have := allIn_len h4.2
    have := hs p hp
    omega
abbrev giveS (s : Stp) : List Int := s.give
abbrev takeS (s : Stp) : List Int := s.take
def isSiphR (y : Yd) (set : List Int) : Bool × Int := (decide (placedE y set = 0) && srtB giveS takeS y set, placedE y set)
def isTrapR (y : Yd) (set : List Int) : Bool × Int := (decide (placedE y set = 0) && srtB takeS giveS y set, placedE y set)
theorem f42 (y : Yd) (set : List Int) : ACallsF Try.prog 42 [dYd y, ints set] (.many [.dv (.bool (isSiphR y set).1), .dv (i64 (isSiphR y set).2)]) := by
  refine callsF_of Try.func42 rfl rfl (by rw [Try.ntmps42]; simp) fun cx hP hn hg => ?_
  rw [Try.ntmps42] at hn
  rw [startF_lk, none_mkM]
  simp only [List.nil_append, List.append_nil, List.cons_append, zipSV, Nat.reduceAdd]
  refine awp_seq ?_
  refine rg ?_
  refine qp m_box ?_
  refine qv m_as ?_
  refine qv m_as ?_
  show AWp cx _ _ _
  refine awp_seq ?_
  refine rg ?_
  refine qv (m_ldpa sz24 ag24) ?_
  refine qv m_mv ?_
  refine qqF (f79 y set) ?_
  refine qv m_as ?_
  show AWp cx _ _ _
  refine awp_seq ?_
  refine rd mixed ?_
  refine zv m_mv ?_
  refine zv m_eql ?_
  refine zx m_mv (fun hg12 => ?_) (fun hg12 => ?_)
  · try simp at hg12
    obtain ⟨hv, hok⟩ := placed_ok hg12
    obtain ⟨v1, v2, v3, v4⟩ := validate_ok hv
    have hin := okSet_in hok
    have hsl := okSet_len (by omega) hok
    obtain ⟨i1, i2⟩ := valid_in hv hin
    refine zqF (R := []) (f80) ?_
    refine zv (m_ldpa sz24 ag24) ?_
    refine zv m_mv ?_
    refine zqF (R := []) (f81 nmS 100 101 giveS takeS y set (fun s _ => f100 s) (fun s _ => f101 s) i2 i1 (by omega) (by omega)) ?_
    refine zv m_pk ?_
    refine zv m_mv ?_
    refine zv m_as ?_
    refine zv m_as ?_
    refine ⟨by rfl, ?_⟩
    show AWp cx _ _ _
    refine awp_ret ?_
    exact x2 (hr := (rB_ (by simp [isSiphR, hg12]))) (hr' := (rI_ (by simp [isSiphR])))
  · try simp at hg12
    refine zk ?_
    refine zk ?_
    refine zk ?_
    refine zk ?_
    refine zv m_pk ?_
    refine zv m_mv ?_
    refine zv m_as ?_
    refine zv m_as ?_
    refine ⟨by rfl, ?_⟩
    show AWp cx _ _ _
    refine awp_ret ?_
    exact x2 (hr := (rB_ (by simp [isSiphR, hg12]))) (hr' := (rI_ (by simp [isSiphR])))
theorem f43 (y : Yd) (set : List Int) : ACallsF Try.prog 43 [dYd y, ints set] (.many [.dv (.bool (isTrapR y set).1), .dv (i64 (isTrapR y set).2)]) := by
  refine callsF_of Try.func43 rfl rfl (by rw [Try.ntmps43]; simp) fun cx hP hn hg => ?_
  rw [Try.ntmps43] at hn
  rw [startF_lk, none_mkM]
  simp only [List.nil_append, List.append_nil, List.cons_append, zipSV, Nat.reduceAdd]
  refine awp_seq ?_
  refine rg ?_
  refine qp m_box ?_
  refine qv m_as ?_
  refine qv m_as ?_
  show AWp cx _ _ _
  refine awp_seq ?_
  refine rg ?_
  refine qv (m_ldpa sz24 ag24) ?_
  refine qv m_mv ?_
  refine qqF (f79 y set) ?_
  refine qv m_as ?_
  show AWp cx _ _ _
  refine awp_seq ?_
  refine rd mixed ?_
  refine zv m_mv ?_
  refine zv m_eql ?_
  refine zx m_mv (fun hg12 => ?_) (fun hg12 => ?_)
  · try simp at hg12
    obtain ⟨hv, hok⟩ := placed_ok hg12
    obtain ⟨v1, v2, v3, v4⟩ := validate_ok hv
    have hin := okSet_in hok
    have hsl := okSet_len (by omega) hok
    obtain ⟨i1, i2⟩ := valid_in hv hin
    refine zqF (R := []) (f82) ?_
    refine zv (m_ldpa sz24 ag24) ?_
    refine zv m_mv ?_
    refine zqF (R := []) (f81 nmT 104 105 takeS giveS y set (fun s _ => f104 s) (fun s _ => f105 s) i1 i2 (by omega) (by omega)) ?_
    refine zv m_pk ?_
    refine zv m_mv ?_
    refine zv m_as ?_
    refine zv m_as ?_
    refine ⟨by rfl, ?_⟩
    show AWp cx _ _ _
    refine awp_ret ?_
    exact x2 (hr := (rB_ (by simp [isTrapR, hg12]))) (hr' := (rI_ (by simp [isTrapR])))
  · try simp at hg12
    refine zk ?_
    refine zk ?_
    refine zk ?_
    refine zk ?_
    refine zv m_pk ?_
    refine zv m_mv ?_
    refine zv m_as ?_
    refine zv m_as ?_
    refine ⟨by rfl, ?_⟩
    show AWp cx _ _ _
    refine awp_ret ?_
    exact x2 (hr := (rB_ (by simp [isTrapR, hg12]))) (hr' := (rI_ (by simp [isTrapR])))
end Go.Ab.Try
set_option linter.all false
namespace Go.Ab.Try
open Go Go.Ab Go.Proofs
theorem awp_frz {cx : Cx} {c : Code} {K : Exit → St → Prop} {l : List (Nat × SV)} {m : List (Nat × Nat × Option Blk)} (t : Nat) {g : Nat} {b : Blk} (k : AWp cx c K ⟨lk l, mkM ((t, g, some { b with st := 1 }) :: m)⟩) (h0 : mkM m t = (g, some b) := by (simp only [mkM, reduceIte, Nat.reduceEqDiff] <;> rfl)) (h1 : OwS b.st ∨ b.st = 1 := by (first | exact .inl (.inl rfl) | exact .inr rfl)) : AWp cx c K ⟨lk l, mkM m⟩ := by
  refine AWp.le (Le.freeze (S := ⟨lk l, mkM m⟩) h0 h1) ?_
  rw [upd_mkM]; exact k
theorem InL.sub {a b l : List Int} (h : InL a l) (hs : b.Sublist a) : InL b l := fun p hp => h p (hs.subset hp)
end Go.Ab.Try
set_option linter.all false
namespace Go.Ab.Try
open Go Go.Ab Go.Proofs
def tokAt (m : List Int) (p : Int) : Int := if 0 ≤ p ∧ p < m.length then sg m p.toNat else 0
theorem sg_bd {m : List Int} {lo hi : Int} (h : ∀ x ∈ m, lo ≤ x ∧ x ≤ hi) {p : Nat} (hp : p < m.length) : lo ≤ sg m p ∧ sg m p ≤ hi := h _ (List.mem_of_getElem? (sg_get hp))
theorem sg_moved {s : Stp} {m : List Int} {p : Nat} (h : p < m.length) : sg (moved s m) p = sg m p + (sg s.give p - sg s.take p) := by
  simp [moved, sg, h]
theorem step_at {y : Yd} {m : List Int} {s : Int} (hv : VYd y) (hm : VM y m) (h0 : 0 ≤ s) (h1 : s < y.steps.length) (ha : (afterR (stepAt y s) m).2 = 0) :
    VM y (afterR (stepAt y s) m).1 ∧ stepAt y s ∈ y.steps ∧ ∀ p : Int, 0 ≤ p → p < y.places → tokAt m p = sg m p.toNat ∧ tokAt (afterR (stepAt y s) m).1 p = sg m p.toNat + (sg (stepAt y s).give p.toNat - sg (stepAt y s).take p.toNat) ∧ sg (stepAt y s).take p.toNat ≤ sg m p.toNat ∧ 0 ≤ sg (stepAt y s).give p.toNat ∧ 0 ≤ sg (stepAt y s).take p.toNat := by
  obtain ⟨a1, a2, a3⟩ := after_vm hv hm h0 h1 ha
  obtain ⟨hf, he⟩ := fits_of hv hm h0 h1
  have hmem := List.mem_of_getElem? he
  refine ⟨a1, hmem, fun p p0 p1 => ?_⟩
  obtain ⟨v1, v2, v3, v4⟩ := validate_ok hv
  have hs := v4 _ hmem
  simp only [okStp, Bool.and_eq_true] at hs
  have e1 := allIn_len hm
  have e2 := allIn_len hs.1
  have e3 := allIn_len hs.2
  have hp : p.toNat < m.length := by omega
  have ht : p.toNat < (stepAt y s).take.length := by omega
  have hg : p.toNat < (stepAt y s).give.length := by omega
  have c1 := covers_at a3 hp ht
  have b1 := sg_bd (fun x hx => allIn_mem hs.1 x hx) ht
  have b2 := sg_bd (fun x hx => allIn_mem hs.2 x hx) hg
  refine ⟨by unfold tokAt; rw [if_pos (by omega)], ?_, ?_, b2.1, b1.1⟩
  · rw [a2]; unfold tokAt; rw [if_pos (by rw [moved_len]; omega), sg_moved hp]
  · simpa [sg, hp, ht] using c1
end Go.Ab.Try
