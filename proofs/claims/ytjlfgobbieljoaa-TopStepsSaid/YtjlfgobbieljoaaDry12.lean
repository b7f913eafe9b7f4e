/- The functions of the dry laws, part 12. The walks are written by wip/gen/gw.py. -/
import Derived.Test.YtjlfgobbieljoaaDry11
import Derived.Test.YtjlfgobbieljoaaAb26
set_option linter.all false
namespace Go.Ab.Try
open Go Go.Ab Go.Proofs
def wAt (w : List Int) (s : Stp) : Nat → Int
  | 0 => 0
  | p + 1 => wAt w s p + w.getD p 0 * dAt s p
def sAt (w m : List Int) : Nat → Int
  | 0 => 0
  | p + 1 => sAt w m p + w.getD p 0 * m.getD p 0
def invR (y : Yd) (w : List Int) : Bool × Int := if validate y ≠ 0 then (false, validate y) else if allIn w y.places (-20) 20 then (y.steps.all fun s => wAt w s y.places.toNat == 0, 0) else (false, 1)
def weighR (y : Yd) (w m : List Int) : Int × Int := if filledE y [m] ≠ 0 then (0, filledE y [m]) else if allIn w y.places (-20) 20 then (sAt w m y.places.toNat, 0) else (0, 1)
theorem wAt_bd {y : Yd} (h : validate y = 0) {w : List Int} (hw : ∀ x ∈ w, -20 ≤ x ∧ x ≤ 20) (i : Nat) : ∀ p : Nat, -(60 * (p : Int)) ≤ wAt w (y.steps.getD i ⟨[], []⟩) p ∧ wAt w (y.steps.getD i ⟨[], []⟩) p ≤ 60 * p
  | 0 => by simp [wAt]
  | p + 1 => by
    have ih := wAt_bd h hw i p
    have hd := dAt_bd h i p
    have hx : -20 ≤ w.getD p 0 ∧ w.getD p 0 ≤ 20 := by
      by_cases hi : p < w.length
      · have := hw _ (List.getElem_mem hi)
        simp [hi]; omega
      · simp [hi]
    have hm := mul_bd hx.1 hx.2 hd.1 hd.2
    simp only [wAt]
    omega
theorem sAt_bd {w m : List Int} (hw : ∀ x ∈ w, -20 ≤ x ∧ x ≤ 20) (hm : ∀ x ∈ m, 0 ≤ x ∧ x ≤ 50) : ∀ p : Nat, -(1000 * (p : Int)) ≤ sAt w m p ∧ sAt w m p ≤ 1000 * p
  | 0 => by simp [sAt]
  | p + 1 => by
    have ih := sAt_bd hw hm p
    have hx : -20 ≤ w.getD p 0 ∧ w.getD p 0 ≤ 20 := by
      by_cases hi : p < w.length
      · have := hw _ (List.getElem_mem hi)
        simp [hi]; omega
      · simp [hi]
    have hy : -50 ≤ m.getD p 0 ∧ m.getD p 0 ≤ 50 := by
      by_cases hi : p < m.length
      · have := hm _ (List.getElem_mem hi)
        simp [hi]; omega
      · simp [hi]
    have hm := mul_bd hx.1 hx.2 hy.1 hy.2
    simp only [sAt]
    omega
theorem f75 (y : Yd) (w : List Int) (hp : y.places < 1000000) : ACallsF Try.prog 75 [dYd y, ints w] (.one (.dv (i64 (if allIn w y.places (-20) 20 then 0 else 1)))) := by
  refine callsF_of Try.func75 rfl rfl (by rw [Try.ntmps75]; simp) fun cx hP hn hg => ?_
  rw [Try.ntmps75] at hn
  rw [startF_lk, none_mkM]
  simp only [zipSV, Nat.reduceAdd]
  refine awp_seq ?_
  refine rg ?_
  refine qp m_box ?_
  refine qv m_as ?_
  show AWp cx _ _ _
  refine awp_seq ?_
  refine awp_seq ?_
  refine rg ?_
  refine qv m_mv ?_
  refine qv (m_fdp fd24_0) ?_
  refine qv (m_ldp sz3 ag3) ?_
  refine qqF (f71 w y.places (-20) 20 hp) ?_
  refine qv m_not ?_
  show AWp cx _ _ _
  refine cd (fun hc0 => ?_) (fun hc0 => ?_)
  · try simp at hc0
    refine awp_seq ?_
    refine rg ?_
    refine qv m_as ?_
    show AWp cx _ _ _
    refine awp_ret ?_
    exact x1 (hr := (rI_ (by simp [hc0])))
  · try simp at hc0
    refine awp_skip ?_
    show AWp cx _ _ _
    refine awp_seq ?_
    refine rg ?_
    refine qv m_as ?_
    show AWp cx _ _ _
    refine awp_ret ?_
    exact x1 (hr := (rI_ (by simp [hc0])))
theorem f34 (y : Yd) (w : List Int) : ACallsF Try.prog 34 [dYd y, ints w] (.many [.dv (.bool (invR y w).1), .dv (i64 (invR y w).2)]) := by
  refine callsF_of Try.func34 rfl rfl (by rw [Try.ntmps34]; simp) fun cx hP hn hg => ?_
  rw [Try.ntmps34] at hn
  rw [startF_lk, none_mkM]
  simp only [zipSV, Nat.reduceAdd]
  refine awp_seq ?_
  refine rg ?_
  refine qp m_box ?_
  refine qv m_as ?_
  refine qv m_as ?_
  show AWp cx _ _ _
  refine awp_seq ?_
  refine awp_seq ?_
  refine rg ?_
  refine qv (m_ldpa sz24 ag24) ?_
  refine qqF (f28 y) ?_
  refine qv m_as ?_
  show AWp cx _ _ _
  refine awp_seq ?_
  refine rg ?_
  refine qv m_mv ?_
  refine qv m_neq ?_
  show AWp cx _ _ _
  refine cd (fun hc0 => ?_) (fun hc0 => ?_)
  · try simp at hc0
    refine awp_seq ?_
    refine rg ?_
    refine qv m_mv ?_
    refine qv m_as ?_
    refine qv m_as ?_
    show AWp cx _ _ _
    refine awp_ret ?_
    rw [show invR y w = (false, validate y) by simp [invR, hc0]]
    exact x2 (hr := (rB_)) (hr' := (rI_))
  · try simp at hc0
    refine awp_skip ?_
    show AWp cx _ _ _
    refine awp_seq ?_
    refine awp_seq ?_
    refine rg ?_
    have hv : validate y = 0 := hc0
    obtain ⟨v1, v2, v3, v4⟩ := validate_ok hv
    refine qv (m_ldpa sz24 ag24) ?_
    refine qv m_mv ?_
    refine qqF (f75 y w (by omega)) ?_
    refine qv m_as ?_
    show AWp cx _ _ _
    refine awp_seq ?_
    refine rg ?_
    refine qv m_mv ?_
    refine qv m_neq ?_
    show AWp cx _ _ _
    refine cd (fun hc1 => ?_) (fun hc1 => ?_)
    · try simp at hc1
      refine awp_seq ?_
      refine rg ?_
      refine qv m_mv ?_
      refine qv m_as ?_
      refine qv m_as ?_
      show AWp cx _ _ _
      refine awp_ret ?_
      have hal : allIn w y.places (-20) 20 = false := by simpa using hc1
      rw [show invR y w = (false, 1) by simp [invR, hv, hal]]
      exact x2 (hr := (rB_)) (hr' := (rI_ (by simp [hal])))
    · try simp at hc1
      refine awp_skip ?_
      show AWp cx _ _ _
      refine awp_seq ?_
      refine awp_seq ?_
      refine rg ?_
      have hal : allIn w y.places (-20) 20 = true := by simpa using hc1
      have hwb := allIn_mem hal
      have hwl := allIn_len hal
      refine qv (m_fdp fd24_1) ?_
      refine qv (m_ldp sz22 ag22) ?_
      refine qv (m_len il22) ?_
      refine qv m_mv ?_
      show AWp cx _ _ _
      refine awp_block ?_
      refine awp_loop (ι := Nat) (fun i => ⟨lk [(1, .dv (ints (w))), (25, .dv (.list ((y.steps).map dStp))), (26, .dv (i64 ((y.steps.length : Int)))), (27, .dv (i64 (i : Nat)))], mkM []⟩) (fun i => i ≤ y.steps.length ∧ ∀ j (hj : j < i) (h : j < y.steps.length), (wAt w y.steps[j] y.places.toNat == 0) = true) (fun i => y.steps.length - i) 0 (by simp) (tl []) ?_
      intro i hφ0
      refine awp_seq ?_
      refine rg ?_
      refine qv m_lss ?_
      show AWp cx _ _ _
      refine awp_seq ?_
      refine cd (fun hc2 => ?_) (fun hc2 => ?_)
      · try simp at hc2
        refine awp_skip ?_
        show AWp cx _ _ _
        refine awp_seq ?_
        refine awp_block ?_
        refine awp_seq ?_
        refine rg ?_
        have hin : i < y.steps.length := by omega
        first | refine qv (m_ixN el22 sz55) ?_ | refine qv (m_ix el22 sz55) ?_
        refine qv (m_lda sz55 ag55) ?_
        refine qp (m_al ze55) ?_
        refine qs (m_st sz55) ?_
        show AWp cx _ _ _
        refine awp_seq ?_
        refine rg ?_
        refine qv m_as ?_
        show AWp cx _ _ _
        refine awp_seq ?_
        refine awp_seq ?_
        refine rg ?_
        refine qv m_mv ?_
        refine qv (m_len il25) ?_
        refine qv m_mv ?_
        show AWp cx _ _ _
        refine awp_block ?_
        refine awp_loop (ι := Nat) (fun p => ⟨lk [(1, .dv (ints (w))), (9, .pt 9 0 0), (10, .dv (i64 (wAt w y.steps[i] p))), (25, .dv (.list ((y.steps).map dStp))), (26, .dv (i64 ((y.steps.length : Int)))), (27, .dv (i64 (i : Nat))), (31, .dv (ints (w))), (32, .dv (i64 ((w.length : Int)))), (33, .dv (i64 (p : Nat)))], mkM [(9, 0, some ⟨[.dv (ints ((y.steps[i]).take)), .dv (ints ((y.steps[i]).give))], 0, 55, 0, false⟩)]⟩) (fun p => p ≤ y.places.toNat) (fun p => y.places.toNat - p) 0 (by simp) (tl [(9, 9)] (hF := by simp [FLe, svLe, lk, mkM, isLive, tauL, wAt]) (hM := by simp [MLe, blkLe, svLe, svLes, lk, mkM, isLive, tauL, svLes_ints, svLes_self, isDvs, isDvs_map, isDvs_app, isDvs_take, isDvs_set, isDvs_repl, wAt])) ?_
        intro p hφ1
        refine awp_seq ?_
        refine rg ?_
        refine qv m_lss ?_
        show AWp cx _ _ _
        refine awp_seq ?_
        refine cd (fun hc3 => ?_) (fun hc3 => ?_)
        · try simp at hc3
          refine awp_skip ?_
          show AWp cx _ _ _
          refine awp_seq ?_
          refine awp_block ?_
          refine awp_seq ?_
          refine rg ?_
          have hpn : p < y.places.toNat := by omega
          obtain ⟨hq1, hq2, b1, b2, b3, b4⟩ := valid_bd hv hin hpn
          have hwi : p < w.length := by omega
          have c1 := hwb _ (List.getElem_mem hwi)
          have hm := mul_bd (A := 20) (B := 3) (a := w[p]) (b := y.steps[i].give[p] - y.steps[i].take[p]) (by omega) (by omega) (by omega) (by omega)
          have he := wAt_bd hv hwb i p
          have hst : y.steps.getD i ⟨[], []⟩ = y.steps[i] := by simp [hin]
          rw [hst] at he
          have hset : wAt w y.steps[i] p + w[p] * (y.steps[i].give[p] - y.steps[i].take[p]) = wAt w y.steps[i] (p + 1) := by
            have hd := dAt_eq hin hq1 hq2
            rw [hst] at hd
            have hcd : w.getD p 0 = w[p] := by simp [hwi]
            simp only [wAt]
            rw [hd, hcd]
          refine qv m_mv ?_
          first | refine qv (m_ixN el25 sz3) ?_ | refine qv (m_ix el25 sz3) ?_
          refine qv (m_ld sz3 ag3) ?_
          refine qv m_as ?_
          refine qv m_as ?_
          show AWp cx _ _ _
          refine rd mixed ?_
          refine zv m_mv ?_
          refine zv m_mv ?_
          refine zv (m_fdp fd55_1) ?_
          refine zv (m_ldp sz25 ag25) ?_
          refine zv m_mv ?_
          first | refine zv (m_ixN el25 sz3) ?_ | refine zv (m_ix el25 sz3) ?_
          refine zv (m_ld sz3 ag3) ?_
          refine zv (m_fdp fd55_0) ?_
          refine zv (m_ldp sz25 ag25) ?_
          refine zv m_mv ?_
          first | refine zv (m_ixN el25 sz3) ?_ | refine zv (m_ix el25 sz3) ?_
          refine zv (m_ld sz3 ag3) ?_
          refine zv m_sub ?_
          refine zv m_mul ?_
          refine zv m_add ?_
          refine zv m_as ?_
          refine ⟨by rfl, ?_⟩
          show AWp cx _ _ _
          refine rg ?_
          refine qv m_add ?_
          refine qv m_mv ?_
          exact ⟨p + 1, hpn, (by simp only; omega), (tl [(9, 9)] (hF := by simp [FLe, svLe, lk, mkM, isLive, tauL, hset]) (hM := by simp [MLe, blkLe, svLe, svLes, lk, mkM, isLive, tauL, svLes_ints, svLes_self, isDvs, isDvs_map, isDvs_app, isDvs_take, isDvs_set, isDvs_repl, hset]))⟩
        · try simp at hc3
          refine awp_exit ?_
          show AWp cx _ _ _
          refine awp_seq ?_
          refine rg ?_
          refine qv m_mv ?_
          refine qv m_neq ?_
          show AWp cx _ _ _
          refine cd (fun hc4 => ?_) (fun hc4 => ?_)
          · try simp at hc4
            refine awp_seq ?_
            refine rg ?_
            refine qv m_as ?_
            refine qv m_as ?_
            show AWp cx _ _ _
            refine awp_ret ?_
            obtain rfl : p = y.places.toNat := by omega
            have ea : (y.steps.all fun s => wAt w s y.places.toNat == 0) = false := all_no hin (by simpa using hc4)
            rw [show invR y w = (false, 0) by simp only [invR]; rw [if_neg (by simp [hv]), if_pos hal, ea]]
            exact x2 (hr := (rB_)) (hr' := (rI_))
          · try simp at hc4
            refine awp_skip ?_
            show AWp cx _ _ _
            refine rg ?_
            refine qv m_add ?_
            refine qv m_mv ?_
            refine ⟨i + 1, ?_, (by simp only; omega), (tl [])⟩
            refine ⟨hin, fun j hj h => ?_⟩
            rcases Nat.lt_or_ge j i with h1 | h1
            · exact hφ0.2 j h1 h
            · obtain rfl : j = i := by omega
              obtain rfl : p = y.places.toNat := by omega
              simpa using hc4
      · try simp at hc2
        refine awp_exit ?_
        show AWp cx _ _ _
        refine awp_seq ?_
        refine rg ?_
        refine qv m_as ?_
        refine qv m_as ?_
        show AWp cx _ _ _
        refine awp_ret ?_
        have ea : (y.steps.all fun s => wAt w s y.places.toNat == 0) = true := all_yes fun j hj => hφ0.2 j (by omega) hj
        rw [show invR y w = (true, 0) by simp only [invR]; rw [if_neg (by simp [hv]), if_pos hal, ea]]
        exact x2 (hr := (rB_)) (hr' := (rI_))
theorem f35 (y : Yd) (w : List Int) : ACallsF Try.prog 35 [dYd y, ints w] (.many [.dv (.bool (invR y w).1), .dv (i64 (invR y w).2)]) := by
  refine callsF_of Try.func35 rfl rfl (by rw [Try.ntmps35]; simp) fun cx hP hn hg => ?_
  rw [Try.ntmps35] at hn
  rw [startF_lk, none_mkM]
  simp only [zipSV, Nat.reduceAdd]
  refine awp_seq ?_
  refine rg ?_
  refine qp m_box ?_
  refine qv m_as ?_
  refine qv m_as ?_
  show AWp cx _ _ _
  refine awp_seq ?_
  refine awp_seq ?_
  refine rg ?_
  refine qv (m_ldpa sz24 ag24) ?_
  refine qqF (f29 y) ?_
  refine qv m_as ?_
  show AWp cx _ _ _
  refine awp_seq ?_
  refine rg ?_
  refine qv m_mv ?_
  refine qv m_neq ?_
  show AWp cx _ _ _
  refine cd (fun hc0 => ?_) (fun hc0 => ?_)
  · try simp at hc0
    refine awp_seq ?_
    refine rg ?_
    refine qv m_mv ?_
    refine qv m_as ?_
    refine qv m_as ?_
    show AWp cx _ _ _
    refine awp_ret ?_
    rw [show invR y w = (false, validate y) by simp [invR, hc0]]
    exact x2 (hr := (rB_)) (hr' := (rI_))
  · try simp at hc0
    refine awp_skip ?_
    show AWp cx _ _ _
    refine awp_seq ?_
    refine awp_seq ?_
    refine rg ?_
    have hv : validate y = 0 := hc0
    obtain ⟨v1, v2, v3, v4⟩ := validate_ok hv
    refine qv m_mv ?_
    refine qv (m_fdp fd24_0) ?_
    refine qv (m_ldp sz3 ag3) ?_
    refine qqF (f73 w y.places (-20) 20 (by omega)) ?_
    refine qv m_not ?_
    show AWp cx _ _ _
    refine cd (fun hc1 => ?_) (fun hc1 => ?_)
    · try simp at hc1
      refine awp_seq ?_
      refine rg ?_
      refine qv m_as ?_
      refine qv m_as ?_
      show AWp cx _ _ _
      refine awp_ret ?_
      rw [show invR y w = (false, 1) by simp [invR, hv, hc1]]
      exact x2 (hr := (rB_)) (hr' := (rI_))
    · try simp at hc1
      have hal : allIn w y.places (-20) 20 = true := hc1
      have hwb := allIn_mem hal
      have hwl := allIn_len hal
      refine awp_skip ?_
      show AWp cx _ _ _
      refine awp_seq ?_
      refine awp_seq ?_
      refine rg ?_
      refine qv m_as ?_
      show AWp cx _ _ _
      refine awp_block ?_
      refine awp_loop (ι := Nat) (fun i => ⟨lk [(1, .dv (ints (w))), (2, .pt 2 0 0), (7, .dv (i64 (i : Nat)))], mkM [(2, 0, some ⟨[.dv (i64 (y.places)), .dv (.list ((y.steps).map dStp))], 0, 24, 0, false⟩)]⟩) (fun i => i ≤ y.steps.length ∧ ∀ j (hj : j < i) (h : j < y.steps.length), (wAt w y.steps[j] y.places.toNat == 0) = true) (fun i => y.steps.length - i) 0 (by simp) (tl [(2, 2)]) ?_
      intro i hφ0
      refine awp_seq ?_
      refine awp_seq ?_
      refine rg ?_
      skip
      refine qv m_mv ?_
      refine qv (m_fdp fd24_1) ?_
      refine qv (m_ldp sz22 ag22) ?_
      refine qv (m_len il22) ?_
      refine qv m_lss ?_
      show AWp cx _ _ _
      refine cd (fun hc2 => ?_) (fun hc2 => ?_)
      · try simp at hc2
        have hin : i < y.steps.length := by omega
        refine awp_skip ?_
        show AWp cx _ _ _
        refine awp_seq ?_
        refine awp_block ?_
        refine awp_seq ?_
        refine rg ?_
        refine qv m_as ?_
        show AWp cx _ _ _
        refine awp_seq ?_
        refine awp_seq ?_
        refine rg ?_
        refine qv m_as ?_
        show AWp cx _ _ _
        refine awp_block ?_
        refine awp_loop (ι := Nat) (fun p => ⟨lk [(1, .dv (ints (w))), (2, .pt 2 0 0), (7, .dv (i64 (i : Nat))), (8, .dv (i64 (wAt w y.steps[i] p))), (9, .dv (i64 (p : Nat)))], mkM [(2, 0, some ⟨[.dv (i64 (y.places)), .dv (.list ((y.steps).map dStp))], 0, 24, 0, false⟩)]⟩) (fun p => p ≤ y.places.toNat) (fun p => y.places.toNat - p) 0 (by simp) (tl [(2, 2)] (hF := by simp [FLe, svLe, lk, mkM, isLive, tauL, wAt]) (hM := by simp [MLe, blkLe, svLe, svLes, lk, mkM, isLive, tauL, svLes_ints, svLes_self, isDvs, isDvs_map, isDvs_app, isDvs_take, isDvs_set, isDvs_repl, wAt])) ?_
        intro p hφ1
        refine awp_seq ?_
        refine awp_seq ?_
        refine rg ?_
        skip
        refine qv m_mv ?_
        refine qv (m_fdp fd24_0) ?_
        refine qv (m_ldp sz3 ag3) ?_
        refine qv m_lss ?_
        show AWp cx _ _ _
        refine cd (fun hc3 => ?_) (fun hc3 => ?_)
        · try simp at hc3
          refine awp_skip ?_
          show AWp cx _ _ _
          refine awp_seq ?_
          refine awp_block ?_
          refine rd mixed ?_
          have hpn : p < y.places.toNat := by omega
          obtain ⟨hq1, hq2, b1, b2, b3, b4⟩ := valid_bd hv hin hpn
          have hwi : p < w.length := by omega
          have c1 := hwb _ (List.getElem_mem hwi)
          have hm := mul_bd (A := 20) (B := 3) (a := w[p]) (b := y.steps[i].give[p] - y.steps[i].take[p]) (by omega) (by omega) (by omega) (by omega)
          have he := wAt_bd hv hwb i p
          have hst : y.steps.getD i ⟨[], []⟩ = y.steps[i] := by simp [hin]
          rw [hst] at he
          have hset : wAt w y.steps[i] p + w[p] * (y.steps[i].give[p] - y.steps[i].take[p]) = wAt w y.steps[i] (p + 1) := by
            have hd := dAt_eq hin hq1 hq2
            rw [hst] at hd
            have hcd : w.getD p 0 = w[p] := by simp [hwi]
            simp only [wAt]
            rw [hd, hcd]
          refine zv m_mv ?_
          refine zv m_mv ?_
          refine zv m_mv ?_
          first | refine zv (m_ixN el25 sz3) ?_ | refine zv (m_ix el25 sz3) ?_
          refine zv (m_ld sz3 ag3) ?_
          refine zv (m_fdp fd24_1) ?_
          refine zv (m_ldp sz22 ag22) ?_
          refine zv m_mv ?_
          first | refine zv (m_ixN el22 sz55) ?_ | refine zv (m_ix el22 sz55) ?_
          refine zv (m_fd fd55_1) ?_
          refine zv (m_ld sz25 ag25) ?_
          refine zv m_mv ?_
          first | refine zv (m_ixN el25 sz3) ?_ | refine zv (m_ix el25 sz3) ?_
          refine zv (m_ld sz3 ag3) ?_
          refine zv (m_fdp fd24_1) ?_
          refine zv (m_ldp sz22 ag22) ?_
          refine zv m_mv ?_
          first | refine zv (m_ixN el22 sz55) ?_ | refine zv (m_ix el22 sz55) ?_
          refine zv (m_fd fd55_0) ?_
          refine zv (m_ld sz25 ag25) ?_
          refine zv m_mv ?_
          first | refine zv (m_ixN el25 sz3) ?_ | refine zv (m_ix el25 sz3) ?_
          refine zv (m_ld sz3 ag3) ?_
          refine zv m_sub ?_
          refine zv m_mul ?_
          refine zv m_add ?_
          refine zv m_as ?_
          refine ⟨by rfl, ?_⟩
          show AWp cx _ _ _
          refine rg ?_
          refine qv m_mv ?_
          refine qv m_add ?_
          refine qv m_as ?_
          exact ⟨p + 1, hpn, (by simp only; omega), (tl [(2, 2)] (hF := by simp [FLe, svLe, lk, mkM, isLive, tauL, hset]) (hM := by simp [MLe, blkLe, svLe, svLes, lk, mkM, isLive, tauL, svLes_ints, svLes_self, isDvs, isDvs_map, isDvs_app, isDvs_take, isDvs_set, isDvs_repl, hset]))⟩
        · try simp at hc3
          refine awp_exit ?_
          show AWp cx _ _ _
          refine awp_seq ?_
          refine rg ?_
          refine qv m_mv ?_
          refine qv m_neq ?_
          show AWp cx _ _ _
          refine cd (fun hc4 => ?_) (fun hc4 => ?_)
          · try simp at hc4
            refine awp_seq ?_
            refine rg ?_
            refine qv m_as ?_
            refine qv m_as ?_
            show AWp cx _ _ _
            refine awp_ret ?_
            obtain rfl : p = y.places.toNat := by omega
            have ea : (y.steps.all fun s => wAt w s y.places.toNat == 0) = false := all_no hin (by simpa using hc4)
            rw [show invR y w = (false, 0) by simp only [invR]; rw [if_neg (by simp [hv]), if_pos hal, ea]]
            exact x2 (hr := (rB_)) (hr' := (rI_))
          · try simp at hc4
            refine awp_skip ?_
            show AWp cx _ _ _
            refine rg ?_
            refine qv m_mv ?_
            refine qv m_add ?_
            refine qv m_as ?_
            refine ⟨i + 1, ?_, (by simp only; omega), (tl [(2, 2)])⟩
            refine ⟨hin, fun j hj h => ?_⟩
            rcases Nat.lt_or_ge j i with h1 | h1
            · exact hφ0.2 j h1 h
            · obtain rfl : j = i := by omega
              obtain rfl : p = y.places.toNat := by omega
              simpa using hc4
      · try simp at hc2
        refine awp_exit ?_
        show AWp cx _ _ _
        refine awp_seq ?_
        refine rg ?_
        refine qv m_as ?_
        refine qv m_as ?_
        show AWp cx _ _ _
        refine awp_ret ?_
        have ea : (y.steps.all fun s => wAt w s y.places.toNat == 0) = true := all_yes fun j hj => hφ0.2 j (by omega) hj
        rw [show invR y w = (true, 0) by simp only [invR]; rw [if_neg (by simp [hv]), if_pos hal, ea]]
        exact x2 (hr := (rB_)) (hr' := (rI_))
theorem f36 (y : Yd) (w m : List Int) : ACallsF Try.prog 36 [dYd y, ints w, ints m] (.many [.dv (i64 (weighR y w m).1), .dv (i64 (weighR y w m).2)]) := by
  refine callsF_of Try.func36 rfl rfl (by rw [Try.ntmps36]; simp) fun cx hP hn hg => ?_
  rw [Try.ntmps36] at hn
  rw [startF_lk, none_mkM]
  simp only [zipSV, Nat.reduceAdd]
  refine awp_seq ?_
  refine rg ?_
  refine qp m_box ?_
  refine qv m_as ?_
  refine qv m_as ?_
  show AWp cx _ _ _
  refine awp_seq ?_
  refine awp_seq ?_
  refine rg ?_
  refine qv (m_ldpa sz24 ag24) ?_
  refine qv m_mv ?_
  refine qr (m_bsl el91 ze25 sz25) ?_
  refine qqF (f57 y [m] (by simp)) ?_ (ha := (args_cons data_dv (args_cons (data_row (l := [ints m]) (by simp only [mkM, reduceIte, Nat.reduceEqDiff] <;> rfl) trivial rfl (by simp [DV.cells]) (by simp [flat, DV.cells]) (fun _ _ => trivial)) args_nil)))
  refine qv m_as ?_
  show AWp cx _ _ _
  refine awp_seq ?_
  refine rg ?_
  refine qv m_mv ?_
  refine qv m_neq ?_
  show AWp cx _ _ _
  refine cd (fun hc0 => ?_) (fun hc0 => ?_)
  · try simp at hc0
    refine awp_seq ?_
    refine rg ?_
    refine qv m_mv ?_
    refine qv m_as ?_
    refine qv m_as ?_
    show AWp cx _ _ _
    refine awp_ret ?_
    rw [show weighR y w m = (0, filledE y [m]) by simp [weighR, hc0]]
    exact x2 (hr := (rI_)) (hr' := (rI_))
  · try simp at hc0
    refine awp_skip ?_
    show AWp cx _ _ _
    refine awp_seq ?_
    refine awp_seq ?_
    refine rg ?_
    obtain ⟨hv, hm0⟩ := filled_ok hc0
    obtain ⟨v1, v2, v3, v4⟩ := validate_ok hv
    have hml := allIn_len hm0
    refine qv (m_ldpa sz24 ag24) ?_
    refine qv m_mv ?_
    refine qqF (f75 y w (by omega)) ?_
    refine qv m_as ?_
    show AWp cx _ _ _
    refine awp_seq ?_
    refine rg ?_
    refine qv m_mv ?_
    refine qv m_neq ?_
    show AWp cx _ _ _
    refine cd (fun hc1 => ?_) (fun hc1 => ?_)
    · try simp at hc1
      refine awp_seq ?_
      refine rg ?_
      refine qv m_mv ?_
      refine qv m_as ?_
      refine qv m_as ?_
      show AWp cx _ _ _
      refine awp_ret ?_
      have hal : allIn w y.places (-20) 20 = false := by simpa using hc1
      rw [show weighR y w m = (0, 1) by simp [weighR, hc0, hal]]
      exact x2 (hr := (rI_)) (hr' := (rI_ (by simp [hal])))
    · try simp at hc1
      refine awp_skip ?_
      show AWp cx _ _ _
      refine awp_seq ?_
      refine rg ?_
      refine qv m_as ?_
      show AWp cx _ _ _
      refine awp_seq ?_
      refine awp_seq ?_
      refine rg ?_
      have hal : allIn w y.places (-20) 20 = true := by simpa using hc1
      have hwb := allIn_mem hal
      have hwl := allIn_len hal
      refine qv m_mv ?_
      refine qv (m_len il25) ?_
      refine qv m_mv ?_
      show AWp cx _ _ _
      refine awp_block ?_
      refine awp_loop (ι := Nat) (fun i => ⟨lk [(2, .dv (ints (m))), (10, .dv (i64 (sAt w m i))), (26, .dv (ints (w))), (27, .dv (i64 ((w.length : Int)))), (28, .dv (i64 (i : Nat)))], mkM []⟩) (fun i => i ≤ w.length) (fun i => w.length - i) 0 (by simp) (tl [] (hF := by simp [FLe, svLe, lk, mkM, isLive, tauL, sAt]) (hM := by simp [MLe, blkLe, svLe, svLes, lk, mkM, isLive, tauL, svLes_ints, svLes_self, isDvs, isDvs_map, isDvs_app, isDvs_take, isDvs_set, isDvs_repl, sAt])) ?_
      intro i hφ0
      refine awp_seq ?_
      refine rg ?_
      refine qv m_lss ?_
      show AWp cx _ _ _
      refine awp_seq ?_
      refine cd (fun hc2 => ?_) (fun hc2 => ?_)
      · try simp at hc2
        refine awp_skip ?_
        show AWp cx _ _ _
        refine awp_seq ?_
        refine awp_block ?_
        refine awp_seq ?_
        refine rg ?_
        have hwi : i < w.length := by omega
        have hmi : i < m.length := by omega
        have c1 := hwb _ (List.getElem_mem hwi)
        have c2 := allIn_mem hm0 _ (List.getElem_mem hmi)
        have hm := mul_bd (A := 20) (B := 50) (a := w[i]) (b := m[i]) (by omega) (by omega) (by omega) (by omega)
        have he := sAt_bd hwb (allIn_mem hm0) i
        have hset : sAt w m i + w[i] * m[i] = sAt w m (i + 1) := by
          have h1 : w.getD i 0 = w[i] := by simp [hwi]
          have h2 : m.getD i 0 = m[i] := by simp [hmi]
          simp only [sAt]
          rw [h1, h2]
        refine qv m_mv ?_
        first | refine qv (m_ixN el25 sz3) ?_ | refine qv (m_ix el25 sz3) ?_
        refine qv (m_ld sz3 ag3) ?_
        refine qv m_as ?_
        refine qv m_as ?_
        show AWp cx _ _ _
        refine rg ?_
        refine qv m_mv ?_
        refine qv m_mv ?_
        refine qv m_mv ?_
        refine qv m_mv ?_
        first | refine qv (m_ixN el25 sz3) ?_ | refine qv (m_ix el25 sz3) ?_
        refine qv (m_ld sz3 ag3) ?_
        refine qv m_mul ?_
        refine qv m_add ?_
        refine qv m_as ?_
        show AWp cx _ _ _
        refine rg ?_
        refine qv m_add ?_
        refine qv m_mv ?_
        exact ⟨i + 1, hwi, (by simp only; omega), (tl [] (hF := by simp [FLe, svLe, lk, mkM, isLive, tauL, hset]) (hM := by simp [MLe, blkLe, svLe, svLes, lk, mkM, isLive, tauL, svLes_ints, svLes_self, isDvs, isDvs_map, isDvs_app, isDvs_take, isDvs_set, isDvs_repl, hset]))⟩
      · try simp at hc2
        refine awp_exit ?_
        show AWp cx _ _ _
        refine awp_seq ?_
        refine rg ?_
        refine qv m_mv ?_
        refine qv m_as ?_
        refine qv m_as ?_
        show AWp cx _ _ _
        refine awp_ret ?_
        obtain rfl : i = y.places.toNat := by omega
        rw [show weighR y w m = (sAt w m y.places.toNat, 0) by simp [weighR, hc0, hal]]
        exact x2 (hr := (rI_)) (hr' := (rI_))
theorem f37 (y : Yd) (w m : List Int) : ACallsF Try.prog 37 [dYd y, ints w, ints m] (.many [.dv (i64 (weighR y w m).1), .dv (i64 (weighR y w m).2)]) := by
  refine callsF_of Try.func37 rfl rfl (by rw [Try.ntmps37]; simp) fun cx hP hn hg => ?_
  rw [Try.ntmps37] at hn
  rw [startF_lk, none_mkM]
  simp only [zipSV, Nat.reduceAdd]
  refine awp_seq ?_
  refine rg ?_
  refine qp m_box ?_
  refine qv m_as ?_
  refine qv m_as ?_
  show AWp cx _ _ _
  refine awp_seq ?_
  refine awp_seq ?_
  refine rg ?_
  refine qv (m_ldpa sz24 ag24) ?_
  refine qv m_mv ?_
  refine qqF (f60 y m) ?_
  refine qv m_as ?_
  show AWp cx _ _ _
  refine awp_seq ?_
  refine rg ?_
  refine qv m_mv ?_
  refine qv m_neq ?_
  show AWp cx _ _ _
  refine cd (fun hc0 => ?_) (fun hc0 => ?_)
  · try simp at hc0
    refine awp_seq ?_
    refine rg ?_
    refine qv m_mv ?_
    refine qv m_as ?_
    refine qv m_as ?_
    show AWp cx _ _ _
    refine awp_ret ?_
    rw [show weighR y w m = (0, filledE y [m]) by simp [weighR, hc0]]
    exact x2 (hr := (rI_)) (hr' := (rI_))
  · try simp at hc0
    refine awp_skip ?_
    show AWp cx _ _ _
    refine awp_seq ?_
    refine awp_seq ?_
    refine rg ?_
    obtain ⟨hv, hm0⟩ := filled_ok hc0
    obtain ⟨v1, v2, v3, v4⟩ := validate_ok hv
    have hml := allIn_len hm0
    refine qv m_mv ?_
    refine qv (m_fdp fd24_0) ?_
    refine qv (m_ldp sz3 ag3) ?_
    refine qqF (f73 w y.places (-20) 20 (by omega)) ?_
    refine qv m_not ?_
    show AWp cx _ _ _
    refine cd (fun hc1 => ?_) (fun hc1 => ?_)
    · try simp at hc1
      refine awp_seq ?_
      refine rg ?_
      refine qv m_as ?_
      refine qv m_as ?_
      show AWp cx _ _ _
      refine awp_ret ?_
      rw [show weighR y w m = (0, 1) by simp [weighR, hc0, hc1]]
      exact x2 (hr := (rI_)) (hr' := (rI_))
    · try simp at hc1
      have hal : allIn w y.places (-20) 20 = true := hc1
      have hwb := allIn_mem hal
      have hwl := allIn_len hal
      refine awp_skip ?_
      show AWp cx _ _ _
      refine awp_seq ?_
      refine rg ?_
      refine qv m_as ?_
      show AWp cx _ _ _
      refine awp_seq ?_
      refine awp_seq ?_
      refine rg ?_
      refine qv m_as ?_
      show AWp cx _ _ _
      refine awp_block ?_
      refine awp_loop (ι := Nat) (fun i => ⟨lk [(1, .dv (ints (w))), (2, .dv (ints (m))), (3, .pt 3 0 0), (9, .dv (i64 (sAt w m i))), (10, .dv (i64 (i : Nat)))], mkM [(3, 0, some ⟨[.dv (i64 (y.places)), .dv (.list ((y.steps).map dStp))], 0, 24, 0, false⟩)]⟩) (fun i => i ≤ w.length) (fun i => w.length - i) 0 (by simp) (tl [(3, 3)] (hF := by simp [FLe, svLe, lk, mkM, isLive, tauL, sAt]) (hM := by simp [MLe, blkLe, svLe, svLes, lk, mkM, isLive, tauL, svLes_ints, svLes_self, isDvs, isDvs_map, isDvs_app, isDvs_take, isDvs_set, isDvs_repl, sAt])) ?_
      intro i hφ0
      refine awp_seq ?_
      refine awp_seq ?_
      refine rg ?_
      refine qv m_mv ?_
      refine qv (m_fdp fd24_0) ?_
      refine qv (m_ldp sz3 ag3) ?_
      refine qv m_lss ?_
      show AWp cx _ _ _
      refine cd (fun hc2 => ?_) (fun hc2 => ?_)
      · try simp at hc2
        refine awp_skip ?_
        show AWp cx _ _ _
        refine awp_seq ?_
        refine awp_block ?_
        refine rd mixed ?_
        have hwi : i < w.length := by omega
        have hmi : i < m.length := by omega
        have c1 := hwb _ (List.getElem_mem hwi)
        have c2 := allIn_mem hm0 _ (List.getElem_mem hmi)
        have hm := mul_bd (A := 20) (B := 50) (a := w[i]) (b := m[i]) (by omega) (by omega) (by omega) (by omega)
        have he := sAt_bd hwb (allIn_mem hm0) i
        have hset : sAt w m i + w[i] * m[i] = sAt w m (i + 1) := by
          have h1 : w.getD i 0 = w[i] := by simp [hwi]
          have h2 : m.getD i 0 = m[i] := by simp [hmi]
          simp only [sAt]
          rw [h1, h2]
        refine zv m_mv ?_
        refine zv m_mv ?_
        refine zv m_mv ?_
        first | refine zv (m_ixN el25 sz3) ?_ | refine zv (m_ix el25 sz3) ?_
        refine zv (m_ld sz3 ag3) ?_
        refine zv m_mv ?_
        refine zv m_mv ?_
        first | refine zv (m_ixN el25 sz3) ?_ | refine zv (m_ix el25 sz3) ?_
        refine zv (m_ld sz3 ag3) ?_
        refine zv m_mul ?_
        refine zv m_add ?_
        refine zv m_as ?_
        refine ⟨by rfl, ?_⟩
        show AWp cx _ _ _
        refine rg ?_
        refine qv m_mv ?_
        refine qv m_add ?_
        refine qv m_as ?_
        exact ⟨i + 1, hwi, (by simp only; omega), (tl [(3, 3)] (hF := by simp [FLe, svLe, lk, mkM, isLive, tauL, hset]) (hM := by simp [MLe, blkLe, svLe, svLes, lk, mkM, isLive, tauL, svLes_ints, svLes_self, isDvs, isDvs_map, isDvs_app, isDvs_take, isDvs_set, isDvs_repl, hset]))⟩
      · try simp at hc2
        refine awp_exit ?_
        show AWp cx _ _ _
        refine awp_seq ?_
        refine rg ?_
        refine qv m_mv ?_
        refine qv m_as ?_
        refine qv m_as ?_
        show AWp cx _ _ _
        refine awp_ret ?_
        obtain rfl : i = y.places.toNat := by omega
        rw [show weighR y w m = (sAt w m y.places.toNat, 0) by simp [weighR, hc0, hal]]
        exact x2 (hr := (rI_)) (hr' := (rI_))
theorem f8 (y : Yd) (w m : List Int) : ACallsF Try.prog 8 [dYd y, ints w, ints m] (.one (.dv (.bool true))) := by
  refine callsF_of Try.func8 rfl rfl (by rw [Try.ntmps8]; simp) fun cx hP hn hg => ?_
  rw [Try.ntmps8] at hn
  rw [startF_lk, none_mkM]
  simp only [zipSV, Nat.reduceAdd]
  refine awp_seq ?_
  refine rg ?_
  refine qp m_box ?_
  refine qv m_as ?_
  show AWp cx _ _ _
  refine awp_seq ?_
  refine awp_seq ?_
  refine rg ?_
  refine qv (m_ldpa sz24 ag24) ?_
  refine qqF (f16 y) ?_
  refine qx m_mv (fun hg17 => ?_) (fun hg17 => ?_)
  · try simp at hg17
    refine qk ?_
    refine qk ?_
    refine qv m_pk ?_
    refine qv m_mv ?_
    refine qk ?_
    refine qk ?_
    refine qv m_pk ?_
    show AWp cx _ _ _
    refine cdT (hb := by first | rfl | simp | simp_all) (ht := ?_)
    refine awp_seq ?_
    refine rg ?_
    refine qqF (f18) ?_
    refine qv m_as ?_
    show AWp cx _ _ _
    refine awp_ret ?_
    exact x1 (hr := (rB_))
  · try simp at hg17
    refine qv m_mv ?_
    refine qqF (f17 w) ?_
    refine qv m_pk ?_
    refine qx m_mv (fun hg21 => ?_) (fun hg21 => ?_)
    · try simp at hg21
      refine qk ?_
      refine qk ?_
      refine qv m_pk ?_
      show AWp cx _ _ _
      refine cdT (hb := by first | rfl | simp | simp_all) (ht := ?_)
      refine awp_seq ?_
      refine rg ?_
      refine qqF (f18) ?_
      refine qv m_as ?_
      show AWp cx _ _ _
      refine awp_ret ?_
      exact x1 (hr := (rB_))
    · try simp at hg21
      refine qv m_mv ?_
      refine qqF (f17 m) ?_
      refine qv m_pk ?_
      show AWp cx _ _ _
      refine cd (fun hc0 => ?_) (fun hc0 => ?_)
      · try simp at hc0
        refine awp_seq ?_
        refine rg ?_
        refine qqF (f18) ?_
        refine qv m_as ?_
        show AWp cx _ _ _
        refine awp_ret ?_
        exact x1 (hr := (rB_))
      · try simp at hc0
        refine awp_skip ?_
        show AWp cx _ _ _
        refine awp_seq ?_
        refine rg ?_
        refine qv (m_ldpa sz24 ag24) ?_
        refine qv m_mv ?_
        refine qqF (f34 y w) ?_
        refine qv m_mv ?_
        refine qv m_ext ?_
        refine qv m_ext ?_
        refine qv m_as ?_
        refine qv m_as ?_
        show AWp cx _ _ _
        refine awp_seq ?_
        refine rg ?_
        refine qv (m_ldpa sz24 ag24) ?_
        refine qv m_mv ?_
        refine qqF (f35 y w) ?_
        refine qv m_mv ?_
        refine qv m_ext ?_
        refine qv m_ext ?_
        refine qv m_as ?_
        refine qv m_as ?_
        show AWp cx _ _ _
        refine awp_seq ?_
        refine rg ?_
        refine qv (m_ldpa sz24 ag24) ?_
        refine qv m_mv ?_
        refine qv m_mv ?_
        refine qqF (f36 y w m) ?_
        refine qv m_mv ?_
        refine qv m_ext ?_
        refine qv m_ext ?_
        refine qv m_as ?_
        refine qv m_as ?_
        show AWp cx _ _ _
        refine awp_seq ?_
        refine rg ?_
        refine qv (m_ldpa sz24 ag24) ?_
        refine qv m_mv ?_
        refine qv m_mv ?_
        refine qqF (f37 y w m) ?_
        refine qv m_mv ?_
        refine qv m_ext ?_
        refine qv m_ext ?_
        refine qv m_as ?_
        refine qv m_as ?_
        show AWp cx _ _ _
        refine awp_seq ?_
        refine rg ?_
        refine qv m_mv ?_
        refine qv m_mv ?_
        refine qv (m_beq ib4) ?_
        refine qx m_mv (fun hg55 => ?_) (fun hg55 => ?_)
        rotate_left
        · exact absurd hg55 (by simp)
        refine qv m_mv ?_
        refine qv m_mv ?_
        refine qv m_eql ?_
        refine qv m_pk ?_
        refine qx m_mv (fun hg60 => ?_) (fun hg60 => ?_)
        rotate_left
        · exact absurd hg60 (by simp)
        refine qv m_mv ?_
        refine qv m_mv ?_
        refine qv m_eql ?_
        refine qv m_pk ?_
        refine qx m_mv (fun hg65 => ?_) (fun hg65 => ?_)
        rotate_left
        · exact absurd hg65 (by simp)
        refine qv m_mv ?_
        refine qv m_mv ?_
        refine qv m_eql ?_
        refine qv m_pk ?_
        refine qx m_mv (fun hg70 => ?_) (fun hg70 => ?_)
        rotate_left
        · exact absurd hg70 (by simp)
        refine qqF (f18) ?_
        refine qv m_pk ?_
        refine qv m_as ?_
        show AWp cx _ _ _
        refine awp_ret ?_
        exact x1 (hr := (rB_))
end Go.Ab.Try
