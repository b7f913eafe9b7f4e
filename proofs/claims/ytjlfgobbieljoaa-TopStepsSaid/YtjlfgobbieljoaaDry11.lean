/- The functions of the dry laws, part 11. The walks are written by wip/gen/gw.py. -/
import Derived.Test.YtjlfgobbieljoaaDry10
import Derived.Test.YtjlfgobbieljoaaAb26
set_option linter.all false
namespace Go.Ab.Try
open Go Go.Ab Go.Proofs
theorem mul_bd {a b A B : Int} (h1 : -A ≤ a) (h2 : a ≤ A) (h3 : -B ≤ b) (h4 : b ≤ B) : -(A * B) ≤ a * b ∧ a * b ≤ A * B := by
  have p1 : 0 ≤ (A - a) * (B - b) := Int.mul_nonneg (by omega) (by omega)
  have p2 : 0 ≤ (A + a) * (B + b) := Int.mul_nonneg (by omega) (by omega)
  have p3 : 0 ≤ (A - a) * (B + b) := Int.mul_nonneg (by omega) (by omega)
  have p4 : 0 ≤ (A + a) * (B - b) := Int.mul_nonneg (by omega) (by omega)
  simp only [Int.sub_mul, Int.mul_sub, Int.add_mul, Int.mul_add] at p1 p2 p3 p4
  omega
theorem range_set {n p : Nat} {f g : Nat → Int} {v : Int} (h : ∀ q, q < n → q ≠ p → f q = g q) (hv : p < n → v = g p) : ((List.range n).map f).set p v = (List.range n).map g := by
  apply List.ext_getElem
  · simp
  · intro j h1 h2
    simp only [List.length_set, List.length_map, List.length_range] at h1
    by_cases hj : p = j
    · subst hj
      simp [hv h1]
    · rw [List.getElem_set_ne hj]
      simp [h j h1 (fun e => hj e.symm)]
theorem range_get {n p : Nat} {f : Nat → Int} (h : p < n) : ((List.range n).map f)[p]? = some (f p) := by simp [h]
theorem repl_range {n : Nat} {v : Int} : List.replicate n v = (List.range n).map fun _ => v := by
  apply List.ext_getElem <;> simp
def dAt (s : Stp) (q : Nat) : Int := s.give.getD q 0 - s.take.getD q 0
def effAt (y : Yd) (c : List Int) : Nat → Nat → Int
  | 0, _ => 0
  | i + 1, q => effAt y c i q + c.getD i 0 * dAt (y.steps.getD i ⟨[], []⟩) q
def effRow (y : Yd) (c : List Int) (i p : Nat) : List Int := (List.range y.places.toNat).map fun q => if q < p then effAt y c (i + 1) q else effAt y c i q
def effR (y : Yd) (c : List Int) : List Int × Int := if validate y ≠ 0 then ([], validate y) else if allIn c y.steps.length 0 40 then (effRow y c y.steps.length 0, 0) else ([], 1)
theorem effRow_len {y : Yd} {c : List Int} {i p : Nat} : (effRow y c i p).length = y.places.toNat := by simp [effRow]
theorem effRow_get {y : Yd} {c : List Int} {i p : Nat} (h : p < y.places.toNat) : (effRow y c i p)[p]? = some (effAt y c i p) := by
  rw [effRow, range_get h]; simp
theorem effRow_set {y : Yd} {c : List Int} {i p : Nat} (h : p < y.places.toNat) : (effRow y c i p).set p (effAt y c (i + 1) p) = effRow y c i (p + 1) := by
  refine range_set (fun q _ hq => ?_) fun _ => ?_
  · by_cases h1 : q < p
    · rw [if_pos h1, if_pos (by omega)]
    · rw [if_neg h1, if_neg (by omega)]
  · rw [if_pos (by omega)]
theorem effRow_next {y : Yd} {c : List Int} {i p : Nat} (hp : y.places.toNat ≤ p) : effRow y c i p = effRow y c (i + 1) 0 := by
  unfold effRow
  apply List.map_congr_left
  intro q hq
  have := List.mem_range.1 hq
  rw [if_pos (by omega), if_neg (by omega)]
theorem effRow_zero {y : Yd} {c : List Int} : effRow y c 0 0 = List.replicate y.places.toNat 0 := by
  rw [repl_range]
  unfold effRow
  apply List.map_congr_left
  intro q hq
  simp [effAt]
theorem valid_bd {y : Yd} (h : validate y = 0) {i p : Nat} (hi : i < y.steps.length) (hp : p < y.places.toNat) :
    ∃ (h1 : p < y.steps[i].give.length) (h2 : p < y.steps[i].take.length), 0 ≤ y.steps[i].give[p] ∧ y.steps[i].give[p] ≤ 3 ∧ 0 ≤ y.steps[i].take[p] ∧ y.steps[i].take[p] ≤ 3 := by
  obtain ⟨v1, v2, v3, v4⟩ := validate_ok h
  have h4 := v4 _ (List.getElem_mem hi)
  simp only [okStp, Bool.and_eq_true] at h4
  have a1 := allIn_len h4.1
  have a2 := allIn_len h4.2
  have h1 : p < y.steps[i].give.length := by omega
  have h2 : p < y.steps[i].take.length := by omega
  have b1 := allIn_mem h4.1 _ (List.getElem_mem h2)
  have b2 := allIn_mem h4.2 _ (List.getElem_mem h1)
  exact ⟨h1, h2, b2.1, b2.2, b1.1, b1.2⟩
theorem dAt_eq {y : Yd} {i p : Nat} (hi : i < y.steps.length) (h1 : p < y.steps[i].give.length) (h2 : p < y.steps[i].take.length) : dAt (y.steps.getD i ⟨[], []⟩) p = y.steps[i].give[p] - y.steps[i].take[p] := by
  unfold dAt
  simp [hi, h1, h2]
theorem dAt_bd {y : Yd} (h : validate y = 0) (i p : Nat) : -3 ≤ dAt (y.steps.getD i ⟨[], []⟩) p ∧ dAt (y.steps.getD i ⟨[], []⟩) p ≤ 3 := by
  obtain ⟨v1, v2, v3, v4⟩ := validate_ok h
  by_cases hi : i < y.steps.length
  · by_cases hp : p < y.places.toNat
    · obtain ⟨h1, h2, b⟩ := valid_bd h hi hp
      rw [dAt_eq hi h1 h2]
      omega
    · have h4 := v4 _ (List.getElem_mem hi)
      simp only [okStp, Bool.and_eq_true] at h4
      have a1 := allIn_len h4.1
      have a2 := allIn_len h4.2
      have e1 : y.steps[i].give.length ≤ p := by omega
      have e2 : y.steps[i].take.length ≤ p := by omega
      simp [dAt, hi, e1, e2]
  · simp [dAt, hi]
theorem effAt_bd {y : Yd} (h : validate y = 0) {c : List Int} (hc : ∀ x ∈ c, 0 ≤ x ∧ x ≤ 40) : ∀ i q : Nat, -(120 * (i : Int)) ≤ effAt y c i q ∧ effAt y c i q ≤ 120 * i
  | 0, q => by simp [effAt]
  | i + 1, q => by
    have ih := effAt_bd h hc i q
    have hd := dAt_bd h i q
    have hx : -40 ≤ c.getD i 0 ∧ c.getD i 0 ≤ 40 := by
      by_cases hi : i < c.length
      · have := hc _ (List.getElem_mem hi)
        simp [hi]; omega
      · simp [hi]
    have hm := mul_bd hx.1 hx.2 hd.1 hd.2
    simp only [effAt]
    omega
def cntAt (l : List Int) (q : Nat) : Int := (l.countP fun x => x == (q : Int) : Nat)
def cntRow (n : Nat) (l : List Int) : List Int := (List.range n).map (cntAt l)
def cntR (y : Yd) (l : List Int) : List Int × Int := if validate y ≠ 0 then ([], validate y) else if listedE y l ≠ 0 then ([], listedE y l) else (cntRow y.steps.length l, 0)
theorem cntAt_bd (l : List Int) (q : Nat) : 0 ≤ cntAt l q ∧ cntAt l q ≤ l.length := by
  unfold cntAt
  have := List.countP_le_length (p := fun x => x == (q : Int)) (l := l)
  omega
theorem cntRow_get {n : Nat} {l : List Int} {q : Nat} (h : q < n) : (cntRow n l)[q]? = some (cntAt l q) := range_get h
theorem cntRow_set {n : Nat} {l : List Int} {i : Nat} (hi : i < l.length) (h0 : 0 ≤ l[i]) (h1 : l[i] < n) : (cntRow n (l.take i)).set l[i].toNat (cntAt (l.take i) l[i].toNat + 1) = cntRow n (l.take (i + 1)) := by
  have ht : l.take (i + 1) = l.take i ++ [l[i]] := by rw [List.take_add_one]; simp [hi]
  refine range_set (fun q _ hq => ?_) fun _ => ?_
  · have : (l[i] == (q : Int)) = false := by rw [beq_eq_false_iff_ne]; omega
    simp only [cntAt, ht, List.countP_append, List.countP_cons, List.countP_nil, this]
    simp
  · have : (l[i] == (l[i].toNat : Int)) = true := by rw [beq_iff_eq]; omega
    simp only [cntAt, ht, List.countP_append, List.countP_cons, List.countP_nil, this]
    simp
theorem cntRow_zero {n : Nat} : cntRow n [] = List.replicate n 0 := by
  rw [repl_range]; rfl
theorem effR_len {y : Yd} {c : List Int} : (effR y c).1.length < 1000000 := by
  unfold effR
  split
  · simp
  · rename_i h
    split
    · obtain ⟨v1, v2, v3, v4⟩ := validate_ok (by simpa using h : validate y = 0)
      rw [effRow_len]; omega
    · simp
theorem cntR_len {y : Yd} {l : List Int} : (cntR y l).1.length < 1000000 := by
  unfold cntR
  split
  · simp
  · rename_i h
    obtain ⟨v1, v2, v3, v4⟩ := validate_ok (by simpa using h : validate y = 0)
    split
    · simp
    · simp [cntRow]; omega
theorem f74 (y : Yd) (l : List Int) (hy : y.steps.length < 1000000) : ACallsF Try.prog 74 [dYd y, ints l] (.one (.dv (i64 (if allIn l y.steps.length 0 40 then 0 else 1)))) := by
  refine callsF_of Try.func74 rfl rfl (by rw [Try.ntmps74]; simp) fun cx hP hn hg => ?_
  rw [Try.ntmps74] at hn
  rw [startF_lk, none_mkM]
  simp only [zipSV, Nat.reduceAdd]
  refine awp_seq ?_
  refine rg ?_
  refine qp m_box ?_
  refine qv m_as ?_
  show AWp cx _ _ _
  refine awp_seq ?_
  refine awp_seq ?_
  refine rg ?_
  refine qv m_mv ?_
  refine qv (m_fdp fd24_1) ?_
  refine qv (m_ldp sz22 ag22) ?_
  refine qv (m_len il22) ?_
  refine qqF (f71 l y.steps.length 0 40 (by omega)) ?_
  refine qv m_not ?_
  show AWp cx _ _ _
  refine cd (fun hc0 => ?_) (fun hc0 => ?_)
  · try simp at hc0
    refine awp_seq ?_
    refine rg ?_
    refine qv m_as ?_
    show AWp cx _ _ _
    refine awp_ret ?_
    exact x1 (hr := (rI_ (by simp [hc0])))
  · try simp at hc0
    refine awp_skip ?_
    show AWp cx _ _ _
    refine awp_seq ?_
    refine rg ?_
    refine qv m_as ?_
    show AWp cx _ _ _
    refine awp_ret ?_
    exact x1 (hr := (rI_ (by simp [hc0])))
theorem f30 (y : Yd) (l : List Int) : ACallsF Try.prog 30 [dYd y, ints l] (.many [rI (effR y l).1, .dv (i64 (effR y l).2)]) := by
  refine callsF_of Try.func30 rfl rfl (by rw [Try.ntmps30]; simp) fun cx hP hn hg => ?_
  rw [Try.ntmps30] at hn
  rw [startF_lk, none_mkM]
  simp only [zipSV, Nat.reduceAdd]
  refine awp_seq ?_
  refine rg ?_
  refine qp m_box ?_
  refine qv m_as ?_
  refine qv m_as ?_
  show AWp cx _ _ _
  refine awp_seq ?_
  refine awp_seq ?_
  refine rg ?_
  refine qv (m_ldpa sz24 ag24) ?_
  refine qqF (f28 y) ?_
  refine qv m_as ?_
  show AWp cx _ _ _
  refine awp_seq ?_
  refine rg ?_
  refine qv m_mv ?_
  refine qv m_neq ?_
  show AWp cx _ _ _
  refine cd (fun hc0 => ?_) (fun hc0 => ?_)
  · try simp at hc0
    refine awp_seq ?_
    refine rg ?_
    refine qv m_mv ?_
    refine qv m_as ?_
    refine qv m_as ?_
    show AWp cx _ _ _
    refine awp_ret ?_
    rw [show effR y l = ([], validate y) by simp [effR, hc0]]
    exact x2 (hr := (rN_)) (hr' := (rI_))
  · try simp at hc0
    refine awp_skip ?_
    show AWp cx _ _ _
    refine awp_seq ?_
    refine awp_seq ?_
    refine rg ?_
    have hv : validate y = 0 := hc0
    obtain ⟨v1, v2, v3, v4⟩ := validate_ok hv
    refine qv (m_ldpa sz24 ag24) ?_
    refine qv m_mv ?_
    refine qqF (f74 y l (by omega)) ?_
    refine qv m_as ?_
    show AWp cx _ _ _
    refine awp_seq ?_
    refine rg ?_
    refine qv m_mv ?_
    refine qv m_neq ?_
    show AWp cx _ _ _
    refine cd (fun hc1 => ?_) (fun hc1 => ?_)
    · try simp at hc1
      refine awp_seq ?_
      refine rg ?_
      refine qv m_mv ?_
      refine qv m_as ?_
      refine qv m_as ?_
      show AWp cx _ _ _
      refine awp_ret ?_
      have hal : allIn l y.steps.length 0 40 = false := by simpa using hc1
      rw [show effR y l = ([], 1) by simp [effR, hv, hal]]
      exact x2 (hr := (rN_)) (hr' := (rI_ (by simp [hal])))
    · try simp at hc1
      refine awp_skip ?_
      show AWp cx _ _ _
      refine awp_seq ?_
      refine rg ?_
      have hal : allIn l y.steps.length 0 40 = true := by simpa using hc1
      have hcb := allIn_mem hal
      have hcl := allIn_len hal
      refine qv (m_fdp fd24_0) ?_
      refine qv (m_ldp sz3 ag3) ?_
      refine qr (m_mkI el25 ze3 sz3 by3) ?_
      refine qv m_as ?_
      show AWp cx _ _ _
      refine awp_seq ?_
      refine awp_seq ?_
      refine rg ?_
      refine qv (m_fdp fd24_1) ?_
      refine qv (m_ldp sz22 ag22) ?_
      refine qv (m_len il22) ?_
      refine qv m_mv ?_
      show AWp cx _ _ _
      refine awp_block ?_
      refine awp_loop (ι := Nat) (fun i => ⟨lk [(1, .dv (ints (l))), (8, .sl 8 0 0 ((effRow y l i 0).length)), (27, .dv (.list ((y.steps).map dStp))), (28, .dv (i64 ((y.steps.length : Int)))), (29, .dv (i64 (i : Nat)))], mkM [(8, 0, some (rowI (effRow y l i 0)))]⟩) (fun i => i ≤ y.steps.length) (fun i => y.steps.length - i) 0 (by simp) (tl [(8, 25)] (hF := by simp [FLe, svLe, lk, mkM, isLive, tauL, effRow_zero, effRow_len]) (hM := by simp [MLe, blkLe, svLe, svLes, lk, mkM, isLive, tauL, svLes_ints, svLes_self, isDvs, isDvs_map, isDvs_app, isDvs_take, isDvs_set, isDvs_repl, effRow_zero, effRow_len])) ?_
      intro i hφ0
      refine awp_seq ?_
      refine rg ?_
      refine qv m_lss ?_
      show AWp cx _ _ _
      refine awp_seq ?_
      refine cd (fun hc2 => ?_) (fun hc2 => ?_)
      · try simp at hc2
        refine awp_skip ?_
        show AWp cx _ _ _
        refine awp_seq ?_
        refine awp_block ?_
        refine awp_seq ?_
        refine rg ?_
        have hin : i < y.steps.length := by omega
        refine qv m_mv ?_
        first | refine qv (m_ixN el22 sz55) ?_ | refine qv (m_ix el22 sz55) ?_
        refine qv (m_lda sz55 ag55) ?_
        refine qp (m_al ze55) ?_
        refine qv m_as ?_
        refine qs (m_st sz55) ?_
        show AWp cx _ _ _
        refine awp_seq ?_
        refine rg ?_
        refine qv m_mv ?_
        refine qv (m_lenR il25) ?_
        refine qv m_mv ?_
        show AWp cx _ _ _
        refine awp_block ?_
        refine awp_loop (ι := Nat) (fun p => ⟨lk [(1, .dv (ints (l))), (8, .sl 8 0 0 ((effRow y l i p).length)), (9, .dv (i64 (i : Nat))), (10, .pt 10 0 0), (27, .dv (.list ((y.steps).map dStp))), (28, .dv (i64 ((y.steps.length : Int)))), (29, .dv (i64 (i : Nat))), (35, .dv (i64 (((effRow y l i 0).length : Nat)))), (36, .dv (i64 (p : Nat)))], mkM [(8, 0, some (rowI (effRow y l i p))), (10, 0, some ⟨[.dv (ints ((y.steps[i]).take)), .dv (ints ((y.steps[i]).give))], 0, 55, 0, false⟩)]⟩) (fun p => p ≤ y.places.toNat) (fun p => y.places.toNat - p) 0 (by simp) (tl [(8, 8), (10, 10)] (hF := by simp [FLe, svLe, lk, mkM, isLive, tauL, effRow_len]) (hM := by simp [MLe, blkLe, svLe, svLes, lk, mkM, isLive, tauL, svLes_ints, svLes_self, isDvs, isDvs_map, isDvs_app, isDvs_take, isDvs_set, isDvs_repl, effRow_len])) ?_
        intro p hφ1
        refine awp_seq ?_
        refine rg ?_
        refine qv m_lss ?_
        show AWp cx _ _ _
        refine awp_seq ?_
        refine cd (fun hc3 => ?_) (fun hc3 => ?_)
        · try simp at hc3
          refine awp_skip ?_
          show AWp cx _ _ _
          refine awp_seq ?_
          refine awp_block ?_
          refine awp_seq ?_
          refine rg ?_
          have hpn : p < y.places.toNat := by rw [effRow_len] at hc3; omega
          obtain ⟨hq1, hq2, b1, b2, b3, b4⟩ := valid_bd hv hin hpn
          have hci : i < l.length := by omega
          have c1 := hcb _ (List.getElem_mem hci)
          have hm := mul_bd (A := 40) (B := 3) (a := l[i]) (b := y.steps[i].give[p] - y.steps[i].take[p]) (by omega) (by omega) (by omega) (by omega)
          have he := effAt_bd hv hcb i p
          have hget := effRow_get (y := y) (c := l) (i := i) hpn
          have hlen := effRow_len (y := y) (c := l) (i := i) (p := p)
          have hset : (effRow y l i p).set p (effAt y l i p + l[i] * (y.steps[i].give[p] - y.steps[i].take[p])) = effRow y l i (p + 1) := by
            rw [← effRow_set hpn]
            have hd := dAt_eq hin hq1 hq2
            have hcd : l.getD i 0 = l[i] := by simp [hci]
            simp only [effAt]
            rw [hd, hcd]
          refine qv m_mv ?_
          refine qv m_as ?_
          show AWp cx _ _ _
          refine rd mixed ?_
          refine zv m_mv ?_
          refine zv m_mv ?_
          refine zv (m_ixR el25 sz3) ?_
          first | refine zv (m_ldI sz3 ag3) ?_ | refine zv (m_ldp sz3 ag3) ?_
          refine zv m_mv ?_
          refine zv m_mv ?_
          first | refine zv (m_ixN el25 sz3) ?_ | refine zv (m_ix el25 sz3) ?_
          refine zv (m_ld sz3 ag3) ?_
          refine zv (m_fdp fd55_1) ?_
          refine zv (m_ldp sz25 ag25) ?_
          refine zv m_mv ?_
          first | refine zv (m_ixN el25 sz3) ?_ | refine zv (m_ix el25 sz3) ?_
          refine zv (m_ld sz3 ag3) ?_
          refine zv (m_fdp fd55_0) ?_
          refine zv (m_ldp sz25 ag25) ?_
          refine zv m_mv ?_
          first | refine zv (m_ixN el25 sz3) ?_ | refine zv (m_ix el25 sz3) ?_
          refine zv (m_ld sz3 ag3) ?_
          refine zv m_sub ?_
          refine zv m_mul ?_
          refine zv m_add ?_
          refine zv (m_ixR el25 sz3) ?_
          first | refine zs (m_stI sz3) ?_ | refine zs (m_st sz3) ?_
          refine ⟨by rfl, ?_⟩
          show AWp cx _ _ _
          refine rg ?_
          refine qv m_add ?_
          refine qv m_mv ?_
          exact ⟨p + 1, hpn, (by simp only; omega), (tl [(8, 8), (10, 10)] (hF := by simp [FLe, svLe, lk, mkM, isLive, tauL, hset, effRow_len]) (hM := by simp [MLe, blkLe, svLe, svLes, lk, mkM, isLive, tauL, svLes_ints, svLes_self, isDvs, isDvs_map, isDvs_app, isDvs_take, isDvs_set, isDvs_repl, hset, effRow_len]))⟩
        · try simp at hc3
          refine awp_exit ?_
          show AWp cx _ _ _
          refine rg ?_
          refine qv m_add ?_
          refine qv m_mv ?_
          have hnx := effRow_next (y := y) (c := l) (i := i) (p := p) (by have := effRow_len (y := y) (c := l) (i := i) (p := 0); omega)
          refine ⟨i + 1, by omega, by simp only; omega, (tl [(8, 8)] (hF := by simp [FLe, svLe, lk, mkM, isLive, tauL, hnx, effRow_len]) (hM := by simp [MLe, blkLe, svLe, svLes, lk, mkM, isLive, tauL, svLes_ints, svLes_self, isDvs, isDvs_map, isDvs_app, isDvs_take, isDvs_set, isDvs_repl, hnx, effRow_len]))⟩
      · try simp at hc2
        refine awp_exit ?_
        show AWp cx _ _ _
        refine awp_seq ?_
        refine rg ?_
        refine qv m_mv ?_
        refine qv m_as ?_
        refine qv m_as ?_
        show AWp cx _ _ _
        refine awp_ret ?_
        obtain rfl : i = y.steps.length := by omega
        rw [show effR y l = (effRow y l y.steps.length 0, 0) by simp [effR, hv, hal]]
        exact x2 (hr := (rR_)) (hr' := (rI_))
theorem f31 (y : Yd) (l : List Int) : ACallsF Try.prog 31 [dYd y, ints l] (.many [rI (effR y l).1, .dv (i64 (effR y l).2)]) := by
  refine callsF_of Try.func31 rfl rfl (by rw [Try.ntmps31]; simp) fun cx hP hn hg => ?_
  rw [Try.ntmps31] at hn
  rw [startF_lk, none_mkM]
  simp only [zipSV, Nat.reduceAdd]
  refine awp_seq ?_
  refine rg ?_
  refine qp m_box ?_
  refine qv m_as ?_
  refine qv m_as ?_
  show AWp cx _ _ _
  refine awp_seq ?_
  refine awp_seq ?_
  refine rg ?_
  refine qv (m_ldpa sz24 ag24) ?_
  refine qqF (f29 y) ?_
  refine qv m_as ?_
  show AWp cx _ _ _
  refine awp_seq ?_
  refine rg ?_
  refine qv m_mv ?_
  refine qv m_neq ?_
  show AWp cx _ _ _
  refine cd (fun hc0 => ?_) (fun hc0 => ?_)
  · try simp at hc0
    refine awp_seq ?_
    refine rg ?_
    refine qv m_mv ?_
    refine qv m_as ?_
    refine qv m_as ?_
    show AWp cx _ _ _
    refine awp_ret ?_
    rw [show effR y l = ([], validate y) by simp [effR, hc0]]
    exact x2 (hr := (rN_)) (hr' := (rI_))
  · try simp at hc0
    refine awp_skip ?_
    show AWp cx _ _ _
    refine awp_seq ?_
    refine awp_seq ?_
    refine rg ?_
    have hv : validate y = 0 := hc0
    obtain ⟨v1, v2, v3, v4⟩ := validate_ok hv
    refine qv m_mv ?_
    refine qv (m_fdp fd24_1) ?_
    refine qv (m_ldp sz22 ag22) ?_
    refine qv (m_len il22) ?_
    refine qqF (f73 l y.steps.length 0 40 (by omega)) ?_
    refine qv m_not ?_
    show AWp cx _ _ _
    refine cd (fun hc1 => ?_) (fun hc1 => ?_)
    · try simp at hc1
      refine awp_seq ?_
      refine rg ?_
      refine qv m_as ?_
      refine qv m_as ?_
      show AWp cx _ _ _
      refine awp_ret ?_
      rw [show effR y l = ([], 1) by simp [effR, hv, hc1]]
      exact x2 (hr := (rN_)) (hr' := (rI_))
    · try simp at hc1
      refine awp_skip ?_
      show AWp cx _ _ _
      refine awp_seq ?_
      refine rg ?_
      have hal : allIn l y.steps.length 0 40 = true := hc1
      have hcb := allIn_mem hal
      have hcl := allIn_len hal
      refine qv (m_fdp fd24_0) ?_
      refine qv (m_ldp sz3 ag3) ?_
      refine qr (m_mkI el25 ze3 sz3 by3) ?_
      refine qv m_as ?_
      show AWp cx _ _ _
      refine awp_seq ?_
      refine awp_seq ?_
      refine rg ?_
      refine qv m_as ?_
      show AWp cx _ _ _
      refine awp_block ?_
      refine awp_loop (ι := Nat) (fun i => ⟨lk [(1, .dv (ints (l))), (2, .pt 2 0 0), (7, .sl 7 0 0 ((effRow y l i 0).length)), (8, .dv (i64 (i : Nat)))], mkM [(2, 0, some ⟨[.dv (i64 (y.places)), .dv (.list ((y.steps).map dStp))], 0, 24, 0, false⟩), (7, 0, some (rowI (effRow y l i 0)))]⟩) (fun i => i ≤ y.steps.length) (fun i => y.steps.length - i) 0 (by simp) (tl [(2, 2), (7, 23)] (hF := by simp [FLe, svLe, lk, mkM, isLive, tauL, effRow_zero, effRow_len]) (hM := by simp [MLe, blkLe, svLe, svLes, lk, mkM, isLive, tauL, svLes_ints, svLes_self, isDvs, isDvs_map, isDvs_app, isDvs_take, isDvs_set, isDvs_repl, effRow_zero, effRow_len])) ?_
      intro i hφ0
      refine awp_seq ?_
      refine awp_seq ?_
      refine rg ?_
      refine qv m_mv ?_
      refine qv m_mv ?_
      refine qv (m_len il25) ?_
      refine qv m_lss ?_
      show AWp cx _ _ _
      refine cd (fun hc2 => ?_) (fun hc2 => ?_)
      · try simp at hc2
        refine awp_skip ?_
        show AWp cx _ _ _
        refine awp_seq ?_
        refine awp_block ?_
        refine awp_seq ?_
        refine rg ?_
        refine qv m_as ?_
        show AWp cx _ _ _
        refine awp_block ?_
        refine awp_loop (ι := Nat) (fun p => ⟨lk [(1, .dv (ints (l))), (2, .pt 2 0 0), (7, .sl 7 0 0 ((effRow y l i p).length)), (8, .dv (i64 (i : Nat))), (9, .dv (i64 (p : Nat)))], mkM [(2, 0, some ⟨[.dv (i64 (y.places)), .dv (.list ((y.steps).map dStp))], 0, 24, 0, false⟩), (7, 0, some (rowI (effRow y l i p)))]⟩) (fun p => p ≤ y.places.toNat) (fun p => y.places.toNat - p) 0 (by simp) (tl [(2, 2), (7, 7)] (hF := by simp [FLe, svLe, lk, mkM, isLive, tauL, effRow_len]) (hM := by simp [MLe, blkLe, svLe, svLes, lk, mkM, isLive, tauL, svLes_ints, svLes_self, isDvs, isDvs_map, isDvs_app, isDvs_take, isDvs_set, isDvs_repl, effRow_len])) ?_
        intro p hφ1
        refine awp_seq ?_
        refine awp_seq ?_
        refine rg ?_
        refine qv m_mv ?_
        refine qv (m_fdp fd24_0) ?_
        refine qv (m_ldp sz3 ag3) ?_
        refine qv m_lss ?_
        show AWp cx _ _ _
        refine cd (fun hc3 => ?_) (fun hc3 => ?_)
        · try simp at hc3
          refine awp_skip ?_
          show AWp cx _ _ _
          refine awp_seq ?_
          refine awp_block ?_
          refine rd mixed ?_
          have hin : i < y.steps.length := by omega
          have hpn : p < y.places.toNat := by omega
          obtain ⟨hq1, hq2, b1, b2, b3, b4⟩ := valid_bd hv hin hpn
          have hci : i < l.length := by omega
          have c1 := hcb _ (List.getElem_mem hci)
          have hm := mul_bd (A := 40) (B := 3) (a := l[i]) (b := y.steps[i].give[p] - y.steps[i].take[p]) (by omega) (by omega) (by omega) (by omega)
          have he := effAt_bd hv hcb i p
          have hget := effRow_get (y := y) (c := l) (i := i) hpn
          have hlen := effRow_len (y := y) (c := l) (i := i) (p := p)
          have hset : (effRow y l i p).set p (effAt y l i p + l[i] * (y.steps[i].give[p] - y.steps[i].take[p])) = effRow y l i (p + 1) := by
            rw [← effRow_set hpn]
            have hd := dAt_eq hin hq1 hq2
            have hcd : l.getD i 0 = l[i] := by simp [hci]
            simp only [effAt]
            rw [hd, hcd]
          refine zv m_mv ?_
          refine zv m_mv ?_
          refine zv (m_ixR el25 sz3) ?_
          first | refine zv (m_ldI sz3 ag3) ?_ | refine zv (m_ldp sz3 ag3) ?_
          refine zv m_mv ?_
          refine zv m_mv ?_
          first | refine zv (m_ixN el25 sz3) ?_ | refine zv (m_ix el25 sz3) ?_
          refine zv (m_ld sz3 ag3) ?_
          refine zv (m_fdp fd24_1) ?_
          refine zv (m_ldp sz22 ag22) ?_
          refine zv m_mv ?_
          first | refine zv (m_ixN el22 sz55) ?_ | refine zv (m_ix el22 sz55) ?_
          refine zv (m_fd fd55_1) ?_
          refine zv (m_ld sz25 ag25) ?_
          refine zv m_mv ?_
          first | refine zv (m_ixN el25 sz3) ?_ | refine zv (m_ix el25 sz3) ?_
          refine zv (m_ld sz3 ag3) ?_
          refine zv (m_fdp fd24_1) ?_
          refine zv (m_ldp sz22 ag22) ?_
          refine zv m_mv ?_
          first | refine zv (m_ixN el22 sz55) ?_ | refine zv (m_ix el22 sz55) ?_
          refine zv (m_fd fd55_0) ?_
          refine zv (m_ld sz25 ag25) ?_
          refine zv m_mv ?_
          first | refine zv (m_ixN el25 sz3) ?_ | refine zv (m_ix el25 sz3) ?_
          refine zv (m_ld sz3 ag3) ?_
          refine zv m_sub ?_
          refine zv m_mul ?_
          refine zv m_add ?_
          refine zv (m_ixR el25 sz3) ?_
          first | refine zs (m_stI sz3) ?_ | refine zs (m_st sz3) ?_
          refine ⟨by rfl, ?_⟩
          show AWp cx _ _ _
          refine rg ?_
          refine qv m_mv ?_
          refine qv m_add ?_
          refine qv m_as ?_
          exact ⟨p + 1, hpn, (by simp only; omega), (tl [(2, 2), (7, 7)] (hF := by simp [FLe, svLe, lk, mkM, isLive, tauL, hset, effRow_len]) (hM := by simp [MLe, blkLe, svLe, svLes, lk, mkM, isLive, tauL, svLes_ints, svLes_self, isDvs, isDvs_map, isDvs_app, isDvs_take, isDvs_set, isDvs_repl, hset, effRow_len]))⟩
        · try simp at hc3
          refine awp_exit ?_
          show AWp cx _ _ _
          refine rg ?_
          refine qv m_mv ?_
          refine qv m_add ?_
          refine qv m_as ?_
          have hnx := effRow_next (y := y) (c := l) (i := i) (p := p) (by have := effRow_len (y := y) (c := l) (i := i) (p := 0); omega)
          refine ⟨i + 1, by omega, by simp only; omega, (tl [(2, 2), (7, 7)] (hF := by simp [FLe, svLe, lk, mkM, isLive, tauL, hnx, effRow_len]) (hM := by simp [MLe, blkLe, svLe, svLes, lk, mkM, isLive, tauL, svLes_ints, svLes_self, isDvs, isDvs_map, isDvs_app, isDvs_take, isDvs_set, isDvs_repl, hnx, effRow_len]))⟩
      · try simp at hc2
        refine awp_exit ?_
        show AWp cx _ _ _
        refine awp_seq ?_
        refine rg ?_
        refine qv m_mv ?_
        refine qv m_as ?_
        refine qv m_as ?_
        show AWp cx _ _ _
        refine awp_ret ?_
        obtain rfl : i = y.steps.length := by omega
        rw [show effR y l = (effRow y l y.steps.length 0, 0) by simp [effR, hv, hal]]
        exact x2 (hr := (rR_)) (hr' := (rI_))
theorem cntRow_len {n : Nat} {l : List Int} : (cntRow n l).length = n := by simp [cntRow]
theorem f32 (y : Yd) (l : List Int) : ACallsF Try.prog 32 [dYd y, ints l] (.many [rI (cntR y l).1, .dv (i64 (cntR y l).2)]) := by
  refine callsF_of Try.func32 rfl rfl (by rw [Try.ntmps32]; simp) fun cx hP hn hg => ?_
  rw [Try.ntmps32] at hn
  rw [startF_lk, none_mkM]
  simp only [zipSV, Nat.reduceAdd]
  refine awp_seq ?_
  refine rg ?_
  refine qp m_box ?_
  refine qv m_as ?_
  refine qv m_as ?_
  show AWp cx _ _ _
  refine awp_seq ?_
  refine awp_seq ?_
  refine rg ?_
  refine qv (m_ldpa sz24 ag24) ?_
  refine qqF (f28 y) ?_
  refine qv m_as ?_
  show AWp cx _ _ _
  refine awp_seq ?_
  refine rg ?_
  refine qv m_mv ?_
  refine qv m_neq ?_
  show AWp cx _ _ _
  refine cd (fun hc0 => ?_) (fun hc0 => ?_)
  · try simp at hc0
    refine awp_seq ?_
    refine rg ?_
    refine qv m_mv ?_
    refine qv m_as ?_
    refine qv m_as ?_
    show AWp cx _ _ _
    refine awp_ret ?_
    rw [show cntR y l = ([], validate y) by simp [cntR, hc0]]
    exact x2 (hr := (rN_)) (hr' := (rI_))
  · try simp at hc0
    refine awp_skip ?_
    show AWp cx _ _ _
    refine awp_seq ?_
    refine awp_seq ?_
    refine rg ?_
    have hv : validate y = 0 := hc0
    obtain ⟨v1, v2, v3, v4⟩ := validate_ok hv
    refine qv (m_ldpa sz24 ag24) ?_
    refine qv m_mv ?_
    refine qqF (f58 y l (by omega)) ?_
    refine qv m_as ?_
    show AWp cx _ _ _
    refine awp_seq ?_
    refine rg ?_
    refine qv m_mv ?_
    refine qv m_neq ?_
    show AWp cx _ _ _
    refine cd (fun hc1 => ?_) (fun hc1 => ?_)
    · try simp at hc1
      refine awp_seq ?_
      refine rg ?_
      refine qv m_mv ?_
      refine qv m_as ?_
      refine qv m_as ?_
      show AWp cx _ _ _
      refine awp_ret ?_
      rw [show cntR y l = ([], listedE y l) by simp [cntR, hv, hc1]]
      exact x2 (hr := (rN_)) (hr' := (rI_))
    · try simp at hc1
      refine awp_skip ?_
      show AWp cx _ _ _
      refine awp_seq ?_
      refine rg ?_
      obtain ⟨hl40, hls⟩ := listed_ok hc1
      refine qv (m_fdp fd24_1) ?_
      refine qv (m_ldp sz22 ag22) ?_
      refine qv (m_len il22) ?_
      refine qr (m_mkI el25 ze3 sz3 by3) ?_
      refine qv m_as ?_
      show AWp cx _ _ _
      refine awp_seq ?_
      refine awp_seq ?_
      refine rg ?_
      refine qv m_mv ?_
      refine qv (m_len il25) ?_
      refine qv m_mv ?_
      show AWp cx _ _ _
      refine awp_block ?_
      refine awp_loop (ι := Nat) (fun i => ⟨lk [(8, .sl 8 0 0 ((cntRow y.steps.length (l.take i)).length)), (26, .dv (ints (l))), (27, .dv (i64 ((l.length : Int)))), (28, .dv (i64 (i : Nat)))], mkM [(8, 0, some (rowI (cntRow y.steps.length (l.take i))))]⟩) (fun i => i ≤ l.length) (fun i => l.length - i) 0 (by simp) (tl [(8, 25)] (hF := by simp [FLe, svLe, lk, mkM, isLive, tauL, cntRow_zero, cntRow_len]) (hM := by simp [MLe, blkLe, svLe, svLes, lk, mkM, isLive, tauL, svLes_ints, svLes_self, isDvs, isDvs_map, isDvs_app, isDvs_take, isDvs_set, isDvs_repl, cntRow_zero, cntRow_len])) ?_
      intro i hφ0
      refine awp_seq ?_
      refine rg ?_
      refine qv m_lss ?_
      show AWp cx _ _ _
      refine awp_seq ?_
      refine cd (fun hc2 => ?_) (fun hc2 => ?_)
      · try simp at hc2
        refine awp_skip ?_
        show AWp cx _ _ _
        refine awp_seq ?_
        refine awp_block ?_
        refine awp_seq ?_
        refine rg ?_
        have hin : i < l.length := by omega
        obtain ⟨l0, l1⟩ := hls _ (List.getElem_mem hin)
        have hq : l[i].toNat < y.steps.length := by omega
        have hget := cntRow_get (n := y.steps.length) (l := l.take i) hq
        have hcl := cntRow_len (n := y.steps.length) (l := l.take i)
        have hcb := cntAt_bd (l.take i) l[i].toNat
        have hlt : (l.take i).length ≤ l.length := List.length_take_le' _ _
        have hset := cntRow_set hin l0 l1
        first | refine qv (m_ixN el25 sz3) ?_ | refine qv (m_ix el25 sz3) ?_
        refine qv (m_ld sz3 ag3) ?_
        refine qv m_as ?_
        show AWp cx _ _ _
        refine rg ?_
        refine qv m_mv ?_
        refine qv m_mv ?_
        refine qv (m_ixR el25 sz3) ?_
        first | refine qv (m_ldI sz3 ag3) ?_ | refine qv (m_ldp sz3 ag3) ?_
        refine qv m_add ?_
        refine qv (m_ixR el25 sz3) ?_
        first | refine qs (m_stI sz3) ?_ | refine qs (m_st sz3) ?_
        show AWp cx _ _ _
        refine rg ?_
        refine qv m_add ?_
        refine qv m_mv ?_
        exact ⟨i + 1, hin, (by simp only; omega), (tl [(8, 8)] (hF := by simp [FLe, svLe, lk, mkM, isLive, tauL, cntRow_len, hset]) (hM := by simp [MLe, blkLe, svLe, svLes, lk, mkM, isLive, tauL, svLes_ints, svLes_self, isDvs, isDvs_map, isDvs_app, isDvs_take, isDvs_set, isDvs_repl, cntRow_len, hset]))⟩
      · try simp at hc2
        refine awp_exit ?_
        show AWp cx _ _ _
        refine awp_seq ?_
        refine rg ?_
        refine qv m_mv ?_
        refine qv m_as ?_
        refine qv m_as ?_
        show AWp cx _ _ _
        refine awp_ret ?_
        obtain rfl : i = l.length := by omega
        rw [List.take_length]
        rw [show cntR y l = (cntRow y.steps.length l, 0) by simp [cntR, hv, hc1]]
        exact x2 (hr := (rR_)) (hr' := (rI_))
theorem f33 (y : Yd) (l : List Int) : ACallsF Try.prog 33 [dYd y, ints l] (.many [rI (cntR y l).1, .dv (i64 (cntR y l).2)]) := by
  refine callsF_of Try.func33 rfl rfl (by rw [Try.ntmps33]; simp) fun cx hP hn hg => ?_
  rw [Try.ntmps33] at hn
  rw [startF_lk, none_mkM]
  simp only [zipSV, Nat.reduceAdd]
  refine awp_seq ?_
  refine rg ?_
  refine qp m_box ?_
  refine qv m_as ?_
  refine qv m_as ?_
  show AWp cx _ _ _
  refine awp_seq ?_
  refine awp_seq ?_
  refine rg ?_
  refine qv (m_ldpa sz24 ag24) ?_
  refine qqF (f29 y) ?_
  refine qv m_as ?_
  show AWp cx _ _ _
  refine awp_seq ?_
  refine rg ?_
  refine qv m_mv ?_
  refine qv m_neq ?_
  show AWp cx _ _ _
  refine cd (fun hc0 => ?_) (fun hc0 => ?_)
  · try simp at hc0
    refine awp_seq ?_
    refine rg ?_
    refine qv m_mv ?_
    refine qv m_as ?_
    refine qv m_as ?_
    show AWp cx _ _ _
    refine awp_ret ?_
    rw [show cntR y l = ([], validate y) by simp [cntR, hc0]]
    exact x2 (hr := (rN_)) (hr' := (rI_))
  · try simp at hc0
    refine awp_skip ?_
    show AWp cx _ _ _
    refine awp_seq ?_
    refine awp_seq ?_
    refine rg ?_
    have hv : validate y = 0 := hc0
    obtain ⟨v1, v2, v3, v4⟩ := validate_ok hv
    refine qv (m_ldpa sz24 ag24) ?_
    refine qv m_mv ?_
    refine qqF (f61 y l (by omega)) ?_
    refine qv m_as ?_
    show AWp cx _ _ _
    refine awp_seq ?_
    refine rg ?_
    refine qv m_mv ?_
    refine qv m_neq ?_
    show AWp cx _ _ _
    refine cd (fun hc1 => ?_) (fun hc1 => ?_)
    · try simp at hc1
      refine awp_seq ?_
      refine rg ?_
      refine qv m_mv ?_
      refine qv m_as ?_
      refine qv m_as ?_
      show AWp cx _ _ _
      refine awp_ret ?_
      rw [show cntR y l = ([], listedE y l) by simp [cntR, hv, hc1]]
      exact x2 (hr := (rN_)) (hr' := (rI_))
    · try simp at hc1
      refine awp_skip ?_
      show AWp cx _ _ _
      refine awp_seq ?_
      refine rg ?_
      obtain ⟨hl40, hls⟩ := listed_ok hc1
      refine qv (m_fdp fd24_1) ?_
      refine qv (m_ldp sz22 ag22) ?_
      refine qv (m_len il22) ?_
      refine qr (m_mkI el25 ze3 sz3 by3) ?_
      refine qv m_as ?_
      show AWp cx _ _ _
      refine awp_seq ?_
      refine awp_seq ?_
      refine rg ?_
      refine qv m_as ?_
      show AWp cx _ _ _
      refine awp_block ?_
      refine awp_loop (ι := Nat) (fun i => ⟨lk [(1, .dv (ints (l))), (8, .sl 8 0 0 ((cntRow y.steps.length (l.take i)).length)), (9, .dv (i64 (i : Nat)))], mkM [(8, 0, some (rowI (cntRow y.steps.length (l.take i))))]⟩) (fun i => i ≤ l.length) (fun i => l.length - i) 0 (by simp) (tl [(8, 24)] (hF := by simp [FLe, svLe, lk, mkM, isLive, tauL, cntRow_zero, cntRow_len]) (hM := by simp [MLe, blkLe, svLe, svLes, lk, mkM, isLive, tauL, svLes_ints, svLes_self, isDvs, isDvs_map, isDvs_app, isDvs_take, isDvs_set, isDvs_repl, cntRow_zero, cntRow_len])) ?_
      intro i hφ0
      refine awp_seq ?_
      refine awp_seq ?_
      refine rg ?_
      refine qv m_mv ?_
      refine qv m_mv ?_
      refine qv (m_len il25) ?_
      refine qv m_lss ?_
      show AWp cx _ _ _
      refine cd (fun hc2 => ?_) (fun hc2 => ?_)
      · try simp at hc2
        refine awp_skip ?_
        show AWp cx _ _ _
        refine awp_seq ?_
        refine awp_block ?_
        refine rg ?_
        have hin : i < l.length := by omega
        obtain ⟨l0, l1⟩ := hls _ (List.getElem_mem hin)
        have hq : l[i].toNat < y.steps.length := by omega
        have hget := cntRow_get (n := y.steps.length) (l := l.take i) hq
        have hcl := cntRow_len (n := y.steps.length) (l := l.take i)
        have hcb := cntAt_bd (l.take i) l[i].toNat
        have hlt : (l.take i).length ≤ l.length := List.length_take_le' _ _
        have hset := cntRow_set hin l0 l1
        refine qv m_mv ?_
        refine qv m_mv ?_
        refine qv m_mv ?_
        first | refine qv (m_ixN el25 sz3) ?_ | refine qv (m_ix el25 sz3) ?_
        refine qv (m_ld sz3 ag3) ?_
        refine qv (m_ixR el25 sz3) ?_
        first | refine qv (m_ldI sz3 ag3) ?_ | refine qv (m_ldp sz3 ag3) ?_
        refine qv m_add ?_
        refine qv (m_ixR el25 sz3) ?_
        first | refine qs (m_stI sz3) ?_ | refine qs (m_st sz3) ?_
        show AWp cx _ _ _
        refine rg ?_
        refine qv m_mv ?_
        refine qv m_add ?_
        refine qv m_as ?_
        exact ⟨i + 1, hin, (by simp only; omega), (tl [(8, 8)] (hF := by simp [FLe, svLe, lk, mkM, isLive, tauL, cntRow_len, hset]) (hM := by simp [MLe, blkLe, svLe, svLes, lk, mkM, isLive, tauL, svLes_ints, svLes_self, isDvs, isDvs_map, isDvs_app, isDvs_take, isDvs_set, isDvs_repl, cntRow_len, hset]))⟩
      · try simp at hc2
        refine awp_exit ?_
        show AWp cx _ _ _
        refine awp_seq ?_
        refine rg ?_
        refine qv m_mv ?_
        refine qv m_as ?_
        refine qv m_as ?_
        show AWp cx _ _ _
        refine awp_ret ?_
        obtain rfl : i = l.length := by omega
        rw [List.take_length]
        rw [show cntR y l = (cntRow y.steps.length l, 0) by simp [cntR, hv, hc1]]
        exact x2 (hr := (rR_)) (hr' := (rI_))
theorem f6 (y : Yd) (c l : List Int) : ACallsF Try.prog 6 [dYd y, ints c, ints l] (.one (.dv (.bool true))) := by
  refine callsF_of Try.func6 rfl rfl (by rw [Try.ntmps6]; simp) fun cx hP hn hg => ?_
  rw [Try.ntmps6] at hn
  rw [startF_lk, none_mkM]
  simp only [zipSV, Nat.reduceAdd]
  refine awp_seq ?_
  refine rg ?_
  refine qp m_box ?_
  refine qv m_as ?_
  show AWp cx _ _ _
  refine awp_seq ?_
  refine awp_seq ?_
  refine rg ?_
  refine qv (m_ldpa sz24 ag24) ?_
  refine qqF (f16 y) ?_
  refine qx m_mv (fun hg17 => ?_) (fun hg17 => ?_)
  · try simp at hg17
    refine qk ?_
    refine qk ?_
    refine qv m_pk ?_
    refine qv m_mv ?_
    refine qk ?_
    refine qk ?_
    refine qv m_pk ?_
    show AWp cx _ _ _
    refine cdT (hb := by first | rfl | simp | simp_all) (ht := ?_)
    refine awp_seq ?_
    refine rg ?_
    refine qqF (f18) ?_
    refine qv m_as ?_
    show AWp cx _ _ _
    refine awp_ret ?_
    exact x1 (hr := (rB_))
  · try simp at hg17
    refine qv m_mv ?_
    refine qqF (f17 c) ?_
    refine qv m_pk ?_
    refine qx m_mv (fun hg21 => ?_) (fun hg21 => ?_)
    · try simp at hg21
      refine qk ?_
      refine qk ?_
      refine qv m_pk ?_
      show AWp cx _ _ _
      refine cdT (hb := by first | rfl | simp | simp_all) (ht := ?_)
      refine awp_seq ?_
      refine rg ?_
      refine qqF (f18) ?_
      refine qv m_as ?_
      show AWp cx _ _ _
      refine awp_ret ?_
      exact x1 (hr := (rB_))
    · try simp at hg21
      refine qv m_mv ?_
      refine qqF (f17 l) ?_
      refine qv m_pk ?_
      show AWp cx _ _ _
      refine cd (fun hc0 => ?_) (fun hc0 => ?_)
      · try simp at hc0
        refine awp_seq ?_
        refine rg ?_
        refine qqF (f18) ?_
        refine qv m_as ?_
        show AWp cx _ _ _
        refine awp_ret ?_
        exact x1 (hr := (rB_))
      · try simp at hc0
        refine awp_skip ?_
        show AWp cx _ _ _
        refine awp_seq ?_
        refine rg ?_
        refine qv (m_ldpa sz24 ag24) ?_
        refine qv m_mv ?_
        refine qqF (f30 y c) ?_
        refine qv m_mv ?_
        refine qv m_ext ?_
        refine qv m_ext ?_
        refine qv m_as ?_
        refine qv m_as ?_
        show AWp cx _ _ _
        refine awp_seq ?_
        refine rg ?_
        refine qv (m_ldpa sz24 ag24) ?_
        refine qv m_mv ?_
        refine qqF (f31 y c) ?_
        refine qv m_mv ?_
        refine qv m_ext ?_
        refine qv m_ext ?_
        refine qv m_as ?_
        refine qv m_as ?_
        show AWp cx _ _ _
        refine awp_seq ?_
        refine rg ?_
        refine qv (m_ldpa sz24 ag24) ?_
        refine qv m_mv ?_
        refine qqF (f32 y l) ?_
        refine qv m_mv ?_
        refine qv m_ext ?_
        refine qv m_ext ?_
        refine qv m_as ?_
        refine qv m_as ?_
        show AWp cx _ _ _
        refine awp_seq ?_
        refine rg ?_
        refine qv (m_ldpa sz24 ag24) ?_
        refine qv m_mv ?_
        refine qqF (f33 y l) ?_
        refine qv m_mv ?_
        refine qv m_ext ?_
        refine qv m_ext ?_
        refine qv m_as ?_
        refine qv m_as ?_
        show AWp cx _ _ _
        refine awp_seq ?_
        refine rg ?_
        refine qv m_mv ?_
        refine qv m_mv ?_
        refine qqF (f21 (effR y c).1 (effR y c).1 effR_len) ?_
        refine qx m_mv (fun hg53 => ?_) (fun hg53 => ?_)
        rotate_left
        · exact absurd hg53 (by simp)
        refine qv m_mv ?_
        refine qv m_mv ?_
        refine qv m_eql ?_
        refine qv m_pk ?_
        refine qx m_mv (fun hg58 => ?_) (fun hg58 => ?_)
        rotate_left
        · exact absurd hg58 (by simp)
        refine qv m_mv ?_
        refine qv m_mv ?_
        refine qqF (f21 (cntR y l).1 (cntR y l).1 cntR_len) ?_
        refine qv m_pk ?_
        refine qx m_mv (fun hg63 => ?_) (fun hg63 => ?_)
        rotate_left
        · exact absurd hg63 (by simp)
        refine qv m_mv ?_
        refine qv m_mv ?_
        refine qv m_eql ?_
        refine qv m_pk ?_
        refine qx m_mv (fun hg68 => ?_) (fun hg68 => ?_)
        rotate_left
        · exact absurd hg68 (by simp)
        refine qqF (f18) ?_
        refine qv m_pk ?_
        refine qv m_as ?_
        show AWp cx _ _ _
        refine awp_ret ?_
        exact x1 (hr := (rB_))
end Go.Ab.Try
