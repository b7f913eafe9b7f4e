/- Dry38, Dry39. -/
import Derived.Test.YtjlfgobbieljoaaBogG37
set_option linter.all false
set_option linter.all false
namespace Go.Ab.Try
open Go Go.Ab Go.Proofs
open Go.Ab.Rank
def tauN (τ : List (Nat × Nat)) (i t : Nat) : Option Nat := if t < 1000 then tauL τ t else if t = 1000 + i then some 8 else if t < 1000 + i then some t else none
theorem tauN_inj {τ : List (Nat × Nat)} {i : Nat} (h : (τ.map (·.2)).Nodup) (h2 : ∀ p ∈ τ, p.2 < 1000 ∧ p.2 ≠ 8) : ∀ t1 t2 t, tauN τ i t1 = some t → tauN τ i t2 = some t → t1 = t2 := by
  intro t1 t2 t e1 e2
  have key : ∀ t1, tauN τ i t1 = some t → (t1 = 1000 + i ∧ t = 8) ∨ (t = t1 ∧ 1000 ≤ t ∧ t < 1000 + i) ∨ (t < 1000 ∧ t ≠ 8 ∧ tauL τ t1 = some t) := by
    intro t1 e
    unfold tauN at e
    split at e
    · exact .inr (.inr ⟨(h2 _ (tauL_mem e)).1, (h2 _ (tauL_mem e)).2, e⟩)
    · split at e
      · rename_i h1; have e := Option.some.inj e; exact .inl ⟨h1, e.symm⟩
      · split at e
        · have e := Option.some.inj e; exact .inr (.inl (by omega))
        · cases e
  rcases key t1 e1 with a | a | a <;> rcases key t2 e2 with b | b | b <;> first | omega | exact tauL_inj h _ _ _ a.2.2 b.2.2
theorem tauN_lo {τ : List (Nat × Nat)} {i j : Nat} (h : j < i) : tauN τ i (1000 + j) = some (1000 + j) := by unfold tauN; rw [if_neg (by omega), if_neg (by omega), if_pos (by omega)]
theorem tauN_at {τ : List (Nat × Nat)} {i : Nat} : tauN τ i (1000 + i) = some 8 := by unfold tauN; rw [if_neg (by omega), if_pos rfl]
theorem out_snoc {τ : List (Nat × Nat)} {i P : Nat} {W V : Go.Ab.Heap.Mat} {M N : Nat → Nat × Option Blk} (hM : Hi M i (Lw W P)) (h8 : isLive M 8 0) (hN : Hi N (i + 1) (Lw V P)) : svLes (tauN τ i) M N (outC (i + 1) tg0 P) (outC i tg0 P ++ [.sl 8 0 0 P]) :=
  out_le (by simp [outC]) fun k hk => by
    rcases Nat.lt_or_ge k i with h | h
    · refine ⟨_, _, by rw [List.getElem?_append_left (by rw [outC_len]; exact h), outC_at h], tauN_lo h, hM.live h rfl, hN.live hk rfl⟩
    · obtain rfl : k = i := by omega
      refine ⟨8, 0, by rw [List.getElem?_append_right (by rw [outC_len]; exact Nat.le_refl _), outC_len, Nat.sub_self]; rfl, tauN_at, h8, hN.live hk rfl⟩
theorem gl_bd {w : Nat → Int} {B : Nat} : ∀ {k : Nat}, (∀ l, l < k → (w l).natAbs ≤ B) → gl w k ≤ B
  | 0, _ => Nat.zero_le _
  | k + 1, h => by
    rw [gl_succ]
    rcases Nat.eq_zero_or_pos (w k).natAbs with h0 | h0
    · rw [h0, Nat.gcd_zero_right]; exact gl_bd fun l hl => h l (by omega)
    · exact Nat.le_trans (Nat.gcd_le_right _ h0) (h k (by omega))
theorem f91g {w : Nat → Int} {c : Nat} (h : ∀ l, l < c + 1 → (w l).natAbs ≤ 1000000000000) : ACallsF Try.prog 91 [i64 (gl w c : Nat), i64 (w c)] (.one (.dv (i64 (gl w (c + 1) : Nat)))) := by
  have h1 := gl_bd (w := w) (k := c) (B := 1000000000000) fun l hl => h l (by omega)
  have h2 := h c (by omega)
  have := f91 (gl w c : Nat) (w c) (by omega) (by omega)
  rw [Int.natAbs_natCast] at this
  exact this
set_option maxHeartbeats 16000000 in
set_option maxRecDepth 4000 in
theorem f46 (y : Yd) : ACallsF Try.prog 46 [dYd y] (.many [.dv (i64 (spaceR y).1), .dv (i64 (spaceR y).2)]) := by
  refine callsF_of Try.func46 rfl rfl (by rw [Try.ntmps46]; simp) fun cx hP hn hg => ?_
  rw [Try.ntmps46] at hn
  rw [startF_lk, none_mkM]
  simp only [List.nil_append, List.append_nil, List.cons_append, zipSV, Nat.reduceAdd]
  refine awp_seq ?_
  refine rg ?_
  refine qp m_box ?_
  refine qv m_as ?_
  refine qv m_as ?_
  show AWp cx _ _ _
  refine awp_seq ?_
  refine awp_seq ?_
  refine rg ?_
  refine qv (m_ldpa sz24 ag24) ?_
  refine qqF (f28 y) ?_
  refine qv m_as ?_
  show AWp cx _ _ _
  refine awp_seq ?_
  refine rg ?_
  refine qv m_mv ?_
  refine qv m_neq ?_
  show AWp cx _ _ _
  refine cd (fun hc0 => ?_) (fun hc0 => ?_)
  · skip
    have h0 : validate y ≠ 0 := by simpa using hc0
    refine awp_seq ?_
    refine rg ?_
    refine qv m_mv ?_
    refine qv m_as ?_
    refine qv m_as ?_
    show AWp cx _ _ _
    refine awp_ret ?_
    rw [show spaceR y = (0, validate y) by simp [spaceR, h0]]
    exact x2 (hr := (rI_)) (hr' := (rI_))
  · skip
    have h0 : validate y = 0 := by simpa using hc0
    obtain ⟨v1, v2, v3, v4⟩ := validate_ok h0
    have htn := tbl_len (y := y)
    refine awp_skip ?_
    show AWp cx _ _ _
    refine awp_seq ?_
    refine rg ?_
    refine qv m_as ?_
    show AWp cx _ _ _
    refine awp_seq ?_
    refine awp_seq ?_
    refine rg ?_
    refine qv (m_fdp fd24_1) ?_
    refine qv (m_ldp sz22 ag22) ?_
    refine qv (m_len il22) ?_
    refine qv m_mv ?_
    show AWp cx _ _ _
    refine awp_block ?_
    refine awp_loop (ι := Nat) (fun i => ⟨lk [(1, .pt 1 0 0), (5, .sl 5 0 0 i), (26, .dv (.list ((y.steps).map dStp))), (27, .dv (i64 ((y.steps.length : Int)))), (28, .dv (i64 (i : Nat)))], mkM ((1, 0, some ⟨[.dv (i64 (y.places)), .dv (.list ((y.steps).map dStp))], 0, 24, 0, false⟩) :: (5, 0, some (outB i tg0 y.places.toNat)) :: (7, 0, none) :: (8, 0, none) :: (49, 0, none) :: (50, 0, none) :: (54, 0, none) :: (55, 0, none) :: famI i (Lw (mq (tbl y)) y.places.toNat))⟩) (fun i => i ≤ y.steps.length) (fun i => y.steps.length - i) 0 (by simp) (tlI (n := 0) (L := Lw (mq (tbl y)) y.places.toNat) [(1, 1)] [(1, 0, some ⟨[.dv (i64 (y.places)), .dv (.list ((y.steps).map dStp))], 0, 24, 0, false⟩), (5, 0, some (outB 0 tg0 y.places.toNat)), (7, 0, none), (8, 0, none), (49, 0, none), (50, 0, none), (54, 0, none), (55, 0, none)] Hi.nil (hF := by simp [FLe, svLe, lk, mkM, isLive, tauL, tauF, tauN, tauT, tauG, tauS]) (hM := by simp [MLe, blkLe, svLe, svLes, lk, mkM, isLive, tauL, tauF, tauN, tauT, tauG, tauS, svLes_ints, svLes_self, isDvs, isDvs_map, isDvs_app, isDvs_take, isDvs_set, isDvs_repl, outC])) ?_
    intro i hφ0
    refine awp_seq ?_
    refine rg ?_
    refine qv m_lss ?_
    show AWp cx _ _ _
    refine awp_seq ?_
    refine cd (fun hc1 => ?_) (fun hc1 => ?_)
    · try simp at hc1
      have hin : i < y.steps.length := by omega
      obtain ⟨s, hgs⟩ : ∃ s, y.steps[i]? = some s := ⟨_, List.getElem?_eq_getElem hin⟩
      obtain ⟨ht, hg1, hb3⟩ := stp_bd h0 (List.mem_of_getElem? hgs)
      refine awp_skip ?_
      show AWp cx _ _ _
      refine awp_seq ?_
      refine awp_block ?_
      refine awp_seq ?_
      refine rg ?_
      first | refine qv (m_ixN el22 sz55) ?_ | refine qv (m_ix el22 sz55) ?_
      refine qv (m_lda sz55 ag55) ?_
      refine qp (m_al ze55) ?_
      refine qs (m_st sz55) ?_ (hv := by simp only [nvL, killV, famI_nv] <;> rfl)
      show AWp cx _ _ _
      refine awp_seq ?_
      refine rg ?_
      refine qv m_as ?_
      show AWp cx _ _ _
      refine awp_seq ?_
      refine awp_seq ?_
      refine rg ?_
      refine qv (m_fdp fd24_0) ?_
      refine qv (m_ldp sz3 ag3) ?_
      refine qv m_mv ?_
      show AWp cx _ _ _
      refine awp_block ?_
      refine awp_loop (ι := Nat) (fun j => ⟨lk [(1, .pt 1 0 0), (5, .sl 5 0 0 i), (7, .pt 7 0 0), (8, .sl 8 0 0 j), (26, .dv (.list ((y.steps).map dStp))), (27, .dv (i64 ((y.steps.length : Int)))), (28, .dv (i64 (i : Nat))), (33, .dv (i64 (y.places))), (34, .dv (i64 (j : Nat)))], mkM ((1, 0, some ⟨[.dv (i64 (y.places)), .dv (.list ((y.steps).map dStp))], 0, 24, 0, false⟩) :: (5, 0, some (outB i tg0 y.places.toNat)) :: (7, 0, some ⟨[.dv (ints (s.take)), .dv (ints (s.give))], 0, 55, 0, false⟩) :: (8, 0, some (rowI (dif s j))) :: (49, 0, none) :: (50, 0, none) :: (54, 0, none) :: (55, 0, none) :: famI i (Lw (mq (tbl y)) y.places.toNat))⟩) (fun j => j ≤ y.places.toNat) (fun j => y.places.toNat - j) 0 (by simp) (tlI [(1, 1), (5, 5), (7, 7)] [(1, 0, some ⟨[.dv (i64 (y.places)), .dv (.list ((y.steps).map dStp))], 0, 24, 0, false⟩), (5, 0, some (outB i tg0 y.places.toNat)), (7, 0, some ⟨[.dv (ints (s.take)), .dv (ints (s.give))], 0, 55, 0, false⟩), (8, 0, some (rowI (dif s (0)))), (49, 0, none), (50, 0, none), (54, 0, none), (55, 0, none)] (by repeat (first | exact hi_fam | refine hi_cons (by decide) ?_)) (hF := by simp [FLe, svLe, lk, mkM, isLive, tauL, tauF, tauN, tauT, tauG, tauS]) (hM := mle_s (by simp [MLe, blkLe, svLe, svLes, lk, mkM, isLive, tauL, tauF, tauN, tauT, tauG, tauS, svLes_ints, svLes_self, isDvs, isDvs_map, isDvs_app, isDvs_take, isDvs_set, isDvs_repl, dif_zero]) (mle_s (le_blk (t := 5) (g := 0) (b := outB i tg0 y.places.toNat) rfl (by simp [mkM]) rfl rfl rfl rfl (out_0 (fun _ => tauF_hi) (by repeat (first | exact hi_fam | refine hi_cons (by decide) ?_)) (by repeat (first | exact hi_fam | refine hi_cons (by decide) ?_)))) (by simp [MLe, blkLe, svLe, svLes, lk, mkM, isLive, tauL, tauF, tauN, tauT, tauG, tauS, svLes_ints, svLes_self, isDvs, isDvs_map, isDvs_app, isDvs_take, isDvs_set, isDvs_repl, dif_zero])))) ?_
      intro j hφ1
      refine awp_seq ?_
      refine rg ?_
      refine qv m_lss ?_
      show AWp cx _ _ _
      refine awp_seq ?_
      refine cd (fun hc2 => ?_) (fun hc2 => ?_)
      · try simp at hc2
        refine awp_skip ?_
        show AWp cx _ _ _
        refine awp_seq ?_
        refine awp_block ?_
        refine awp_seq ?_
        refine rg ?_
        refine qv m_mv ?_
        refine qv m_as ?_
        show AWp cx _ _ _
        refine rd mixed ?_
        have hj2 : j < y.places.toNat := by omega
        have hd1 := sg_get (l := s.give) (i := j) (by omega)
        have hd2 := sg_get (l := s.take) (i := j) (by omega)
        have hd3 := hb3 j
        have hdl := dif_len (s := s) (j := j)
        refine zv m_mv ?_
        refine zv (m_fdp fd55_1) ?_
        refine zv (m_ldp sz25 ag25) ?_
        refine zv m_mv ?_
        first | refine zv (m_ixN el25 sz3) ?_ | refine zv (m_ix el25 sz3) ?_
        refine zv (m_ld sz3 ag3) ?_
        refine zv (m_fdp fd55_0) ?_
        refine zv (m_ldp sz25 ag25) ?_
        refine zv m_mv ?_
        first | refine zv (m_ixN el25 sz3) ?_ | refine zv (m_ix el25 sz3) ?_
        refine zv (m_ld sz3 ag3) ?_
        refine zv m_sub ?_
        refine zr (m_bsl el25 ze3 sz3) ?_
        refine za1 (m_app1 el25 el25 ze3 sz3 by3) ?_
        refine zv m_as ?_
        refine ⟨by first | rfl | exact freeC_of (by repeat (first | exact famI_ne | refine nvE_c rfl ?_)) rfl, ?_⟩
        show AWp cx _ _ _
        refine rg ?_
        refine qv m_add ?_
        refine qv m_mv ?_
        exact ⟨j + 1, hj2, (by simp only; omega), (tlI [(1, 1), (5, 5), (7, 7), (8, 50)] [(1, 0, some ⟨[.dv (i64 (y.places)), .dv (.list ((y.steps).map dStp))], 0, 24, 0, false⟩), (5, 0, some (outB i tg0 y.places.toNat)), (7, 0, some ⟨[.dv (ints (s.take)), .dv (ints (s.give))], 0, 55, 0, false⟩), (8, 0, some (rowI (dif s (j + 1)))), (49, 0, none), (50, 0, none), (54, 0, none), (55, 0, none)] (by repeat (first | exact hi_fam | refine hi_cons (by decide) ?_)) (hF := by simp [FLe, svLe, lk, mkM, isLive, tauL, tauF, tauN, tauT, tauG, tauS]) (hM := mle_s (by simp [MLe, blkLe, svLe, svLes, lk, mkM, isLive, tauL, tauF, tauN, tauT, tauG, tauS, svLes_ints, svLes_self, isDvs, isDvs_map, isDvs_app, isDvs_take, isDvs_set, isDvs_repl, dif_succ]) (mle_s (le_blk (t := 5) (g := 0) (b := outB i tg0 y.places.toNat) rfl (by simp [mkM]) rfl rfl rfl rfl (out_0 (fun _ => tauF_hi) (by repeat (first | exact hi_fam | refine hi_cons (by decide) ?_)) (by repeat (first | exact hi_fam | refine hi_cons (by decide) ?_)))) (by simp [MLe, blkLe, svLe, svLes, lk, mkM, isLive, tauL, tauF, tauN, tauT, tauG, tauS, svLes_ints, svLes_self, isDvs, isDvs_map, isDvs_app, isDvs_take, isDvs_set, isDvs_repl, dif_succ]))))⟩
      · try simp at hc2
        refine awp_exit ?_
        show AWp cx _ _ _
        refine rg ?_
        have hje : j = y.places.toNat := by omega
        subst hje
        have hrow : ∀ (M : Nat → Nat × Option Blk) {N : Nat → Nat × Option Blk}, Hi M i (Lw (mq (tbl y)) y.places.toNat) → M 8 = (0, some (rowI (dif s y.places.toNat))) → ∀ k l, k < i + 1 → Lw (mq (tbl y)) y.places.toNat k = some l → blkLe (tauN [(1, 1), (5, 55)] i) M N (1000 + k) (rowI l) := fun M N h1 h2 k l hk hl => by
          rcases Nat.lt_or_ge k i with h | h
          · exact le_row (tauN_lo h) (g := 0) (by rw [h1 k h, hl]; rfl)
          · obtain rfl : k = i := by omega
            have : l = dif s y.places.toNat := by rw [← rl_tbl hgs]; exact (Option.some.inj hl).symm
            subst this
            exact le_row tauN_at h2
        refine qv m_mv ?_
        refine qv m_mv ?_
        refine qr (m_bsl el91 ze25 sz25) ?_
        refine qa1 (m_app1 el91 el91 ze25 sz25 by25 (hln := by show (outC i tg0 y.places.toNat).length = i * 1; rw [outC_len]; omega)) ?_
        refine qv m_as ?_
        show AWp cx _ _ _
        refine rg ?_
        refine qv m_add ?_
        refine qv m_mv ?_
        exact ⟨i + 1, hin, (by simp only; omega), (tlG (n := i + 1) (L := Lw (mq (tbl y)) y.places.toNat) (tauN [(1, 1), (5, 55)] i) [(1, 0, some ⟨[.dv (i64 (y.places)), .dv (.list ((y.steps).map dStp))], 0, 24, 0, false⟩), (5, 0, some (outB (i + 1) tg0 y.places.toNat)), (7, 0, none), (8, 0, none), (49, 0, none), (50, 0, none), (54, 0, none), (55, 0, none)] hg (tauN_inj (by decide) (by decide)) (by simp) (hF := by simp [FLe, svLe, lk, mkM, isLive, tauL, tauF, tauN, tauT, tauG, tauS]) (hM := mle_s (by simp [MLe, blkLe, svLe, svLes, lk, mkM, isLive, tauL, tauF, tauN, tauT, tauG, tauS, svLes_ints, svLes_self, isDvs, isDvs_map, isDvs_app, isDvs_take, isDvs_set, isDvs_repl]) (mle_s (le_blk (t := 55) (g := 1) (b := ⟨outC i tg0 y.places.toNat ++ [.sl 8 0 0 y.places.toNat], 1, 25, 0, true⟩) rfl (by simp [mkM]) rfl rfl rfl rfl (out_snoc (by repeat (first | exact hi_fam | refine hi_cons (by decide) ?_)) (by simp [isLive, mkM]) (by repeat (first | exact hi_fam | refine hi_cons (by decide) ?_)))) (by simp [MLe, blkLe, svLe, svLes, lk, mkM, isLive, tauL, tauF, tauN, tauT, tauG, tauS, svLes_ints, svLes_self, isDvs, isDvs_map, isDvs_app, isDvs_take, isDvs_set, isDvs_repl]))) (hB := fun k l hk hl => hrow _ (by repeat (first | exact hi_fam | refine hi_cons (by decide) ?_)) rfl k l hk hl))⟩
    · try simp at hc1
      obtain rfl : i = y.steps.length := by omega
      refine awp_exit ?_
      show AWp cx _ _ _
      refine awp_seq ?_
      refine rg ?_
      refine qv m_as ?_
      show AWp cx _ _ _
      refine awp_seq ?_
      refine awp_seq ?_
      refine rg ?_
      refine qv (m_fdp fd24_0) ?_
      refine qv (m_ldp sz3 ag3) ?_
      refine qv m_mv ?_
      show AWp cx _ _ _
      refine awp_block ?_
      refine awp_loop (ι := Nat × Nat × Go.Ab.Heap.Mat) (fun z => ⟨lk [(1, .pt 1 0 0), (5, .sl 5 0 0 y.steps.length), (10, .dv (i64 (z.2.1 : Nat))), (58, .dv (i64 (y.places))), (59, .dv (i64 (z.1 : Nat)))], mkM ((1, 0, some ⟨[.dv (i64 (y.places)), .dv (.list ((y.steps).map dStp))], 0, 24, 0, false⟩) :: (5, 0, some (outB y.steps.length tg0 y.places.toNat)) :: (11, 0, none) :: famI y.steps.length (Lw z.2.2 y.places.toNat))⟩) (fun z => ∃ s q, EInv y.steps.length y.places.toNat (mq (tbl y)) z.2.2 z.2.1 z.1 s q) (fun z => y.places.toNat - z.1) (0, 0, mq (tbl y)) ⟨_, _, EInv.start _ _ _⟩ (tlI [(1, 1), (5, 5)] [(1, 0, some ⟨[.dv (i64 (y.places)), .dv (.list ((y.steps).map dStp))], 0, 24, 0, false⟩), (5, 0, some (outB y.steps.length tg0 y.places.toNat)), (11, 0, none)] (by repeat (first | exact hi_fam | refine hi_cons (by decide) ?_)) (hF := by simp [FLe, svLe, lk, mkM, isLive, tauL, tauF, tauN, tauT, tauG, tauS]) (hM := mle_s (by simp [MLe, blkLe, svLe, svLes, lk, mkM, isLive, tauL, tauF, tauN, tauT, tauG, tauS, svLes_ints, svLes_self, isDvs, isDvs_map, isDvs_app, isDvs_take, isDvs_set, isDvs_repl]) (mle_s (le_blk (t := 5) (g := 0) (b := outB y.steps.length tg0 y.places.toNat) rfl (by simp [mkM]) rfl rfl rfl rfl (out_0 (fun _ => tauF_hi) (by repeat (first | exact hi_fam | refine hi_cons (by decide) ?_)) (by repeat (first | exact hi_fam | refine hi_cons (by decide) ?_)))) (by simp [MLe, blkLe, svLe, svLes, lk, mkM, isLive, tauL, tauF, tauN, tauT, tauG, tauS, svLes_ints, svLes_self, isDvs, isDvs_map, isDvs_app, isDvs_take, isDvs_set, isDvs_repl])))) ?_
      intro ⟨p, r, W⟩ hφ2
      dsimp only at hφ2 ⊢
      obtain ⟨es, eq, hI⟩ := hφ2
      have hrp := hI.rp
      have hrn := hI.rn
      have hpP := hI.pP
      refine awp_seq ?_
      refine rg ?_
      refine qv m_lss ?_
      show AWp cx _ _ _
      refine awp_seq ?_
      refine cd (fun hc3 => ?_) (fun hc3 => ?_)
      · try simp at hc3
        have hp : p < y.places.toNat := by omega
        refine awp_skip ?_
        show AWp cx _ _ _
        refine awp_seq ?_
        refine awp_block ?_
        refine awp_seq ?_
        refine rg ?_
        refine qv m_mv ?_
        refine qp (m_al ze3) ?_
        refine qs (m_st sz3) ?_ (hv := by simp only [nvL, killV, famI_nv] <;> rfl)
        show AWp cx _ _ _
        refine awp_seq ?_
        refine rg ?_
        refine qv m_mv ?_
        refine qv m_mv ?_
        refine q_cut (a := r) el91 sz25 (by simp only [St.look, St.ev, lk, mkM, blkOf, svOf, svOfCell, reduceIte, Nat.reduceAdd, Nat.reduceEqDiff, Nat.reduceMul] <;> rfl) rfl (by simp only [St.look, St.ev, lk, mkM, blkOf, svOf, svOfCell, reduceIte, Nat.reduceAdd, Nat.reduceEqDiff, Nat.reduceMul] <;> rfl) rfl hrn (fun q64 hq64 => ?_)
        refine qfn ?_
        refine qqF (f89 (from_ W y.places.toNat y.steps.length r) p (fun l h => by rw [from_w h]; exact hp) (by rw [from_len]; omega)) ?_ (ha := args_cons (cut_data hq64 (by simp only [mkM, reduceIte, Nat.reduceEqDiff]) (by repeat (first | exact hi_fam | refine hi_cons (by decide) ?_))) (args_cons data_dv args_nil))
        refine qv m_as ?_
        show AWp cx _ _ _
        refine awp_seq ?_
        refine awp_seq ?_
        refine rg ?_
        refine qv m_mv ?_
        refine qv m_lss ?_
        show AWp cx _ _ _
        refine cd (fun hc4 => ?_) (fun hc4 => ?_)
        · skip
          have hz : ∀ i, r ≤ i → i < y.steps.length → W i p = 0 := by
            rcases idx_cases (W := W) (n := y.steps.length) (r := r) hp with ⟨_, h⟩ | ⟨f, _, h, _⟩
            · exact h
            · rw [h] at hc4; simp at hc4; omega
          refine awp_exit ?_
          show AWp cx _ _ _
          refine rg ?_
          refine qv m_add ?_
          refine qv m_mv ?_
          exact ⟨(p + 1, r, W), ⟨_, _, hI.skip hp hz⟩, (by simp only; omega), (tlI [(1, 1), (5, 5)] [(1, 0, some ⟨[.dv (i64 (y.places)), .dv (.list ((y.steps).map dStp))], 0, 24, 0, false⟩), (5, 0, some (outB y.steps.length tg0 y.places.toNat)), (11, 0, none)] (by repeat (first | exact hi_fam | refine hi_cons (by decide) ?_)) (hF := by simp [FLe, svLe, lk, mkM, isLive, tauL, tauF, tauN, tauT, tauG, tauS]) (hM := mle_s (by simp [MLe, blkLe, svLe, svLes, lk, mkM, isLive, tauL, tauF, tauN, tauT, tauG, tauS, svLes_ints, svLes_self, isDvs, isDvs_map, isDvs_app, isDvs_take, isDvs_set, isDvs_repl]) (mle_s (le_blk (t := 5) (g := 0) (b := outB y.steps.length tg0 y.places.toNat) rfl (by simp [mkM]) rfl rfl rfl rfl (out_0 (fun _ => tauF_hi) (by repeat (first | exact hi_fam | refine hi_cons (by decide) ?_)) (by repeat (first | exact hi_fam | refine hi_cons (by decide) ?_)))) (by simp [MLe, blkLe, svLe, svLes, lk, mkM, isLive, tauL, tauF, tauN, tauT, tauG, tauS, svLes_ints, svLes_self, isDvs, isDvs_map, isDvs_app, isDvs_take, isDvs_set, isDvs_repl]))))⟩
        · skip
          obtain ⟨f, hf1, hf2, hf3⟩ : ∃ f : Nat, r + f < y.steps.length ∧ idxF (fun l => sg l p != 0) (from_ W y.places.toNat y.steps.length r) = f ∧ W (r + f) p ≠ 0 := by
            rcases idx_cases (W := W) (n := y.steps.length) (r := r) hp with ⟨h, _⟩ | h
            · rw [h] at hc4; simp at hc4
            · exact h
          rw [hf2]
          have hr : r < y.steps.length := by omega
          obtain ⟨V, hV⟩ : ∃ V, V = swR r (r + f) W := ⟨_, rfl⟩
          have hoF : (outC y.steps.length tg0 y.places.toNat)[r + f]? = some (.sl (1000 + (r + f)) 0 0 y.places.toNat) := outC_at hf1
          have hor0 : (outC y.steps.length tg0 y.places.toNat)[r]? = some (.sl (1000 + r) 0 0 y.places.toNat) := outC_at hr
          refine awp_skip ?_
          show AWp cx _ _ _
          refine awp_seq ?_
          refine rd mixed ?_
          refine zv m_mv ?_
          refine zv m_mv ?_
          refine zv m_mv ?_
          refine zv m_mv ?_
          refine zv m_mv ?_
          refine zv m_add ?_
          refine zv m_mv ?_
          refine zv m_mv ?_
          refine zv m_mv ?_
          refine zv m_add ?_
          refine zv (m_ixR el91 sz25 (o' := r + f) (ho := by omega)) ?_
          refine zv (m_ldp sz25 ag25 (hc := hoF)) ?_
          refine zv m_mv ?_
          refine zv m_mv ?_
          refine zv (m_ixR el91 sz25) ?_
          refine zv (m_ldp sz25 ag25 (hc := hor0)) ?_
          refine zv (m_ixR el91 sz25) ?_
          refine zs (m_st sz25 (h3 := by show r + 1 ≤ (outC _ _ _).length; rw [outC_len]; omega) (hc := putCells_one (l := outC y.steps.length tg0 y.places.toNat) (o := r) (c := .sl (1000 + (r + f)) 0 0 y.places.toNat) (by rw [outC_len]; exact hr))) ?_ (hv := by simp only [nvL, killV, famI_nv] <;> rfl)
          refine zv (m_ixR el91 sz25 (o' := r + f) (ho := by omega)) ?_
          refine zs (m_st sz25 (h3 := by show r + f + 1 ≤ ((outC _ _ _).set _ _).length; rw [List.length_set, outC_len]; omega) (hc := putCells_one (l := (outC y.steps.length tg0 y.places.toNat).set r (.sl (1000 + (r + f)) 0 0 y.places.toNat)) (o := r + f) (c := .sl (1000 + r) 0 0 y.places.toNat) (by rw [List.length_set, outC_len]; exact hf1))) ?_ (hv := by simp only [nvL, killV, famI_nv] <;> rfl)
          refine ⟨by first | rfl | exact freeC_of (by repeat (first | exact famI_ne | refine nvE_c rfl ?_)) rfl, ?_⟩
          show AWp cx _ _ _
          refine awp_seq ?_
          refine awp_seq ?_
          refine rg ?_
          refine qv m_mv ?_
          refine qv m_mv ?_
          refine qv m_add ?_
          refine q_cut (a := r + 1) el91 sz25 (by simp only [St.look, St.ev, lk, mkM, blkOf, svOf, svOfCell, reduceIte, Nat.reduceAdd, Nat.reduceEqDiff, Nat.reduceMul] <;> rfl) rfl (by simp only [St.look, St.ev, lk, mkM, blkOf, svOf, svOfCell, reduceIte, Nat.reduceAdd, Nat.reduceEqDiff, Nat.reduceMul] <;> rfl) rfl (by omega) (fun q90 hq90 => ?_)
          refine qv (m_lenQ il91 hq90 (by simp only [St.look, St.ev, lk, mkM, blkOf, svOf, svOfCell, reduceIte, Nat.reduceAdd, Nat.reduceEqDiff, Nat.reduceMul] <;> rfl) (by simp only [mkM, reduceIte, Nat.reduceEqDiff] <;> rfl)) ?_
          refine qv m_mv ?_
          show AWp cx _ _ _
          refine awp_block ?_
          refine awp_loop (ι := Nat) (fun j => ⟨lk [(1, .pt 1 0 0), (5, .sl 5 0 0 y.steps.length), (10, .dv (i64 (r : Nat))), (11, .pt 11 0 0), (58, .dv (i64 (y.places))), (59, .dv (i64 (p : Nat))), (90, q90), (91, .dv (i64 (((y.steps.length - (r + 1) : Nat) : Int)))), (92, .dv (i64 (j : Nat)))], mkM ((1, 0, some ⟨[.dv (i64 (y.places)), .dv (.list ((y.steps).map dStp))], 0, 24, 0, false⟩) :: (5, 0, some (outB y.steps.length tg0 y.places.toNat)) :: (11, 0, some ⟨[.dv (i64 (p : Nat))], 0, 3, 1, false⟩) :: famI y.steps.length (Lw (part y.places.toNat r p V j) y.places.toNat))⟩) (fun j => j ≤ y.steps.length - (r + 1)) (fun j => y.steps.length - (r + 1) - j) 0 (by simp) (tlG (n := y.steps.length) (L := Lw (part y.places.toNat r p V 0) y.places.toNat) (tauS [(1, 1), (5, 5), (11, 11)] r (r + f)) [(1, 0, some ⟨[.dv (i64 (y.places)), .dv (.list ((y.steps).map dStp))], 0, 24, 0, false⟩), (5, 0, some (outB y.steps.length tg0 y.places.toNat)), (11, 0, some ⟨[.dv (i64 (p : Nat))], 0, 3, 1, false⟩)] hg (tauS_inj (by decide) (by decide)) (by simp) (hF := by rcases hq90 with ⟨_, rfl⟩ | ⟨_, _, rfl⟩ | ⟨_, rfl⟩ <;> simp [FLe, svLe, lk, mkM, isLive, tauL, tauS]) (hM := mle_s (by simp [MLe, blkLe, svLe, svLes, lk, mkM, isLive, tauL, tauF, tauN, tauT, tauG, tauS, svLes_ints, svLes_self, isDvs, isDvs_map, isDvs_app, isDvs_take, isDvs_set, isDvs_repl]) (mle_s (le_blk (t := 5) (g := 0) (b := ⟨((outC y.steps.length tg0 y.places.toNat).set r (.sl (1000 + (r + f)) 0 0 y.places.toNat)).set (r + f) (.sl (1000 + r) 0 0 y.places.toNat), 1, 25, 0, true⟩) rfl (by simp [mkM]) rfl rfl rfl rfl (out_le (by simp [outC_len]) fun i hi => ⟨_, _, sw_at hr hf1 hi, tauS_hi, Hi.live (L := Lw W y.places.toNat) (n := y.steps.length) (by repeat (first | exact hi_fam | refine hi_cons (by decide) ?_)) (tr_lt hr hf1 hi) rfl, Hi.live (L := Lw (part y.places.toNat r p V 0) y.places.toNat) (n := y.steps.length) (by repeat (first | exact hi_fam | refine hi_cons (by decide) ?_)) hi rfl⟩)) (by simp [MLe, blkLe, svLe, svLes, lk, mkM, isLive, tauL, tauF, tauN, tauT, tauG, tauS, svLes_ints, svLes_self, isDvs, isDvs_map, isDvs_app, isDvs_take, isDvs_set, isDvs_repl]))) (hB := fun k l hk hl => swap_row hV hr hf1 (by repeat (first | exact hi_fam | refine hi_cons (by decide) ?_)) hk hl)) ?_
          intro j hφ3
          refine awp_seq ?_
          refine rg ?_
          refine qv m_lss ?_
          show AWp cx _ _ _
          refine awp_seq ?_
          refine cd (fun hc5 => ?_) (fun hc5 => ?_)
          · try simp at hc5
            have hj : j < y.steps.length - (r + 1) := by omega
            have hm0 : mix (cmb V r p (r + 1 + j)) (V (r + 1 + j)) y.places.toNat 0 = rl V y.places.toNat (r + 1 + j) := mix_zero
            have hkr : r ≠ (r + 1 + j) := by omega
            have hkn : (r + 1 + j) < y.steps.length := by omega
            obtain rfl : q90 = .sl 5 0 (r + 1) (y.steps.length - (r + 1)) := by
              rcases hq90 with ⟨_, h⟩ | ⟨_, h, _⟩ | ⟨h, _⟩
              · exact h
              · omega
              · omega
            have hbd : ∀ i c, r ≤ i → i < y.steps.length → c < y.places.toNat → -524880 ≤ V i c ∧ V i c ≤ 524880 := fun i c h1 h2 h3 => by rw [hV]; exact sw_bd hI v3 (tbl_bd h0) (by omega) hf1 h1 h2 h3
            have hok : (outC y.steps.length (tgk (r + 1 + j) r) y.places.toNat)[(r + 1 + j)]? = some (.sl 500 0 0 y.places.toNat) := by rw [outC_at hkn, tgk_k]
            have hor : (outC y.steps.length (tgk (r + 1 + j) r) y.places.toNat)[r]? = some (.sl 501 0 0 y.places.toNat) := by rw [outC_at hr, tgk_r hkr]
            have hcm : ∀ l, l < y.places.toNat → ((cmb V r p (r + 1 + j)) l).natAbs ≤ 1000000000000 := fun l hl => by
              have m1 := mul_bd5 (hbd (r + 1 + j) l (by omega) hkn hl) (hbd r p (by omega) hr hp)
              have m2 := mul_bd5 (hbd r l (by omega) hr hl) (hbd (r + 1 + j) p (by omega) hkn hp)
              show (V (r + 1 + j) l * V r p - V r l * V (r + 1 + j) p).natAbs ≤ _
              omega
            refine awp_skip ?_
            show AWp cx _ _ _
            refine awp_seq ?_
            refine awp_block ?_
            refine awp_seq ?_
            refine AWp.le (S0 := ⟨lk [(1, .pt 1 0 0), (5, .sl 5 0 0 y.steps.length), (10, .dv (i64 (r : Nat))), (11, .pt 11 0 0), (58, .dv (i64 (y.places))), (59, .dv (i64 (p : Nat))), (90, .sl 5 0 (r + 1) (y.steps.length - (r + 1))), (91, .dv (i64 ((y.steps.length - (r + 1) : Nat) : Int))), (92, .dv (i64 (j : Nat)))], mkM ((1, 0, some ⟨[.dv (i64 (y.places)), .dv (.list ((y.steps).map dStp))], 0, 24, 0, false⟩) :: (5, 0, some (outB y.steps.length (tgk (r + 1 + j) r) y.places.toNat)) :: (11, 0, some ⟨[.dv (i64 (p : Nat))], 0, 3, 1, false⟩) :: (500, 0, some (rowI (rl V y.places.toNat (r + 1 + j)))) :: (501, 0, some (rowI (rl V y.places.toNat r))) :: famI y.steps.length (Lk (part y.places.toNat r p V j) y.places.toNat (r + 1 + j) r))⟩) (tlG (n := y.steps.length) (L := Lk (part y.places.toNat r p V j) y.places.toNat (r + 1 + j) r) (tauT [(1, 1), (5, 5), (11, 11)] (r + 1 + j) r) [(1, 0, some ⟨[.dv (i64 (y.places)), .dv (.list ((y.steps).map dStp))], 0, 24, 0, false⟩), (5, 0, some (outB y.steps.length (tgk (r + 1 + j) r) y.places.toNat)), (11, 0, some ⟨[.dv (i64 (p : Nat))], 0, 3, 1, false⟩), (500, 0, some (rowI (rl V y.places.toNat (r + 1 + j)))), (501, 0, some (rowI (rl V y.places.toNat r)))] hg (tauT_inj hkr.symm (by decide) (by decide)) (by simp) (hF := by simp [FLe, svLe, lk, mkM, isLive, tauL, tauF, tauN, tauT, tauG, tauS]) (hM := mle_s (by simp [MLe, blkLe, svLe, svLes, lk, mkM, isLive, tauL, tauF, tauN, tauT, tauG, tauS, svLes_ints, svLes_self, isDvs, isDvs_map, isDvs_app, isDvs_take, isDvs_set, isDvs_repl]) (mle_s (le_blk (t := 5) (g := 0) (b := outB y.steps.length tg0 y.places.toNat) rfl (by simp [mkM]) rfl rfl rfl rfl (take_out (by repeat (first | exact hi_fam | refine hi_cons (by decide) ?_)) (by simp [isLive, mkM]) (by simp [isLive, mkM]) (by repeat (first | exact hi_fam | refine hi_cons (by decide) ?_)) hkr.symm)) (mle_s (by simp [MLe, blkLe, svLe, svLes, lk, mkM, isLive, tauL, tauF, tauN, tauT, tauG, tauS, svLes_ints, svLes_self, isDvs, isDvs_map, isDvs_app, isDvs_take, isDvs_set, isDvs_repl]) (mle_s (take_k (by repeat (first | exact hi_fam | refine hi_cons (by decide) ?_)) hkn fun c => by rw [part_hi (Nat.le_refl _)]) (mle_s (take_r (by repeat (first | exact hi_fam | refine hi_cons (by decide) ?_)) hr fun c => by rw [part_lo (Nat.le_refl _)]) (by simp [MLe])))))) (hB := fun k l hk hl => take_B (by repeat (first | exact hi_fam | refine hi_cons (by decide) ?_)) hk hl)) ?_
            refine rg ?_
            refine qv (m_ixR el91 sz25) ?_
            refine qv (m_ldp sz25 ag25 (hc := hok)) ?_
            refine qv m_as ?_
            show AWp cx _ _ _
            refine awp_seq ?_
            refine rd mixed ?_
            refine zv m_mv ?_
            refine zv m_mv ?_
            refine zv (m_ixR el91 sz25) ?_
            refine zv (m_ldp sz25 ag25 (hc := hor)) ?_
            refine zv (m_ldp sz3 ag3) ?_
            refine zv (m_ixR el25 sz3) ?_
            refine zv (m_ldI sz3 ag3 (hq := rl_at hp)) ?_
            refine zv m_mv ?_
            refine zv (m_ldp sz3 ag3) ?_
            refine zv (m_ixR el25 sz3) ?_
            refine zv (m_ldI sz3 ag3 (hq := rl_at hp)) ?_
            refine zv m_as ?_
            refine zv m_as ?_
            refine ⟨by first | rfl | exact freeC_of (by repeat (first | exact famI_ne | refine nvE_c rfl ?_)) rfl, ?_⟩
            show AWp cx _ _ _
            refine awp_seq ?_
            refine rg ?_
            refine qv m_as ?_
            show AWp cx _ _ _
            refine awp_seq ?_
            refine awp_seq ?_
            refine rg ?_
            refine qv m_mv ?_
            refine qv (m_lenR il25) ?_
            refine qv m_mv ?_
            show AWp cx _ _ _
            refine awp_block ?_
            refine awp_loop (ι := Nat) (fun c => ⟨lk [(1, .pt 1 0 0), (5, .sl 5 0 0 y.steps.length), (10, .dv (i64 (r : Nat))), (11, .pt 11 0 0), (14, .sl 500 0 0 y.places.toNat), (15, .dv (i64 (V r p))), (16, .dv (i64 (V (r + 1 + j) p))), (17, .dv (i64 ((gl (cmb V r p (r + 1 + j)) c : Nat) : Int))), (58, .dv (i64 (y.places))), (59, .dv (i64 (p : Nat))), (90, .sl 5 0 (r + 1) (y.steps.length - (r + 1))), (91, .dv (i64 (((y.steps.length - (r + 1) : Nat) : Int)))), (92, .dv (i64 (j : Nat))), (108, .dv (i64 ((y.places.toNat : Nat)))), (109, .dv (i64 (c : Nat)))], mkM ((1, 0, some ⟨[.dv (i64 (y.places)), .dv (.list ((y.steps).map dStp))], 0, 24, 0, false⟩) :: (5, 0, some (outB y.steps.length (tgk (r + 1 + j) r) y.places.toNat)) :: (11, 0, some ⟨[.dv (i64 (p : Nat))], 0, 3, 1, false⟩) :: (500, 0, some (rowI (mix (cmb V r p (r + 1 + j)) (V (r + 1 + j)) y.places.toNat (c)))) :: (501, 0, some (rowI (rl V y.places.toNat r))) :: famI y.steps.length (Lk (part y.places.toNat r p V j) y.places.toNat (r + 1 + j) r))⟩) (fun c => c ≤ y.places.toNat) (fun c => y.places.toNat - c) 0 (by simp) (tlI [(1, 1), (5, 5), (11, 11), (500, 500), (501, 501)] [(1, 0, some ⟨[.dv (i64 (y.places)), .dv (.list ((y.steps).map dStp))], 0, 24, 0, false⟩), (5, 0, some (outB y.steps.length (tgk (r + 1 + j) r) y.places.toNat)), (11, 0, some ⟨[.dv (i64 (p : Nat))], 0, 3, 1, false⟩), (500, 0, some (rowI (mix (cmb V r p (r + 1 + j)) (V (r + 1 + j)) y.places.toNat (0)))), (501, 0, some (rowI (rl V y.places.toNat r)))] (by repeat (first | exact hi_fam | refine hi_cons (by decide) ?_)) (hF := by simp [FLe, svLe, lk, mkM, isLive, tauL, tauF, tauN, tauT, tauG, tauS, gl]) (hM := mle_s (by simp [MLe, blkLe, svLe, svLes, lk, mkM, isLive, tauL, tauF, tauN, tauT, tauG, tauS, svLes_ints, svLes_self, isDvs, isDvs_map, isDvs_app, isDvs_take, isDvs_set, isDvs_repl, hm0]) (mle_s (le_blk (t := 5) (g := 0) (b := outB y.steps.length (tgk (r + 1 + j) r) y.places.toNat) rfl (by simp [mkM]) rfl rfl rfl rfl (out_k rfl rfl (fun _ => tauF_hi) (by simp [isLive, mkM]) (by simp [isLive, mkM]) (by simp [isLive, mkM]) (by simp [isLive, mkM]) (by repeat (first | exact hi_fam | refine hi_cons (by decide) ?_)) (by repeat (first | exact hi_fam | refine hi_cons (by decide) ?_)))) (by simp [MLe, blkLe, svLe, svLes, lk, mkM, isLive, tauL, tauF, tauN, tauT, tauG, tauS, svLes_ints, svLes_self, isDvs, isDvs_map, isDvs_app, isDvs_take, isDvs_set, isDvs_repl, hm0])))) ?_
            intro c hφ4
            refine awp_seq ?_
            refine rg ?_
            refine qv m_lss ?_
            show AWp cx _ _ _
            refine awp_seq ?_
            refine cd (fun hc6 => ?_) (fun hc6 => ?_)
            · try simp at hc6
              have hc : c < y.places.toNat := by omega
              have h1 : (mix (cmb V r p (r + 1 + j)) (V (r + 1 + j)) y.places.toNat (c))[c]? = some (V (r + 1 + j) c) := mix_at hc
              have h2 : (rl V y.places.toNat r)[c]? = some (V r c) := rl_at hc
              have hset : (mix (cmb V r p (r + 1 + j)) (V (r + 1 + j)) y.places.toNat (c)).set c (V (r + 1 + j) c * V r p - V r c * V (r + 1 + j) p) = mix (cmb V r p (r + 1 + j)) (V (r + 1 + j)) y.places.toNat (c + 1) := mix_set (v := (cmb V r p (r + 1 + j))) (w := V (r + 1 + j)) hc
              have hnew : (mix (cmb V r p (r + 1 + j)) (V (r + 1 + j)) y.places.toNat (c + 1))[c]? = some ((cmb V r p (r + 1 + j)) c) := mix_new hc
              have m1 := mul_bd5 (hbd (r + 1 + j) c (by omega) hkn hc) (hbd r p (by omega) hr hp)
              have m2 := mul_bd5 (hbd r c (by omega) hr hc) (hbd (r + 1 + j) p (by omega) hkn hp)
              refine awp_skip ?_
              show AWp cx _ _ _
              refine awp_seq ?_
              refine awp_block ?_
              refine awp_seq ?_
              refine rg ?_
              refine qv m_mv ?_
              refine qv m_as ?_
              show AWp cx _ _ _
              refine awp_seq ?_
              refine rd mixed ?_
              refine zv m_mv ?_
              refine zv m_mv ?_
              refine zv m_mv ?_
              refine zv m_mv ?_
              refine zv (m_ixR el25 sz3) ?_
              refine zv (m_ldI sz3 ag3 (hq := h1)) ?_
              refine zv m_mv ?_
              refine zv m_mul ?_
              refine zv m_mv ?_
              refine zv m_mv ?_
              refine zv (m_ixR el91 sz25) ?_
              refine zv (m_ldp sz25 ag25 (hc := hor)) ?_
              refine zv m_mv ?_
              refine zv (m_ixR el25 sz3) ?_
              refine zv (m_ldI sz3 ag3 (hq := h2)) ?_
              refine zv m_mv ?_
              refine zv m_mul ?_
              refine zv m_sub ?_
              refine zv (m_ixR el25 sz3) ?_
              refine zs (m_stI sz3 (ho := by rw [mix_len]; exact hc)) ?_ (hv := by simp only [nvL, killV, famI_nv] <;> rfl)
              refine ⟨by first | rfl | exact freeC_of (by repeat (first | exact famI_ne | refine nvE_c rfl ?_)) rfl, ?_⟩
              show AWp cx _ _ _
              rw [hset]
              refine rg ?_
              refine qv m_mv ?_
              refine qv m_mv ?_
              refine qv m_mv ?_
              refine qv (m_ixR el25 sz3) ?_
              refine qv (m_ldI sz3 ag3 (hq := hnew)) ?_
              refine qqF (f91g (w := (cmb V r p (r + 1 + j))) (c := c) (fun l hl => hcm l (by omega))) ?_
              refine qv m_as ?_
              show AWp cx _ _ _
              refine rg ?_
              refine qv m_add ?_
              refine qv m_mv ?_
              exact ⟨c + 1, (by omega), (by simp only; omega), (tlI [(1, 1), (5, 5), (11, 11), (500, 500), (501, 501)] [(1, 0, some ⟨[.dv (i64 (y.places)), .dv (.list ((y.steps).map dStp))], 0, 24, 0, false⟩), (5, 0, some (outB y.steps.length (tgk (r + 1 + j) r) y.places.toNat)), (11, 0, some ⟨[.dv (i64 (p : Nat))], 0, 3, 1, false⟩), (500, 0, some (rowI (mix (cmb V r p (r + 1 + j)) (V (r + 1 + j)) y.places.toNat (c + 1)))), (501, 0, some (rowI (rl V y.places.toNat r)))] (by repeat (first | exact hi_fam | refine hi_cons (by decide) ?_)) (hF := by simp [FLe, svLe, lk, mkM, isLive, tauL, tauF, tauN, tauT, tauG, tauS]) (hM := mle_s (by simp [MLe, blkLe, svLe, svLes, lk, mkM, isLive, tauL, tauF, tauN, tauT, tauG, tauS, svLes_ints, svLes_self, isDvs, isDvs_map, isDvs_app, isDvs_take, isDvs_set, isDvs_repl]) (mle_s (le_blk (t := 5) (g := 0) (b := outB y.steps.length (tgk (r + 1 + j) r) y.places.toNat) rfl (by simp [mkM]) rfl rfl rfl rfl (out_k rfl rfl (fun _ => tauF_hi) (by simp [isLive, mkM]) (by simp [isLive, mkM]) (by simp [isLive, mkM]) (by simp [isLive, mkM]) (by repeat (first | exact hi_fam | refine hi_cons (by decide) ?_)) (by repeat (first | exact hi_fam | refine hi_cons (by decide) ?_)))) (by simp [MLe, blkLe, svLe, svLes, lk, mkM, isLive, tauL, tauF, tauN, tauT, tauG, tauS, svLes_ints, svLes_self, isDvs, isDvs_map, isDvs_app, isDvs_take, isDvs_set, isDvs_repl]))))⟩
            · try simp at hc6
              obtain rfl : c = y.places.toNat := by omega
              have hmall : mix (cmb V r p (r + 1 + j)) (V (r + 1 + j)) y.places.toNat (y.places.toNat) = mix (nrm (cmb V r p (r + 1 + j)) y.places.toNat) (cmb V r p (r + 1 + j)) y.places.toNat (0) := by rw [mix_all (Nat.le_refl _), mix_zero]
              rw [hmall]
              refine awp_exit ?_
              show AWp cx _ _ _
              refine awp_seq ?_
              refine rg ?_
              refine qv m_mv ?_
              refine qv (m_lenR il25) ?_
              refine qv m_mv ?_
              show AWp cx _ _ _
              refine awp_block ?_
              refine awp_loop (ι := Nat) (fun c => ⟨lk [(1, .pt 1 0 0), (5, .sl 5 0 0 y.steps.length), (10, .dv (i64 (r : Nat))), (11, .pt 11 0 0), (14, .sl 500 0 0 y.places.toNat), (17, .dv (i64 ((gl (cmb V r p (r + 1 + j)) y.places.toNat : Nat) : Int))), (58, .dv (i64 (y.places))), (59, .dv (i64 (p : Nat))), (90, .sl 5 0 (r + 1) (y.steps.length - (r + 1))), (91, .dv (i64 (((y.steps.length - (r + 1) : Nat) : Int)))), (92, .dv (i64 (j : Nat))), (139, .dv (i64 ((y.places.toNat : Nat)))), (140, .dv (i64 (c : Nat)))], mkM ((1, 0, some ⟨[.dv (i64 (y.places)), .dv (.list ((y.steps).map dStp))], 0, 24, 0, false⟩) :: (5, 0, some (outB y.steps.length (tgk (r + 1 + j) r) y.places.toNat)) :: (11, 0, some ⟨[.dv (i64 (p : Nat))], 0, 3, 1, false⟩) :: (500, 0, some (rowI (mix (nrm (cmb V r p (r + 1 + j)) y.places.toNat) (cmb V r p (r + 1 + j)) y.places.toNat (c)))) :: (501, 0, some (rowI (rl V y.places.toNat r))) :: famI y.steps.length (Lk (part y.places.toNat r p V j) y.places.toNat (r + 1 + j) r))⟩) (fun c => c ≤ y.places.toNat) (fun c => y.places.toNat - c) 0 (by simp) (tlI [(1, 1), (5, 5), (11, 11), (500, 500), (501, 501)] [(1, 0, some ⟨[.dv (i64 (y.places)), .dv (.list ((y.steps).map dStp))], 0, 24, 0, false⟩), (5, 0, some (outB y.steps.length (tgk (r + 1 + j) r) y.places.toNat)), (11, 0, some ⟨[.dv (i64 (p : Nat))], 0, 3, 1, false⟩), (500, 0, some (rowI (mix (nrm (cmb V r p (r + 1 + j)) y.places.toNat) (cmb V r p (r + 1 + j)) y.places.toNat (0)))), (501, 0, some (rowI (rl V y.places.toNat r)))] (by repeat (first | exact hi_fam | refine hi_cons (by decide) ?_)) (hF := by simp [FLe, svLe, lk, mkM, isLive, tauL, tauF, tauN, tauT, tauG, tauS]) (hM := mle_s (by simp [MLe, blkLe, svLe, svLes, lk, mkM, isLive, tauL, tauF, tauN, tauT, tauG, tauS, svLes_ints, svLes_self, isDvs, isDvs_map, isDvs_app, isDvs_take, isDvs_set, isDvs_repl]) (mle_s (le_blk (t := 5) (g := 0) (b := outB y.steps.length (tgk (r + 1 + j) r) y.places.toNat) rfl (by simp [mkM]) rfl rfl rfl rfl (out_k rfl rfl (fun _ => tauF_hi) (by simp [isLive, mkM]) (by simp [isLive, mkM]) (by simp [isLive, mkM]) (by simp [isLive, mkM]) (by repeat (first | exact hi_fam | refine hi_cons (by decide) ?_)) (by repeat (first | exact hi_fam | refine hi_cons (by decide) ?_)))) (by simp [MLe, blkLe, svLe, svLes, lk, mkM, isLive, tauL, tauF, tauN, tauT, tauG, tauS, svLes_ints, svLes_self, isDvs, isDvs_map, isDvs_app, isDvs_take, isDvs_set, isDvs_repl])))) ?_
              intro c hφ5
              refine awp_seq ?_
              refine rg ?_
              refine qv m_lss ?_
              show AWp cx _ _ _
              refine awp_seq ?_
              refine cd (fun hc7 => ?_) (fun hc7 => ?_)
              · try simp at hc7
                have hc : c < y.places.toNat := by omega
                have h1 : (mix (nrm (cmb V r p (r + 1 + j)) y.places.toNat) (cmb V r p (r + 1 + j)) y.places.toNat (c))[c]? = some ((cmb V r p (r + 1 + j)) c) := mix_at hc
                have hset : (mix (nrm (cmb V r p (r + 1 + j)) y.places.toNat) (cmb V r p (r + 1 + j)) y.places.toNat (c)).set c (((cmb V r p (r + 1 + j)) c).tdiv (max 1 ((gl (cmb V r p (r + 1 + j)) y.places.toNat : Nat) : Int))) = mix (nrm (cmb V r p (r + 1 + j)) y.places.toNat) (cmb V r p (r + 1 + j)) y.places.toNat (c + 1) := mix_set (v := nrm (cmb V r p (r + 1 + j)) y.places.toNat) hc
                have hq0 : max 1 ((gl (cmb V r p (r + 1 + j)) y.places.toNat : Nat) : Int) ≠ 0 := by omega
                have hq := hcm c hc
                have hq1 : (((cmb V r p (r + 1 + j)) c).tdiv (max 1 ((gl (cmb V r p (r + 1 + j)) y.places.toNat : Nat) : Int))).natAbs ≤ 1000000000000 := Nat.le_trans (Int.natAbs_tdiv_le_natAbs _ _) hq
                refine awp_skip ?_
                show AWp cx _ _ _
                refine awp_seq ?_
                refine awp_block ?_
                refine awp_seq ?_
                refine rg ?_
                refine qv m_mv ?_
                refine qv m_as ?_
                show AWp cx _ _ _
                refine rg ?_
                refine qv m_mv ?_
                refine qv m_mv ?_
                refine qv (m_ixR el25 sz3) ?_
                refine qv (m_ldI sz3 ag3 (hq := h1)) ?_
                refine qv m_mv ?_
                refine qv m_max ?_
                rw [max_one]
                refine qv (m_quo (h0 := hq0) (h1 := by omega) (h2 := by omega)) ?_
                refine qv (m_ixR el25 sz3) ?_
                refine qs (m_stI sz3 (ho := by rw [mix_len]; exact hc)) ?_ (hv := by simp only [nvL, killV, famI_nv] <;> rfl)
                show AWp cx _ _ _
                rw [hset]
                refine rg ?_
                refine qv m_add ?_
                refine qv m_mv ?_
                exact ⟨c + 1, (by omega), (by simp only; omega), (tlI [(1, 1), (5, 5), (11, 11), (500, 500), (501, 501)] [(1, 0, some ⟨[.dv (i64 (y.places)), .dv (.list ((y.steps).map dStp))], 0, 24, 0, false⟩), (5, 0, some (outB y.steps.length (tgk (r + 1 + j) r) y.places.toNat)), (11, 0, some ⟨[.dv (i64 (p : Nat))], 0, 3, 1, false⟩), (500, 0, some (rowI (mix (nrm (cmb V r p (r + 1 + j)) y.places.toNat) (cmb V r p (r + 1 + j)) y.places.toNat (c + 1)))), (501, 0, some (rowI (rl V y.places.toNat r)))] (by repeat (first | exact hi_fam | refine hi_cons (by decide) ?_)) (hF := by simp [FLe, svLe, lk, mkM, isLive, tauL, tauF, tauN, tauT, tauG, tauS]) (hM := mle_s (by simp [MLe, blkLe, svLe, svLes, lk, mkM, isLive, tauL, tauF, tauN, tauT, tauG, tauS, svLes_ints, svLes_self, isDvs, isDvs_map, isDvs_app, isDvs_take, isDvs_set, isDvs_repl]) (mle_s (le_blk (t := 5) (g := 0) (b := outB y.steps.length (tgk (r + 1 + j) r) y.places.toNat) rfl (by simp [mkM]) rfl rfl rfl rfl (out_k rfl rfl (fun _ => tauF_hi) (by simp [isLive, mkM]) (by simp [isLive, mkM]) (by simp [isLive, mkM]) (by simp [isLive, mkM]) (by repeat (first | exact hi_fam | refine hi_cons (by decide) ?_)) (by repeat (first | exact hi_fam | refine hi_cons (by decide) ?_)))) (by simp [MLe, blkLe, svLe, svLes, lk, mkM, isLive, tauL, tauF, tauN, tauT, tauG, tauS, svLes_ints, svLes_self, isDvs, isDvs_map, isDvs_app, isDvs_take, isDvs_set, isDvs_repl]))))⟩
              · try simp at hc7
                obtain rfl : c = y.places.toNat := by omega
                refine awp_exit ?_
                show AWp cx _ _ _
                refine rg ?_
                refine qv m_add ?_
                refine qv m_mv ?_
                exact ⟨j + 1, (by omega), (by simp only; omega), (tlG (n := y.steps.length) (L := Lw (part y.places.toNat r p V (j + 1)) y.places.toNat) (tauG [(1, 1), (5, 5), (11, 11)] (r + 1 + j) r) [(1, 0, some ⟨[.dv (i64 (y.places)), .dv (.list ((y.steps).map dStp))], 0, 24, 0, false⟩), (5, 0, some (outB y.steps.length tg0 y.places.toNat)), (11, 0, some ⟨[.dv (i64 (p : Nat))], 0, 3, 1, false⟩)] hg (tauG_inj hkr.symm (by decide) (by decide)) (by simp) (hF := by simp [FLe, svLe, lk, mkM, isLive, tauL, tauF, tauN, tauT, tauG, tauS]) (hM := mle_s (by simp [MLe, blkLe, svLe, svLes, lk, mkM, isLive, tauL, tauF, tauN, tauT, tauG, tauS, svLes_ints, svLes_self, isDvs, isDvs_map, isDvs_app, isDvs_take, isDvs_set, isDvs_repl]) (mle_s (le_blk (t := 5) (g := 0) (b := outB y.steps.length (tgk (r + 1 + j) r) y.places.toNat) rfl (by simp [mkM]) rfl rfl rfl rfl (give_out hkr.symm (by repeat (first | exact hi_fam | refine hi_cons (by decide) ?_)) (by simp [isLive, mkM]) (by simp [isLive, mkM]) (by repeat (first | exact hi_fam | refine hi_cons (by decide) ?_)))) (by simp [MLe, blkLe, svLe, svLes, lk, mkM, isLive, tauL, tauF, tauN, tauT, tauG, tauS, svLes_ints, svLes_self, isDvs, isDvs_map, isDvs_app, isDvs_take, isDvs_set, isDvs_repl]))) (hB := fun k l hk hl => give_B (by repeat (first | exact hi_fam | refine hi_cons (by decide) ?_)) (by simp [mkM]) (by simp [mkM]) hk hl))⟩
          · try simp at hc5
            have hje : j = y.steps.length - (r + 1) := by omega
            have hel : ∀ i, i < y.steps.length → Lw (part y.places.toNat r p V j) y.places.toNat i = Lw (elm y.places.toNat r p V) y.places.toNat i := fun i hi => by
              unfold Lw rl
              rw [part_elm (by omega)]
            refine awp_exit ?_
            show AWp cx _ _ _
            refine rg ?_
            refine qv m_mv ?_
            refine qv m_add ?_
            refine qv m_as ?_
            show AWp cx _ _ _
            refine rg ?_
            refine qv m_add ?_
            refine qv m_mv ?_
            exact ⟨(p + 1, r + 1, elm y.places.toNat r p V), ⟨_, _, by rw [hV]; exact hI.step hp (by omega) hf1 hf3⟩, (by simp only; omega), (tlI (L := Lw (elm y.places.toNat r p V) y.places.toNat) [(1, 1), (5, 5)] [(1, 0, some ⟨[.dv (i64 (y.places)), .dv (.list ((y.steps).map dStp))], 0, 24, 0, false⟩), (5, 0, some (outB y.steps.length tg0 y.places.toNat)), (11, 0, none)] (Hi.congr (by repeat (first | exact hi_fam | refine hi_cons (by decide) ?_)) hel) (hF := by simp [FLe, svLe, lk, mkM, isLive, tauL, tauF, tauN, tauT, tauG, tauS]) (hM := mle_s (by simp [MLe, blkLe, svLe, svLes, lk, mkM, isLive, tauL, tauF, tauN, tauT, tauG, tauS, svLes_ints, svLes_self, isDvs, isDvs_map, isDvs_app, isDvs_take, isDvs_set, isDvs_repl]) (mle_s (le_blk (t := 5) (g := 0) (b := outB y.steps.length tg0 y.places.toNat) rfl (by simp [mkM]) rfl rfl rfl rfl (out_0 (fun _ => tauF_hi) (by repeat (first | exact hi_fam | refine hi_cons (by decide) ?_)) (by repeat (first | exact hi_fam | refine hi_cons (by decide) ?_)))) (by simp [MLe, blkLe, svLe, svLes, lk, mkM, isLive, tauL, tauF, tauN, tauT, tauG, tauS, svLes_ints, svLes_self, isDvs, isDvs_map, isDvs_app, isDvs_take, isDvs_set, isDvs_repl]))))⟩
      · try simp at hc3
        obtain rfl : p = y.places.toNat := by omega
        have hsp : ((spaceN y : Nat) : Int) = y.places - r := by
          unfold spaceN
          rw [hI.sp _ (by omega)]; omega
        refine awp_exit ?_
        show AWp cx _ _ _
        refine awp_seq ?_
        refine rg ?_
        refine qv (m_fdp fd24_0) ?_
        refine qv (m_ldp sz3 ag3) ?_
        refine qv m_mv ?_
        refine qv m_sub ?_
        refine qv m_as ?_
        refine qv m_as ?_
        show AWp cx _ _ _
        refine awp_ret ?_
        rw [show spaceR y = (y.places - (r : Int), 0) by unfold spaceR; rw [if_neg (by simp [h0]), hsp]]
        exact x2 (hr := (rI_)) (hr' := (rI_))
end Go.Ab.Try
set_option linter.all false
namespace Go.Ab.Try
open Go Go.Ab Go.Proofs
theorem f12 (y : Yd) : ACallsF Try.prog 12 [dYd y] (.one (.dv (.bool true))) := f12_of f46 y
end Go.Ab.Try
