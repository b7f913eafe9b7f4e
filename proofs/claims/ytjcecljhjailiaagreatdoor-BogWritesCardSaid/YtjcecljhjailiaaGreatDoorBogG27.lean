/- BogB3. -/
import Derived.Test.YtjcecljhjailiaaGreatDoorBogG26
import Derived.Test.YtjcecljhjailiaaGreatDoorBogG09
set_option linter.all false
namespace Go.Ab.Tryz
open Go Go.Ab Go.Proofs Go.Ab.Moss Go.Ab.Bog
open Go.Ab.Heap (ata ata_get ata_set)
structure RInv (B : Tx) (out : List Tx) (s : Nat) (R : Tx) : Prop where
  eq : readL 100 0 B = (out ++ (readL (100 - out.length) s R).1, (readL (100 - out.length) s R).2)
  le : out.length ≤ 100
  rl : R.length ≤ B.length
  sl : s < 1000003
theorem RInv.start (B : Tx) : RInv B [] 0 B := ⟨by simp, by simp, Nat.le_refl _, by decide⟩
theorem RInv.stop {B : Tx} {out : List Tx} {s : Nat} {R : Tx} (h : RInv B out s R) (hf : 100 ≤ out.length ∨ rdOne s R = none) : readL 100 0 B = (out, R) := by
  have e : readL (100 - out.length) s R = ([], R) := by
    rcases hf with h1 | h1
    · rw [show 100 - out.length = 0 by omega]; rfl
    · cases 100 - out.length with
      | zero => rfl
      | succ f => simp only [readL, h1]
  rw [h.eq, e]; simp
theorem RInv.next {B : Tx} {out : List Tx} {s : Nat} {R : Tx} (h : RInv B out s R) (hl : out.length < 100) {o : Tx} {s' : Nat} {R' : Tx} (hr : rdOne s R = some (o, s', R')) : RInv B (out ++ [o]) s' R' := by
  obtain ⟨h1, h2, h3⟩ := rd_some hr
  refine ⟨?_, by simp; omega, ?_, by rw [h2]; exact sumL_lt h.sl o⟩
  · rw [h.eq]
    obtain ⟨f, hf⟩ : ∃ f, 100 - out.length = f + 1 := ⟨99 - out.length, by omega⟩
    rw [hf, show 100 - (out ++ [o]).length = f by simp; omega]
    simp only [readL, hr, List.append_assoc, List.cons_append, List.nil_append]
  · have := h.rl
    rw [h3] at this
    simp only [List.length_append] at this
    omega
theorem rd_no1 {s : Nat} {R : Tx} (h : (tw 10 R).length = R.length) : rdOne s R = none := by unfold rdOne; rw [if_pos (.inl h)]
theorem rd_no2 {s : Nat} {R : Tx} (h : (tw 32 (tw 10 R)).length = (tw 10 R).length) : rdOne s R = none := by unfold rdOne; rw [if_pos (.inr h)]
theorem rd_no3 {s : Nat} {R : Tx} (h : isTx ((tw 10 R).drop ((tw 32 (tw 10 R)).length + 1)) = false) : rdOne s R = none := by
  unfold rdOne
  split
  · rfl
  · rfl
theorem rd_no4 {s : Nat} {R : Tx} (h : ¬ dd (sumL s ((tw 10 R).drop ((tw 32 (tw 10 R)).length + 1))) = tw 32 (tw 10 R)) : rdOne s R = none := by
  unfold rdOne
  split
  · rfl
  · split
    · rfl
    · rfl
theorem rd_yes {s : Nat} {R : Tx} (h1 : (tw 10 R).length < R.length) (h2 : (tw 32 (tw 10 R)).length < (tw 10 R).length) (h3 : isTx ((tw 10 R).drop ((tw 32 (tw 10 R)).length + 1)) = true) (h4 : dd (sumL s ((tw 10 R).drop ((tw 32 (tw 10 R)).length + 1))) = tw 32 (tw 10 R)) :
    rdOne s R = some ((tw 10 R).drop ((tw 32 (tw 10 R)).length + 1), sumL s ((tw 10 R).drop ((tw 32 (tw 10 R)).length + 1)), R.drop ((tw 10 R).length + 1)) := by
  unfold rdOne
  rw [if_neg (by omega), if_neg (by rw [h3]; decide), if_pos h4]
theorem line_text_iff {s : Nat} {X : Tx} (h2 : (tw 32 X).length < X.length) : (lineL s (X.drop ((tw 32 X).length + 1)) = X ++ [10]) ↔ dd (sumL s (X.drop ((tw 32 X).length + 1))) = tw 32 X := by
  have e := tw_split 32 h2
  generalize hY : X.drop ((tw 32 X).length + 1) = Y at *
  unfold lineL
  refine ⟨fun h => ?_, fun h => ?_⟩
  · rw [e] at h
    have h' : dd (sumL s Y) ++ (32 :: (Y ++ [10])) = tw 32 X ++ (32 :: (Y ++ [10])) := by simpa using h
    exact List.append_cancel_right h'
  · rw [h]
    conv => rhs; rw [e]
    simp
theorem cut_yes {c : UInt8} {T : Tx} (h : (Lib.cut T [c]).2.2 = true) : (tw c T).length < T.length ∧ Lib.cut T [c] = (tw c T, T.drop ((tw c T).length + 1), true) := by
  rw [cut_tw] at h ⊢
  split
  · rename_i h1; exact ⟨h1, rfl⟩
  · rename_i h1; rw [if_neg h1] at h; cases h
theorem cut_no {c : UInt8} {T : Tx} (h : (Lib.cut T [c]).2.2 = false) : (tw c T).length = T.length := by
  rw [cut_tw] at h
  have := tw_le c T
  split at h
  · cases h
  · omega
theorem cut_le1 (c : UInt8) (T : Tx) : (Lib.cut T [c]).1.length ≤ T.length := by
  rw [cut_tw]
  have := tw_le c T
  split <;> simp <;> omega
theorem cut_le2 (c : UInt8) (T : Tx) : (Lib.cut T [c]).2.1.length ≤ T.length := by
  rw [cut_tw]
  split <;> simp
def fstL (R : Tx) : Tx := (Lib.cut R [10]).1
def ordL (R : Tx) : Tx := (Lib.cut (fstL R) [32]).2.1
theorem fstL_le (R : Tx) : (fstL R).length ≤ R.length := cut_le1 10 R
theorem ordL_le (R : Tx) : (ordL R).length ≤ R.length := Nat.le_trans (cut_le2 32 (fstL R)) (fstL_le R)
theorem rd_a {s : Nat} {R : Tx} (h : (Lib.cut R [10]).2.2 = false) : rdOne s R = none := rd_no1 (cut_no h)
theorem fst_tw {R : Tx} (h : (Lib.cut R [10]).2.2 = true) : fstL R = tw 10 R := by unfold fstL; rw [(cut_yes h).2]
theorem rd_b {s : Nat} {R : Tx} (h1 : (Lib.cut R [10]).2.2 = true) (h2 : (Lib.cut (fstL R) [32]).2.2 = false) : rdOne s R = none := by
  rw [fst_tw h1] at h2
  exact rd_no2 (cut_no h2)
theorem ord_tw {R : Tx} (h1 : (Lib.cut R [10]).2.2 = true) (h2 : (Lib.cut (fstL R) [32]).2.2 = true) : ordL R = (tw 10 R).drop ((tw 32 (tw 10 R)).length + 1) := by
  unfold ordL
  rw [(cut_yes h2).2, fst_tw h1]
theorem rd_c {s : Nat} {R : Tx} (h1 : (Lib.cut R [10]).2.2 = true) (h2 : (Lib.cut (fstL R) [32]).2.2 = true) (h3 : isTx (ordL R) = false) : rdOne s R = none := by
  rw [ord_tw h1 h2] at h3
  exact rd_no3 h3
theorem rd_d {s : Nat} {R : Tx} (h1 : (Lib.cut R [10]).2.2 = true) (h2 : (Lib.cut (fstL R) [32]).2.2 = true) (h4 : ¬ lineL s (ordL R) = fstL R ++ [10]) : rdOne s R = none := by
  have h5 := (cut_yes h2).1
  rw [fst_tw h1] at h5
  rw [ord_tw h1 h2, fst_tw h1, line_text_iff h5] at h4
  exact rd_no4 h4
theorem rd_e {s : Nat} {R : Tx} (h1 : (Lib.cut R [10]).2.2 = true) (h2 : (Lib.cut (fstL R) [32]).2.2 = true) (h3 : isTx (ordL R) = true) (h4 : lineL s (ordL R) = fstL R ++ [10]) :
    rdOne s R = some (ordL R, sumL s (ordL R), R.drop (lineL s (ordL R)).length) ∧ (lineL s (ordL R)).length ≤ R.length := by
  have h5 := (cut_yes h2).1
  have h6 := (cut_yes h1).1
  have h7 : (lineL s (ordL R)).length = (tw 10 R).length + 1 := by rw [h4, fst_tw h1]; simp
  rw [fst_tw h1] at h5
  rw [h7]
  rw [ord_tw h1 h2, fst_tw h1, line_text_iff h5] at h4
  rw [ord_tw h1 h2] at h3 ⊢
  exact ⟨rd_yes h6 h5 h3 h4, by omega⟩
set_option maxHeartbeats 1000000 in
theorem f36 (B : Tx) (hB : B.length < 1000000) : ACallsF Tryz.prog 36 [dTx B] (.many [rX (readL 100 0 B).1, .dv (dTx (readL 100 0 B).2)]) := by
  refine callsF_of Tryz.func36 rfl rfl (by rw [Tryz.ntmps36]; simp) fun cx hP hn hg => ?_
  rw [Tryz.ntmps36] at hn
  rw [startF_lk, none_mkM]
  simp only [List.nil_append, List.append_nil, List.cons_append, zipSV, Nat.reduceAdd]
  refine awp_seq ?_
  refine rg ?_
  refine qv m_as ?_
  refine qv m_as ?_
  show AWp cx _ _ _
  refine awp_seq ?_
  refine rg ?_
  refine qv m_as ?_
  show AWp cx _ _ _
  refine awp_seq ?_
  refine rg ?_
  refine qv m_as ?_
  show AWp cx _ _ _
  refine awp_seq ?_
  refine awp_block ?_
  refine awp_loop (ι := List Tx × Nat × Tx) (fun s => ⟨lk [(0, .dv (dTx s.2.2)), (4, .sl 4 0 0 ((s.1).length)), (5, .dv (i64 (s.2.1 : Nat)))], mkM [(4, 0, some (rowX s.1))]⟩) (fun s => RInv B s.1 s.2.1 s.2.2) (fun s => 100 - s.1.length) ([], 0, B) (RInv.start B) (tl [] (hF := by simp [FLe, svLe, lk, mkM, isLive, tauL, svLes_txs]) (hM := by simp [MLe, blkLe, svLe, svLes, lk, mkM, isLive, tauL, svLes_ints, svLes_self, isDvs, isDvs_map, isDvs_app, isDvs_take, isDvs_set, isDvs_repl, svLes_txs])) ?_
  intro ⟨out, sm, R⟩ hφ0
  dsimp only at hφ0 ⊢
  have hle := hφ0.le
  have hrl := hφ0.rl
  have hsl := hφ0.sl
  have hs0 := sum0_small hsl
  have hfl := fstL_le R
  have hol := ordL_le R
  refine awp_seq ?_
  refine awp_seq ?_
  refine rg ?_
  refine qv m_mv ?_
  refine qv (m_lenR il30) ?_
  refine qv m_lss ?_
  show AWp cx _ _ _
  refine cd (fun hc0 => ?_) (fun hc0 => ?_)
  · try simp at hc0
    refine awp_skip ?_
    show AWp cx _ _ _
    refine awp_block ?_
    refine awp_seq ?_
    refine rg ?_
    have ho : out.length < 100 := by omega
    refine qv m_mv ?_
    refine qqF (f83 R [10] (by omega)) ?_
    refine qv m_mv ?_
    rw [show (Lib.cut R [10]).1 = fstL R from rfl]
    refine qv m_ext ?_
    refine qv m_ext ?_
    refine qv m_ext ?_
    refine qv m_as ?_
    refine qv m_as ?_
    refine qv m_as ?_
    show AWp cx _ _ _
    refine awp_seq ?_
    refine rg ?_
    refine qv m_mv ?_
    refine qqF (f83 (fstL R) [32] (by omega)) ?_
    refine qv m_mv ?_
    rw [show (Lib.cut (fstL R) [32]).2.1 = ordL R from rfl]
    refine qv m_ext ?_
    refine qv m_ext ?_
    refine qv m_ext ?_
    refine qv m_as ?_
    refine qv m_as ?_
    refine qv m_as ?_
    show AWp cx _ _ _
    refine awp_seq ?_
    refine awp_seq ?_
    refine rg ?_
    refine qv m_mv ?_
    refine qv m_not ?_
    refine qx m_mv (fun hg31 => ?_) (fun hg31 => ?_)
    · try simp at hg31
      refine qk ?_
      refine qk ?_
      refine qv m_pk ?_
      refine qv m_mv ?_
      refine qk ?_
      refine qk ?_
      refine qk ?_
      refine qv m_pk ?_
      show AWp cx _ _ _
      refine cdT (hb := by first | rfl | simp | simp_all) (ht := ?_)
      refine awp_exit ?_
      show AWp cx _ _ _
      refine awp_seq ?_
      have hdn : readL 100 0 B = (out, R) := by
        first
        | exact hφ0.stop (.inl (by omega))
        | exact hφ0.stop (.inr (rd_a (by assumption)))
        | exact hφ0.stop (.inr (rd_b (by assumption) (by assumption)))
        | exact hφ0.stop (.inr (rd_c (by assumption) (by assumption) (by assumption)))
        | exact hφ0.stop (.inr (rd_d (by assumption) (by assumption) (by assumption)))
      refine rg ?_
      refine qv m_mv ?_
      refine qv m_mv ?_
      refine qv m_as ?_
      refine qv m_as ?_
      show AWp cx _ _ _
      refine awp_ret ?_
      exact x2 (hr := (rX_ (by rw [hdn]))) (hr' := (rD_ (by rw [hdn])))
    · try simp at hg31
      refine qv m_mv ?_
      refine qv m_not ?_
      refine qv m_pk ?_
      refine qx m_mv (fun hg35 => ?_) (fun hg35 => ?_)
      · try simp at hg35
        refine qk ?_
        refine qk ?_
        refine qk ?_
        refine qv m_pk ?_
        show AWp cx _ _ _
        refine cdT (hb := by first | rfl | simp | simp_all) (ht := ?_)
        refine awp_exit ?_
        show AWp cx _ _ _
        refine awp_seq ?_
        have hdn : readL 100 0 B = (out, R) := by
          first
          | exact hφ0.stop (.inl (by omega))
          | exact hφ0.stop (.inr (rd_a (by assumption)))
          | exact hφ0.stop (.inr (rd_b (by assumption) (by assumption)))
          | exact hφ0.stop (.inr (rd_c (by assumption) (by assumption) (by assumption)))
          | exact hφ0.stop (.inr (rd_d (by assumption) (by assumption) (by assumption)))
        refine rg ?_
        refine qv m_mv ?_
        refine qv m_mv ?_
        refine qv m_as ?_
        refine qv m_as ?_
        show AWp cx _ _ _
        refine awp_ret ?_
        exact x2 (hr := (rX_ (by rw [hdn]))) (hr' := (rD_ (by rw [hdn])))
      · try simp at hg35
        refine qv m_mv ?_
        refine qqF (f84 (ordL R) (by omega)) ?_
        refine qv m_not ?_
        refine qv m_pk ?_
        show AWp cx _ _ _
        refine cd (fun hc1 => ?_) (fun hc1 => ?_)
        · try simp at hc1
          refine awp_exit ?_
          show AWp cx _ _ _
          refine awp_seq ?_
          have hdn : readL 100 0 B = (out, R) := by
            first
            | exact hφ0.stop (.inl (by omega))
            | exact hφ0.stop (.inr (rd_a (by assumption)))
            | exact hφ0.stop (.inr (rd_b (by assumption) (by assumption)))
            | exact hφ0.stop (.inr (rd_c (by assumption) (by assumption) (by assumption)))
            | exact hφ0.stop (.inr (rd_d (by assumption) (by assumption) (by assumption)))
          refine rg ?_
          refine qv m_mv ?_
          refine qv m_mv ?_
          refine qv m_as ?_
          refine qv m_as ?_
          show AWp cx _ _ _
          refine awp_ret ?_
          exact x2 (hr := (rX_ (by rw [hdn]))) (hr' := (rD_ (by rw [hdn])))
        · try simp at hc1
          refine awp_skip ?_
          show AWp cx _ _ _
          refine awp_seq ?_
          refine rg ?_
          refine qv m_mv ?_
          refine qv m_mv ?_
          refine qqF (f85 (sm : Nat) (ordL R) (by omega)) ?_
          refine qv m_mv ?_
          rw [hs0]
          refine qv m_ext ?_
          refine qv m_ext ?_
          refine qv m_as ?_
          refine qv m_as ?_
          show AWp cx _ _ _
          refine awp_seq ?_
          refine awp_seq ?_
          refine rg ?_
          refine qv m_mv ?_
          refine qv m_mv ?_
          refine qv m_cat ?_
          refine qv m_sne ?_
          show AWp cx _ _ _
          refine cd (fun hc2 => ?_) (fun hc2 => ?_)
          · try simp at hc2
            refine awp_exit ?_
            show AWp cx _ _ _
            refine awp_seq ?_
            have hdn : readL 100 0 B = (out, R) := by
              first
              | exact hφ0.stop (.inl (by omega))
              | exact hφ0.stop (.inr (rd_a (by assumption)))
              | exact hφ0.stop (.inr (rd_b (by assumption) (by assumption)))
              | exact hφ0.stop (.inr (rd_c (by assumption) (by assumption) (by assumption)))
              | exact hφ0.stop (.inr (rd_d (by assumption) (by assumption) (by assumption)))
            refine rg ?_
            refine qv m_mv ?_
            refine qv m_mv ?_
            refine qv m_as ?_
            refine qv m_as ?_
            show AWp cx _ _ _
            refine awp_ret ?_
            exact x2 (hr := (rX_ (by rw [hdn]))) (hr' := (rD_ (by rw [hdn])))
          · try simp at hc2
            obtain ⟨hre, hll⟩ := rd_e (s := sm) (by assumption) (by assumption) (by assumption) (by simpa using hc2)
            have hnx := hφ0.next ho hre
            refine awp_skip ?_
            show AWp cx _ _ _
            refine rd mixed ?_
            refine zv m_mv ?_
            refine zv m_mv ?_
            refine zr (m_bsl el30 ze9 sz9) ?_
            refine za1 (m_app1 el30 el30 ze9 sz9 by9 (hc := tx_snoc)) ?_
            refine zv m_mv ?_
            refine zv m_mv ?_
            refine zv m_mv ?_
            refine zv (m_slen is9) ?_
            refine zv (m_scut (lineL sm (ordL R)).length R.length is9 hll (Nat.le_refl _)) ?_
            refine zv m_as ?_
            refine zv m_as ?_
            refine zv m_as ?_
            refine ⟨by rfl, ?_⟩
            exact ⟨(out ++ [ordL R], sumL sm (ordL R), R.drop (lineL sm (ordL R)).length), hnx, (by simp; omega), (tl [(4, 53)] (hF := by simp [FLe, svLe, lk, mkM, isLive, tauL, svLes_txs]) (hM := by simp [MLe, blkLe, svLe, svLes, lk, mkM, isLive, tauL, svLes_ints, svLes_self, isDvs, isDvs_map, isDvs_app, isDvs_take, isDvs_set, isDvs_repl, svLes_txs]))⟩
  · try simp at hc0
    refine awp_exit ?_
    show AWp cx _ _ _
    refine awp_seq ?_
    have hdn : readL 100 0 B = (out, R) := by
      first
      | exact hφ0.stop (.inl (by omega))
      | exact hφ0.stop (.inr (rd_a (by assumption)))
      | exact hφ0.stop (.inr (rd_b (by assumption) (by assumption)))
      | exact hφ0.stop (.inr (rd_c (by assumption) (by assumption) (by assumption)))
      | exact hφ0.stop (.inr (rd_d (by assumption) (by assumption) (by assumption)))
    refine rg ?_
    refine qv m_mv ?_
    refine qv m_mv ?_
    refine qv m_as ?_
    refine qv m_as ?_
    show AWp cx _ _ _
    refine awp_ret ?_
    exact x2 (hr := (rX_ (by rw [hdn]))) (hr' := (rD_ (by rw [hdn])))
end Go.Ab.Tryz
