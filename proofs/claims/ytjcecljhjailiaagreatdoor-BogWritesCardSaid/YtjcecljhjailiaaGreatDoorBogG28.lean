/- BogB4. -/
import Derived.Test.YtjcecljhjailiaaGreatDoorBogG27
import Derived.Test.YtjcecljhjailiaaGreatDoorBogG09
set_option linter.all false
namespace Go.Ab.Tryz
open Go Go.Ab Go.Proofs Go.Ab.Moss Go.Ab.Bog
open Go.Ab.Heap (ata ata_get ata_set)
theorem tw_eq_take {c : UInt8} {R : Tx} {e : Nat} (h : (tw c R).length = e) : R.take e = tw c R := by rw [← h]; exact tw_take c R
theorem tw_pre {c : UInt8} {R : Tx} {e : Nat} (he : e ≤ R.length) (hn : ∀ j (hj : j < R.length), j < e → R[j] ≠ c) : ∀ b ∈ R.take e, b ≠ c := by
  intro b hb
  obtain ⟨j, hj, rfl⟩ := List.getElem_of_mem hb
  simp only [List.length_take] at hj
  rw [List.getElem_take]
  exact hn j (by omega) (by omega)
theorem tw_end {c : UInt8} {R : Tx} {e : Nat} (he : e ≤ R.length) (hl : R.length ≤ e) (hn : ∀ j (hj : j < R.length), j < e → R[j] ≠ c) : (tw c R).length = e := by
  have h := tw_pre he hn
  rw [List.take_of_length_le hl] at h
  rw [tw_all h]; omega
theorem tw_stop {c : UInt8} {R : Tx} {e : Nat} (he : e < R.length) (hc : R[e] = c) (hn : ∀ j (hj : j < R.length), j < e → R[j] ≠ c) : (tw c R).length = e := by
  have h := tw_pre (by omega) hn
  have h2 : R = R.take e ++ c :: R.drop (e + 1) := by
    rw [← hc]; simp
  rw [h2, tw_hit _ h]; simp; omega
theorem tw2_end {R : Tx} {e a : Nat} (h : (tw 10 R).length = e) (ha : a ≤ e) (hl : e ≤ a) (hn : ∀ j (hj : j < R.length), j < a → R[j] ≠ 32) : (tw 32 (tw 10 R)).length = a := by
  have hle := tw_le 10 R
  have hT := tw_eq_take h
  refine tw_end (by omega) (by omega) fun j hj hja => ?_
  have e1 : (tw 10 R)[j] = R[j]'(by omega) := by simp only [← hT, List.getElem_take]
  rw [e1]; exact hn j (by omega) hja
theorem tw2_stop {R : Tx} {e a : Nat} (h : (tw 10 R).length = e) (ha : a < R.length) (hae : a < e) (hc : R[a] = 32) (hn : ∀ j (hj : j < R.length), j < a → R[j] ≠ 32) : (tw 32 (tw 10 R)).length = a := by
  have hle := tw_le 10 R
  have hT := tw_eq_take h
  have e0 : ∀ j (hj : j < (tw 10 R).length), (tw 10 R)[j] = R[j]'(by omega) := fun j hj => by simp only [← hT, List.getElem_take]
  refine tw_stop (by omega) (by rw [e0 a (by omega)]; exact hc) fun j hj hja => ?_
  rw [e0 j hj]; exact hn j (by omega) hja
theorem byteI {b : UInt8} {n : Nat} (hn : n < 256) (h : (b.toNat : Int) = n) : b = UInt8.ofNat n := UInt8.toNat_inj.1 (by rw [UInt8.toNat_ofNat_of_lt' (by simpa using hn)]; omega)
theorem ref_parts {R : Tx} {e a : Nat} (h1 : (tw 10 R).length = e) (h2 : (tw 32 (tw 10 R)).length = a) : (tw 10 R).drop ((tw 32 (tw 10 R)).length + 1) = (R.take e).drop (a + 1) ∧ tw 32 (tw 10 R) = R.take a ∧ a ≤ e ∧ e ≤ R.length := by
  have l1 := tw_le 32 (tw 10 R)
  have l2 := tw_le 10 R
  refine ⟨by rw [h2, tw_eq_take h1], ?_, by omega, by omega⟩
  rw [← tw_eq_take h2, ← tw_eq_take h1, List.take_take, Nat.min_eq_left (by omega)]
theorem ref_yes {s : Nat} {R : Tx} {e a : Nat} (h1 : (tw 10 R).length = e) (h2 : (tw 32 (tw 10 R)).length = a) (he : e < R.length) (ha : a < e) (h3 : isTx ((R.take e).drop (a + 1)) = true) (h4 : dd (sumL s ((R.take e).drop (a + 1))) = R.take a) :
    rdOne s R = some ((R.take e).drop (a + 1), sumL s ((R.take e).drop (a + 1)), R.drop (e + 1)) := by
  obtain ⟨e1, e2, _, _⟩ := ref_parts h1 h2
  have h := rd_yes (s := s) (R := R) (by omega) (by omega) (by rw [e1]; exact h3) (by rw [e1, e2]; exact h4)
  rw [e1, h1] at h
  exact h
theorem ref_no3 {s : Nat} {R : Tx} {e a : Nat} (h1 : (tw 10 R).length = e) (h2 : (tw 32 (tw 10 R)).length = a) (h3 : isTx ((R.take e).drop (a + 1)) = false) : rdOne s R = none :=
  rd_no3 (by rw [(ref_parts h1 h2).1]; exact h3)
theorem ref_no4 {s : Nat} {R : Tx} {e a : Nat} (h1 : (tw 10 R).length = e) (h2 : (tw 32 (tw 10 R)).length = a) (h4 : ¬ dd (sumL s ((R.take e).drop (a + 1))) = R.take a) : rdOne s R = none :=
  rd_no4 (by rw [(ref_parts h1 h2).1, (ref_parts h1 h2).2.1]; exact h4)
set_option maxHeartbeats 4000000 in
theorem f37 (B : Tx) (hB : B.length < 1000000) : ACallsF Tryz.prog 37 [dTx B] (.many [rX (readL 100 0 B).1, .dv (dTx (readL 100 0 B).2)]) := by
  refine callsF_of Tryz.func37 rfl rfl (by rw [Tryz.ntmps37]; simp) fun cx hP hn hg => ?_
  rw [Tryz.ntmps37] at hn
  rw [startF_lk, none_mkM]
  simp only [List.nil_append, List.append_nil, List.cons_append, zipSV, Nat.reduceAdd]
  refine awp_seq ?_
  refine rg ?_
  refine qv m_as ?_
  refine qv m_as ?_
  show AWp cx _ _ _
  refine awp_seq ?_
  refine rg ?_
  refine qv m_as ?_
  show AWp cx _ _ _
  refine awp_seq ?_
  refine rg ?_
  refine qv m_as ?_
  show AWp cx _ _ _
  refine awp_seq ?_
  refine awp_block ?_
  refine awp_loop (ι := List Tx × Nat × Tx) (fun s => ⟨lk [(0, .dv (dTx s.2.2)), (4, .sl 4 0 0 ((s.1).length)), (5, .dv (i64 (s.2.1 : Nat)))], mkM [(4, 0, some (rowX s.1))]⟩) (fun s => RInv B s.1 s.2.1 s.2.2) (fun s => 100 - s.1.length) ([], 0, B) (RInv.start B) (tl [] (hF := by simp [FLe, svLe, lk, mkM, isLive, tauL, svLes_txs]) (hM := by simp [MLe, blkLe, svLe, svLes, lk, mkM, isLive, tauL, svLes_ints, svLes_self, isDvs, isDvs_map, isDvs_app, isDvs_take, isDvs_set, isDvs_repl, svLes_txs])) ?_
  intro ⟨out, sm, R⟩ hφ0
  dsimp only at hφ0 ⊢
  have hle := hφ0.le
  have hrl := hφ0.rl
  have hsl := hφ0.sl
  have hs0 := sum0_small hsl
  refine awp_seq ?_
  refine awp_seq ?_
  refine rg ?_
  refine qv m_mv ?_
  refine qv (m_lenR il30) ?_
  refine qv m_lss ?_
  show AWp cx _ _ _
  refine cd (fun hc0 => ?_) (fun hc0 => ?_)
  · try simp at hc0
    refine awp_skip ?_
    show AWp cx _ _ _
    refine awp_block ?_
    refine awp_seq ?_
    refine rg ?_
    skip
    refine qv m_as ?_
    refine qv m_as ?_
    show AWp cx _ _ _
    refine awp_seq ?_
    refine awp_block ?_
    refine awp_loop (ι := Nat) (fun e => ⟨lk [(0, .dv (dTx R)), (4, .sl 4 0 0 out.length), (5, .dv (i64 (sm : Nat))), (6, .dv (i64 (0))), (7, .dv (i64 (e : Nat)))], mkM [(4, 0, some (rowX out))]⟩) (fun e => e ≤ R.length ∧ ∀ j (hj : j < R.length), j < e → R[j] ≠ 10) (fun e => R.length - e) 0 ⟨Nat.zero_le _, fun j hj h => absurd h (Nat.not_lt_zero j)⟩ (tl [(4, 4)] (hF := by simp [FLe, svLe, lk, mkM, isLive, tauL, svLes_txs]) (hM := by simp [MLe, blkLe, svLe, svLes, lk, mkM, isLive, tauL, svLes_ints, svLes_self, isDvs, isDvs_map, isDvs_app, isDvs_take, isDvs_set, isDvs_repl, svLes_txs])) ?_
    intro e hφ1
    refine awp_seq ?_
    refine awp_seq ?_
    refine rg ?_
    refine qv m_mv ?_
    refine qv m_mv ?_
    refine qv (m_slen is9) ?_
    refine qv m_lss ?_
    refine qx m_mv (fun hg16 => ?_) (fun hg16 => ?_)
    · try simp at hg16
      have he : e < R.length := by omega
      have hb : R[e]? = some R[e] := List.getElem?_eq_getElem he
      refine qv m_mv ?_
      refine qv m_mv ?_
      refine qv (m_sAt e is9 hb) ?_
      refine qv m_neq ?_
      refine qv m_pk ?_
      show AWp cx _ _ _
      refine cd (fun hc1 => ?_) (fun hc1 => ?_)
      · try simp at hc1
        refine awp_skip ?_
        show AWp cx _ _ _
        refine awp_block ?_
        refine rg ?_
        refine qv m_mv ?_
        refine qv m_add ?_
        refine qv m_as ?_
        exact ⟨e + 1, ⟨he, fun j hj h => by
          rcases Nat.lt_or_ge j e with h1 | h1
          · exact hφ1.2 j hj h1
          · obtain rfl : j = e := by omega
            exact fun q => by rw [q] at hc1; simp at hc1⟩, (by simp only; omega), (tl [(4, 4)] (hF := by simp [FLe, svLe, lk, mkM, isLive, tauL, svLes_txs]) (hM := by simp [MLe, blkLe, svLe, svLes, lk, mkM, isLive, tauL, svLes_ints, svLes_self, isDvs, isDvs_map, isDvs_app, isDvs_take, isDvs_set, isDvs_repl, svLes_txs]))⟩
      · try simp at hc1
        refine awp_exit ?_
        show AWp cx _ _ _
        refine awp_seq ?_
        refine awp_block ?_
        refine awp_loop (ι := Nat) (fun a => ⟨lk [(0, .dv (dTx R)), (4, .sl 4 0 0 out.length), (5, .dv (i64 (sm : Nat))), (6, .dv (i64 (a : Nat))), (7, .dv (i64 (e : Nat)))], mkM [(4, 0, some (rowX out))]⟩) (fun a => (tw 10 R).length = e ∧ a ≤ e ∧ ∀ j (hj : j < R.length), j < a → R[j] ≠ 32) (fun a => e - a) 0 ⟨by first | exact tw_end hφ1.1 (by omega) hφ1.2 | exact tw_stop he (byteI (n := 10) (by decide) (by simpa using hc1)) hφ1.2, Nat.zero_le _, fun j hj h => absurd h (Nat.not_lt_zero j)⟩ (tl [(4, 4)] (hF := by simp [FLe, svLe, lk, mkM, isLive, tauL, svLes_txs]) (hM := by simp [MLe, blkLe, svLe, svLes, lk, mkM, isLive, tauL, svLes_ints, svLes_self, isDvs, isDvs_map, isDvs_app, isDvs_take, isDvs_set, isDvs_repl, svLes_txs])) ?_
        intro a hφ2
        refine awp_seq ?_
        refine awp_seq ?_
        refine rg ?_
        refine qv m_mv ?_
        refine qv m_mv ?_
        refine qv m_lss ?_
        refine qx m_mv (fun hg27 => ?_) (fun hg27 => ?_)
        · try simp at hg27
          have ha : a < e := by omega
          have hel := tw_le 10 R
          have haR : a < R.length := by omega
          have hb2 : R[a]? = some R[a] := List.getElem?_eq_getElem haR
          refine qv m_mv ?_
          refine qv m_mv ?_
          refine qv (m_sAt a is9 hb2) ?_
          refine qv m_neq ?_
          refine qv m_pk ?_
          show AWp cx _ _ _
          refine cd (fun hc2 => ?_) (fun hc2 => ?_)
          · try simp at hc2
            refine awp_skip ?_
            show AWp cx _ _ _
            refine awp_block ?_
            refine rg ?_
            refine qv m_mv ?_
            refine qv m_add ?_
            skip
            refine qv m_as ?_
            exact ⟨a + 1, ⟨hφ2.1, ha, fun j hj h => by
              rcases Nat.lt_or_ge j a with h1 | h1
              · exact hφ2.2.2 j hj h1
              · obtain rfl : j = a := by omega
                exact fun q => by rw [q] at hc2; simp at hc2⟩, (by simp only; omega), (tl [(4, 4)] (hF := by simp [FLe, svLe, lk, mkM, isLive, tauL, svLes_txs]) (hM := by simp [MLe, blkLe, svLe, svLes, lk, mkM, isLive, tauL, svLes_ints, svLes_self, isDvs, isDvs_map, isDvs_app, isDvs_take, isDvs_set, isDvs_repl, svLes_txs]))⟩
          · try simp at hc2
            refine awp_exit ?_
            show AWp cx _ _ _
            refine awp_seq ?_
            refine awp_seq ?_
            have hte := hφ2.1
            have hel := tw_le 10 R
            have hta : (tw 32 (tw 10 R)).length = a := by
              first
              | exact tw2_end hte hφ2.2.1 (by omega) hφ2.2.2
              | exact tw2_stop hte haR ha (byteI (n := 32) (by decide) (by simpa using hc2)) hφ2.2.2
            have ho : out.length < 100 := by omega
            have hol : ((R.take e).drop (a + 1)).length ≤ R.length := by simp; omega
            refine rg ?_
            refine qv m_mv ?_
            refine qv m_mv ?_
            refine qv (m_slen is9) ?_
            refine qv m_eql ?_
            refine qx m_mv (fun hg39 => ?_) (fun hg39 => ?_)
            · try simp at hg39
              refine qk ?_
              refine qk ?_
              refine qk ?_
              refine qv m_pk ?_
              refine qv m_mv ?_
              refine qk ?_
              refine qk ?_
              refine qk ?_
              refine qk ?_
              refine qk ?_
              refine qk ?_
              refine qk ?_
              refine qv m_pk ?_
              show AWp cx _ _ _
              refine cdT (hb := by first | rfl | simp | simp_all) (ht := ?_)
              refine awp_exit ?_
              show AWp cx _ _ _
              refine awp_seq ?_
              have hdn : readL 100 0 B = (out, R) := by
                first
                | exact hφ0.stop (.inl (by omega))
                | exact hφ0.stop (.inr (rd_no1 (by omega)))
                | exact hφ0.stop (.inr (rd_no2 (by omega)))
                | exact hφ0.stop (.inr (ref_no3 hte hta (by simpa using hc3)))
                | exact hφ0.stop (.inr (ref_no4 hte hta (by simpa using hc4)))
              refine rg ?_
              refine qv m_mv ?_
              refine qv m_mv ?_
              refine qv m_as ?_
              refine qv m_as ?_
              show AWp cx _ _ _
              refine awp_ret ?_
              exact x2 (hr := (rX_ (by rw [hdn]))) (hr' := (rD_ (by rw [hdn])))
            · try simp at hg39
              refine qv m_mv ?_
              refine qv m_mv ?_
              refine qv m_eql ?_
              refine qv m_pk ?_
              refine qx m_mv (fun hg44 => ?_) (fun hg44 => ?_)
              · try simp at hg44
                refine qk ?_
                refine qk ?_
                refine qk ?_
                refine qk ?_
                refine qk ?_
                refine qk ?_
                refine qk ?_
                refine qv m_pk ?_
                show AWp cx _ _ _
                refine cdT (hb := by first | rfl | simp | simp_all) (ht := ?_)
                refine awp_exit ?_
                show AWp cx _ _ _
                refine awp_seq ?_
                have hdn : readL 100 0 B = (out, R) := by
                  first
                  | exact hφ0.stop (.inl (by omega))
                  | exact hφ0.stop (.inr (rd_no1 (by omega)))
                  | exact hφ0.stop (.inr (rd_no2 (by omega)))
                  | exact hφ0.stop (.inr (ref_no3 hte hta (by simpa using hc3)))
                  | exact hφ0.stop (.inr (ref_no4 hte hta (by simpa using hc4)))
                refine rg ?_
                refine qv m_mv ?_
                refine qv m_mv ?_
                refine qv m_as ?_
                refine qv m_as ?_
                show AWp cx _ _ _
                refine awp_ret ?_
                exact x2 (hr := (rX_ (by rw [hdn]))) (hr' := (rD_ (by rw [hdn])))
              · try simp at hg44
                refine qv m_mv ?_
                refine qv m_mv ?_
                refine qv m_add ?_
                refine qv m_mv ?_
                refine qv (m_scut (a := R) (a + 1) e is9 (by omega) (by omega)) ?_
                refine qqF (f86 ((R.take e).drop (a + 1)) (by omega)) ?_
                refine qv m_not ?_
                refine qv m_pk ?_
                show AWp cx _ _ _
                refine cd (fun hc3 => ?_) (fun hc3 => ?_)
                · try simp at hc3
                  refine awp_exit ?_
                  show AWp cx _ _ _
                  refine awp_seq ?_
                  have hdn : readL 100 0 B = (out, R) := by
                    first
                    | exact hφ0.stop (.inl (by omega))
                    | exact hφ0.stop (.inr (rd_no1 (by omega)))
                    | exact hφ0.stop (.inr (rd_no2 (by omega)))
                    | exact hφ0.stop (.inr (ref_no3 hte hta (by simpa using hc3)))
                    | exact hφ0.stop (.inr (ref_no4 hte hta (by simpa using hc4)))
                  refine rg ?_
                  refine qv m_mv ?_
                  refine qv m_mv ?_
                  refine qv m_as ?_
                  refine qv m_as ?_
                  show AWp cx _ _ _
                  refine awp_ret ?_
                  exact x2 (hr := (rX_ (by rw [hdn]))) (hr' := (rD_ (by rw [hdn])))
                · try simp at hc3
                  refine awp_skip ?_
                  show AWp cx _ _ _
                  refine awp_seq ?_
                  refine rg ?_
                  refine qv m_mv ?_
                  refine qv m_mv ?_
                  refine qv m_add ?_
                  refine qv m_mv ?_
                  refine qv (m_scut (a := R) (a + 1) e is9 (by omega) (by omega)) ?_
                  refine qv m_as ?_
                  show AWp cx _ _ _
                  refine awp_seq ?_
                  refine awp_seq ?_
                  have hsm2 := sumL_lt hsl ((R.take e).drop (a + 1))
                  have hit := itoa_dd (sumL sm ((R.take e).drop (a + 1)))
                  refine rd mixed ?_
                  refine zv m_mv ?_
                  refine zv m_mv ?_
                  refine zqF (R := []) (f40 (sm : Nat) ((R.take e).drop (a + 1)) (by omega)) ?_
                  rw [hs0]
                  refine zqF (R := []) (f87 (sumL sm ((R.take e).drop (a + 1)) : Nat) (by omega) (by omega)) ?_
                  rw [hit]
                  refine zv m_mv ?_
                  refine zv m_mv ?_
                  refine zv (m_scut (a := R) 0 a is9 (by omega) (by omega)) ?_
                  refine zv m_sne ?_
                  refine ⟨by rfl, ?_⟩
                  show AWp cx _ _ _
                  refine cd (fun hc4 => ?_) (fun hc4 => ?_)
                  · try simp at hc4
                    refine awp_exit ?_
                    show AWp cx _ _ _
                    refine awp_seq ?_
                    have hdn : readL 100 0 B = (out, R) := by
                      first
                      | exact hφ0.stop (.inl (by omega))
                      | exact hφ0.stop (.inr (rd_no1 (by omega)))
                      | exact hφ0.stop (.inr (rd_no2 (by omega)))
                      | exact hφ0.stop (.inr (ref_no3 hte hta (by simpa using hc3)))
                      | exact hφ0.stop (.inr (ref_no4 hte hta (by simpa using hc4)))
                    refine rg ?_
                    refine qv m_mv ?_
                    refine qv m_mv ?_
                    refine qv m_as ?_
                    refine qv m_as ?_
                    show AWp cx _ _ _
                    refine awp_ret ?_
                    exact x2 (hr := (rX_ (by rw [hdn]))) (hr' := (rD_ (by rw [hdn])))
                  · try simp at hc4
                    have hre := ref_yes (s := sm) hte hta (by omega) (by omega) (by simpa using hc3) (by simpa using hc4)
                    have hnx := hφ0.next ho hre
                    refine awp_skip ?_
                    show AWp cx _ _ _
                    refine awp_seq ?_
                    refine rg ?_
                    refine qv m_mv ?_
                    refine qv m_mv ?_
                    refine qqF (f40 (sm : Nat) ((R.take e).drop (a + 1)) (by omega)) ?_
                    refine qv m_as ?_
                    show AWp cx _ _ _
                    refine awp_seq ?_
                    refine rg ?_
                    rw [hs0]
                    refine qv m_mv ?_
                    refine qv m_mv ?_
                    refine qr (m_bsl el30 ze9 sz9) ?_
                    refine qa1 (m_app1 el30 el30 ze9 sz9 by9 (hc := tx_snoc)) ?_
                    refine qv m_as ?_
                    show AWp cx _ _ _
                    refine rg ?_
                    refine qv m_mv ?_
                    refine qv m_mv ?_
                    refine qv m_add ?_
                    refine qv (m_scut (a := R) (e + 1) R.length is9 (by omega) (Nat.le_refl _)) ?_
                    refine qv m_as ?_
                    exact ⟨(out ++ [((R.take e).drop (a + 1))], sumL sm ((R.take e).drop (a + 1)), R.drop (e + 1)), hnx, (by simp; omega), (tl [(4, 72)] (hF := by simp [FLe, svLe, lk, mkM, isLive, tauL, svLes_txs]) (hM := by simp [MLe, blkLe, svLe, svLes, lk, mkM, isLive, tauL, svLes_ints, svLes_self, isDvs, isDvs_map, isDvs_app, isDvs_take, isDvs_set, isDvs_repl, svLes_txs]))⟩
        · try simp at hg27
          refine qk ?_
          refine qk ?_
          refine qk ?_
          refine qk ?_
          refine qv m_pk ?_
          show AWp cx _ _ _
          refine cdF (hb := by first | rfl | simp | simp_all) (ht := ?_)
          refine awp_exit ?_
          show AWp cx _ _ _
          refine awp_seq ?_
          refine awp_seq ?_
          have hte := hφ2.1
          have hel := tw_le 10 R
          have hta : (tw 32 (tw 10 R)).length = a := by
            first
            | exact tw2_end hte hφ2.2.1 (by omega) hφ2.2.2
            | exact tw2_stop hte haR ha (byteI (n := 32) (by decide) (by simpa using hc2)) hφ2.2.2
          have ho : out.length < 100 := by omega
          have hol : ((R.take e).drop (a + 1)).length ≤ R.length := by simp; omega
          refine rg ?_
          refine qv m_mv ?_
          refine qv m_mv ?_
          refine qv (m_slen is9) ?_
          refine qv m_eql ?_
          refine qx m_mv (fun hg39 => ?_) (fun hg39 => ?_)
          · try simp at hg39
            refine qk ?_
            refine qk ?_
            refine qk ?_
            refine qv m_pk ?_
            refine qv m_mv ?_
            refine qk ?_
            refine qk ?_
            refine qk ?_
            refine qk ?_
            refine qk ?_
            refine qk ?_
            refine qk ?_
            refine qv m_pk ?_
            show AWp cx _ _ _
            refine cdT (hb := by first | rfl | simp | simp_all) (ht := ?_)
            refine awp_exit ?_
            show AWp cx _ _ _
            refine awp_seq ?_
            have hdn : readL 100 0 B = (out, R) := by
              first
              | exact hφ0.stop (.inl (by omega))
              | exact hφ0.stop (.inr (rd_no1 (by omega)))
              | exact hφ0.stop (.inr (rd_no2 (by omega)))
              | exact hφ0.stop (.inr (ref_no3 hte hta (by simpa using hc3)))
              | exact hφ0.stop (.inr (ref_no4 hte hta (by simpa using hc4)))
            refine rg ?_
            refine qv m_mv ?_
            refine qv m_mv ?_
            refine qv m_as ?_
            refine qv m_as ?_
            show AWp cx _ _ _
            refine awp_ret ?_
            exact x2 (hr := (rX_ (by rw [hdn]))) (hr' := (rD_ (by rw [hdn])))
          · try simp at hg39
            refine qv m_mv ?_
            refine qv m_mv ?_
            refine qv m_eql ?_
            refine qv m_pk ?_
            refine qx m_mv (fun hg44 => ?_) (fun hg44 => ?_)
            · try simp at hg44
              refine qk ?_
              refine qk ?_
              refine qk ?_
              refine qk ?_
              refine qk ?_
              refine qk ?_
              refine qk ?_
              refine qv m_pk ?_
              show AWp cx _ _ _
              refine cdT (hb := by first | rfl | simp | simp_all) (ht := ?_)
              refine awp_exit ?_
              show AWp cx _ _ _
              refine awp_seq ?_
              have hdn : readL 100 0 B = (out, R) := by
                first
                | exact hφ0.stop (.inl (by omega))
                | exact hφ0.stop (.inr (rd_no1 (by omega)))
                | exact hφ0.stop (.inr (rd_no2 (by omega)))
                | exact hφ0.stop (.inr (ref_no3 hte hta (by simpa using hc3)))
                | exact hφ0.stop (.inr (ref_no4 hte hta (by simpa using hc4)))
              refine rg ?_
              refine qv m_mv ?_
              refine qv m_mv ?_
              refine qv m_as ?_
              refine qv m_as ?_
              show AWp cx _ _ _
              refine awp_ret ?_
              exact x2 (hr := (rX_ (by rw [hdn]))) (hr' := (rD_ (by rw [hdn])))
            · try simp at hg44
              refine qv m_mv ?_
              refine qv m_mv ?_
              refine qv m_add ?_
              refine qv m_mv ?_
              refine qv (m_scut (a := R) (a + 1) e is9 (by omega) (by omega)) ?_
              refine qqF (f86 ((R.take e).drop (a + 1)) (by omega)) ?_
              refine qv m_not ?_
              refine qv m_pk ?_
              show AWp cx _ _ _
              refine cd (fun hc3 => ?_) (fun hc3 => ?_)
              · try simp at hc3
                refine awp_exit ?_
                show AWp cx _ _ _
                refine awp_seq ?_
                have hdn : readL 100 0 B = (out, R) := by
                  first
                  | exact hφ0.stop (.inl (by omega))
                  | exact hφ0.stop (.inr (rd_no1 (by omega)))
                  | exact hφ0.stop (.inr (rd_no2 (by omega)))
                  | exact hφ0.stop (.inr (ref_no3 hte hta (by simpa using hc3)))
                  | exact hφ0.stop (.inr (ref_no4 hte hta (by simpa using hc4)))
                refine rg ?_
                refine qv m_mv ?_
                refine qv m_mv ?_
                refine qv m_as ?_
                refine qv m_as ?_
                show AWp cx _ _ _
                refine awp_ret ?_
                exact x2 (hr := (rX_ (by rw [hdn]))) (hr' := (rD_ (by rw [hdn])))
              · try simp at hc3
                refine awp_skip ?_
                show AWp cx _ _ _
                refine awp_seq ?_
                refine rg ?_
                refine qv m_mv ?_
                refine qv m_mv ?_
                refine qv m_add ?_
                refine qv m_mv ?_
                refine qv (m_scut (a := R) (a + 1) e is9 (by omega) (by omega)) ?_
                refine qv m_as ?_
                show AWp cx _ _ _
                refine awp_seq ?_
                refine awp_seq ?_
                have hsm2 := sumL_lt hsl ((R.take e).drop (a + 1))
                have hit := itoa_dd (sumL sm ((R.take e).drop (a + 1)))
                refine rd mixed ?_
                refine zv m_mv ?_
                refine zv m_mv ?_
                refine zqF (R := []) (f40 (sm : Nat) ((R.take e).drop (a + 1)) (by omega)) ?_
                rw [hs0]
                refine zqF (R := []) (f87 (sumL sm ((R.take e).drop (a + 1)) : Nat) (by omega) (by omega)) ?_
                rw [hit]
                refine zv m_mv ?_
                refine zv m_mv ?_
                refine zv (m_scut (a := R) 0 a is9 (by omega) (by omega)) ?_
                refine zv m_sne ?_
                refine ⟨by rfl, ?_⟩
                show AWp cx _ _ _
                refine cd (fun hc4 => ?_) (fun hc4 => ?_)
                · try simp at hc4
                  refine awp_exit ?_
                  show AWp cx _ _ _
                  refine awp_seq ?_
                  have hdn : readL 100 0 B = (out, R) := by
                    first
                    | exact hφ0.stop (.inl (by omega))
                    | exact hφ0.stop (.inr (rd_no1 (by omega)))
                    | exact hφ0.stop (.inr (rd_no2 (by omega)))
                    | exact hφ0.stop (.inr (ref_no3 hte hta (by simpa using hc3)))
                    | exact hφ0.stop (.inr (ref_no4 hte hta (by simpa using hc4)))
                  refine rg ?_
                  refine qv m_mv ?_
                  refine qv m_mv ?_
                  refine qv m_as ?_
                  refine qv m_as ?_
                  show AWp cx _ _ _
                  refine awp_ret ?_
                  exact x2 (hr := (rX_ (by rw [hdn]))) (hr' := (rD_ (by rw [hdn])))
                · try simp at hc4
                  have hre := ref_yes (s := sm) hte hta (by omega) (by omega) (by simpa using hc3) (by simpa using hc4)
                  have hnx := hφ0.next ho hre
                  refine awp_skip ?_
                  show AWp cx _ _ _
                  refine awp_seq ?_
                  refine rg ?_
                  refine qv m_mv ?_
                  refine qv m_mv ?_
                  refine qqF (f40 (sm : Nat) ((R.take e).drop (a + 1)) (by omega)) ?_
                  refine qv m_as ?_
                  show AWp cx _ _ _
                  refine awp_seq ?_
                  refine rg ?_
                  rw [hs0]
                  refine qv m_mv ?_
                  refine qv m_mv ?_
                  refine qr (m_bsl el30 ze9 sz9) ?_
                  refine qa1 (m_app1 el30 el30 ze9 sz9 by9 (hc := tx_snoc)) ?_
                  refine qv m_as ?_
                  show AWp cx _ _ _
                  refine rg ?_
                  refine qv m_mv ?_
                  refine qv m_mv ?_
                  refine qv m_add ?_
                  refine qv (m_scut (a := R) (e + 1) R.length is9 (by omega) (Nat.le_refl _)) ?_
                  refine qv m_as ?_
                  exact ⟨(out ++ [((R.take e).drop (a + 1))], sumL sm ((R.take e).drop (a + 1)), R.drop (e + 1)), hnx, (by simp; omega), (tl [(4, 72)] (hF := by simp [FLe, svLe, lk, mkM, isLive, tauL, svLes_txs]) (hM := by simp [MLe, blkLe, svLe, svLes, lk, mkM, isLive, tauL, svLes_ints, svLes_self, isDvs, isDvs_map, isDvs_app, isDvs_take, isDvs_set, isDvs_repl, svLes_txs]))⟩
    · try simp at hg16
      refine qk ?_
      refine qk ?_
      refine qk ?_
      refine qk ?_
      refine qv m_pk ?_
      show AWp cx _ _ _
      refine cdF (hb := by first | rfl | simp | simp_all) (ht := ?_)
      refine awp_exit ?_
      show AWp cx _ _ _
      refine awp_seq ?_
      refine awp_block ?_
      refine awp_loop (ι := Nat) (fun a => ⟨lk [(0, .dv (dTx R)), (4, .sl 4 0 0 out.length), (5, .dv (i64 (sm : Nat))), (6, .dv (i64 (a : Nat))), (7, .dv (i64 (e : Nat)))], mkM [(4, 0, some (rowX out))]⟩) (fun a => (tw 10 R).length = e ∧ a ≤ e ∧ ∀ j (hj : j < R.length), j < a → R[j] ≠ 32) (fun a => e - a) 0 ⟨by first | exact tw_end hφ1.1 (by omega) hφ1.2 | exact tw_stop he (byteI (n := 10) (by decide) (by simpa using hc1)) hφ1.2, Nat.zero_le _, fun j hj h => absurd h (Nat.not_lt_zero j)⟩ (tl [(4, 4)] (hF := by simp [FLe, svLe, lk, mkM, isLive, tauL, svLes_txs]) (hM := by simp [MLe, blkLe, svLe, svLes, lk, mkM, isLive, tauL, svLes_ints, svLes_self, isDvs, isDvs_map, isDvs_app, isDvs_take, isDvs_set, isDvs_repl, svLes_txs])) ?_
      intro a hφ2
      refine awp_seq ?_
      refine awp_seq ?_
      refine rg ?_
      refine qv m_mv ?_
      refine qv m_mv ?_
      refine qv m_lss ?_
      refine qx m_mv (fun hg27 => ?_) (fun hg27 => ?_)
      · try simp at hg27
        have ha : a < e := by omega
        have hel := tw_le 10 R
        have haR : a < R.length := by omega
        have hb2 : R[a]? = some R[a] := List.getElem?_eq_getElem haR
        refine qv m_mv ?_
        refine qv m_mv ?_
        refine qv (m_sAt a is9 hb2) ?_
        refine qv m_neq ?_
        refine qv m_pk ?_
        show AWp cx _ _ _
        refine cd (fun hc2 => ?_) (fun hc2 => ?_)
        · try simp at hc2
          refine awp_skip ?_
          show AWp cx _ _ _
          refine awp_block ?_
          refine rg ?_
          refine qv m_mv ?_
          refine qv m_add ?_
          skip
          refine qv m_as ?_
          exact ⟨a + 1, ⟨hφ2.1, ha, fun j hj h => by
            rcases Nat.lt_or_ge j a with h1 | h1
            · exact hφ2.2.2 j hj h1
            · obtain rfl : j = a := by omega
              exact fun q => by rw [q] at hc2; simp at hc2⟩, (by simp only; omega), (tl [(4, 4)] (hF := by simp [FLe, svLe, lk, mkM, isLive, tauL, svLes_txs]) (hM := by simp [MLe, blkLe, svLe, svLes, lk, mkM, isLive, tauL, svLes_ints, svLes_self, isDvs, isDvs_map, isDvs_app, isDvs_take, isDvs_set, isDvs_repl, svLes_txs]))⟩
        · try simp at hc2
          refine awp_exit ?_
          show AWp cx _ _ _
          refine awp_seq ?_
          refine awp_seq ?_
          have hte := hφ2.1
          have hel := tw_le 10 R
          have hta : (tw 32 (tw 10 R)).length = a := by
            first
            | exact tw2_end hte hφ2.2.1 (by omega) hφ2.2.2
            | exact tw2_stop hte haR ha (byteI (n := 32) (by decide) (by simpa using hc2)) hφ2.2.2
          have ho : out.length < 100 := by omega
          have hol : ((R.take e).drop (a + 1)).length ≤ R.length := by simp; omega
          refine rg ?_
          refine qv m_mv ?_
          refine qv m_mv ?_
          refine qv (m_slen is9) ?_
          refine qv m_eql ?_
          refine qx m_mv (fun hg39 => ?_) (fun hg39 => ?_)
          · try simp at hg39
            refine qk ?_
            refine qk ?_
            refine qk ?_
            refine qv m_pk ?_
            refine qv m_mv ?_
            refine qk ?_
            refine qk ?_
            refine qk ?_
            refine qk ?_
            refine qk ?_
            refine qk ?_
            refine qk ?_
            refine qv m_pk ?_
            show AWp cx _ _ _
            refine cdT (hb := by first | rfl | simp | simp_all) (ht := ?_)
            refine awp_exit ?_
            show AWp cx _ _ _
            refine awp_seq ?_
            have hdn : readL 100 0 B = (out, R) := by
              first
              | exact hφ0.stop (.inl (by omega))
              | exact hφ0.stop (.inr (rd_no1 (by omega)))
              | exact hφ0.stop (.inr (rd_no2 (by omega)))
              | exact hφ0.stop (.inr (ref_no3 hte hta (by simpa using hc3)))
              | exact hφ0.stop (.inr (ref_no4 hte hta (by simpa using hc4)))
            refine rg ?_
            refine qv m_mv ?_
            refine qv m_mv ?_
            refine qv m_as ?_
            refine qv m_as ?_
            show AWp cx _ _ _
            refine awp_ret ?_
            exact x2 (hr := (rX_ (by rw [hdn]))) (hr' := (rD_ (by rw [hdn])))
          · try simp at hg39
            refine qv m_mv ?_
            refine qv m_mv ?_
            refine qv m_eql ?_
            refine qv m_pk ?_
            refine qx m_mv (fun hg44 => ?_) (fun hg44 => ?_)
            · try simp at hg44
              refine qk ?_
              refine qk ?_
              refine qk ?_
              refine qk ?_
              refine qk ?_
              refine qk ?_
              refine qk ?_
              refine qv m_pk ?_
              show AWp cx _ _ _
              refine cdT (hb := by first | rfl | simp | simp_all) (ht := ?_)
              refine awp_exit ?_
              show AWp cx _ _ _
              refine awp_seq ?_
              have hdn : readL 100 0 B = (out, R) := by
                first
                | exact hφ0.stop (.inl (by omega))
                | exact hφ0.stop (.inr (rd_no1 (by omega)))
                | exact hφ0.stop (.inr (rd_no2 (by omega)))
                | exact hφ0.stop (.inr (ref_no3 hte hta (by simpa using hc3)))
                | exact hφ0.stop (.inr (ref_no4 hte hta (by simpa using hc4)))
              refine rg ?_
              refine qv m_mv ?_
              refine qv m_mv ?_
              refine qv m_as ?_
              refine qv m_as ?_
              show AWp cx _ _ _
              refine awp_ret ?_
              exact x2 (hr := (rX_ (by rw [hdn]))) (hr' := (rD_ (by rw [hdn])))
            · try simp at hg44
              refine qv m_mv ?_
              refine qv m_mv ?_
              refine qv m_add ?_
              refine qv m_mv ?_
              refine qv (m_scut (a := R) (a + 1) e is9 (by omega) (by omega)) ?_
              refine qqF (f86 ((R.take e).drop (a + 1)) (by omega)) ?_
              refine qv m_not ?_
              refine qv m_pk ?_
              show AWp cx _ _ _
              refine cd (fun hc3 => ?_) (fun hc3 => ?_)
              · try simp at hc3
                refine awp_exit ?_
                show AWp cx _ _ _
                refine awp_seq ?_
                have hdn : readL 100 0 B = (out, R) := by
                  first
                  | exact hφ0.stop (.inl (by omega))
                  | exact hφ0.stop (.inr (rd_no1 (by omega)))
                  | exact hφ0.stop (.inr (rd_no2 (by omega)))
                  | exact hφ0.stop (.inr (ref_no3 hte hta (by simpa using hc3)))
                  | exact hφ0.stop (.inr (ref_no4 hte hta (by simpa using hc4)))
                refine rg ?_
                refine qv m_mv ?_
                refine qv m_mv ?_
                refine qv m_as ?_
                refine qv m_as ?_
                show AWp cx _ _ _
                refine awp_ret ?_
                exact x2 (hr := (rX_ (by rw [hdn]))) (hr' := (rD_ (by rw [hdn])))
              · try simp at hc3
                refine awp_skip ?_
                show AWp cx _ _ _
                refine awp_seq ?_
                refine rg ?_
                refine qv m_mv ?_
                refine qv m_mv ?_
                refine qv m_add ?_
                refine qv m_mv ?_
                refine qv (m_scut (a := R) (a + 1) e is9 (by omega) (by omega)) ?_
                refine qv m_as ?_
                show AWp cx _ _ _
                refine awp_seq ?_
                refine awp_seq ?_
                have hsm2 := sumL_lt hsl ((R.take e).drop (a + 1))
                have hit := itoa_dd (sumL sm ((R.take e).drop (a + 1)))
                refine rd mixed ?_
                refine zv m_mv ?_
                refine zv m_mv ?_
                refine zqF (R := []) (f40 (sm : Nat) ((R.take e).drop (a + 1)) (by omega)) ?_
                rw [hs0]
                refine zqF (R := []) (f87 (sumL sm ((R.take e).drop (a + 1)) : Nat) (by omega) (by omega)) ?_
                rw [hit]
                refine zv m_mv ?_
                refine zv m_mv ?_
                refine zv (m_scut (a := R) 0 a is9 (by omega) (by omega)) ?_
                refine zv m_sne ?_
                refine ⟨by rfl, ?_⟩
                show AWp cx _ _ _
                refine cd (fun hc4 => ?_) (fun hc4 => ?_)
                · try simp at hc4
                  refine awp_exit ?_
                  show AWp cx _ _ _
                  refine awp_seq ?_
                  have hdn : readL 100 0 B = (out, R) := by
                    first
                    | exact hφ0.stop (.inl (by omega))
                    | exact hφ0.stop (.inr (rd_no1 (by omega)))
                    | exact hφ0.stop (.inr (rd_no2 (by omega)))
                    | exact hφ0.stop (.inr (ref_no3 hte hta (by simpa using hc3)))
                    | exact hφ0.stop (.inr (ref_no4 hte hta (by simpa using hc4)))
                  refine rg ?_
                  refine qv m_mv ?_
                  refine qv m_mv ?_
                  refine qv m_as ?_
                  refine qv m_as ?_
                  show AWp cx _ _ _
                  refine awp_ret ?_
                  exact x2 (hr := (rX_ (by rw [hdn]))) (hr' := (rD_ (by rw [hdn])))
                · try simp at hc4
                  have hre := ref_yes (s := sm) hte hta (by omega) (by omega) (by simpa using hc3) (by simpa using hc4)
                  have hnx := hφ0.next ho hre
                  refine awp_skip ?_
                  show AWp cx _ _ _
                  refine awp_seq ?_
                  refine rg ?_
                  refine qv m_mv ?_
                  refine qv m_mv ?_
                  refine qqF (f40 (sm : Nat) ((R.take e).drop (a + 1)) (by omega)) ?_
                  refine qv m_as ?_
                  show AWp cx _ _ _
                  refine awp_seq ?_
                  refine rg ?_
                  rw [hs0]
                  refine qv m_mv ?_
                  refine qv m_mv ?_
                  refine qr (m_bsl el30 ze9 sz9) ?_
                  refine qa1 (m_app1 el30 el30 ze9 sz9 by9 (hc := tx_snoc)) ?_
                  refine qv m_as ?_
                  show AWp cx _ _ _
                  refine rg ?_
                  refine qv m_mv ?_
                  refine qv m_mv ?_
                  refine qv m_add ?_
                  refine qv (m_scut (a := R) (e + 1) R.length is9 (by omega) (Nat.le_refl _)) ?_
                  refine qv m_as ?_
                  exact ⟨(out ++ [((R.take e).drop (a + 1))], sumL sm ((R.take e).drop (a + 1)), R.drop (e + 1)), hnx, (by simp; omega), (tl [(4, 72)] (hF := by simp [FLe, svLe, lk, mkM, isLive, tauL, svLes_txs]) (hM := by simp [MLe, blkLe, svLe, svLes, lk, mkM, isLive, tauL, svLes_ints, svLes_self, isDvs, isDvs_map, isDvs_app, isDvs_take, isDvs_set, isDvs_repl, svLes_txs]))⟩
      · try simp at hg27
        refine qk ?_
        refine qk ?_
        refine qk ?_
        refine qk ?_
        refine qv m_pk ?_
        show AWp cx _ _ _
        refine cdF (hb := by first | rfl | simp | simp_all) (ht := ?_)
        refine awp_exit ?_
        show AWp cx _ _ _
        refine awp_seq ?_
        refine awp_seq ?_
        have hte := hφ2.1
        have hel := tw_le 10 R
        have hta : (tw 32 (tw 10 R)).length = a := by
          first
          | exact tw2_end hte hφ2.2.1 (by omega) hφ2.2.2
          | exact tw2_stop hte haR ha (byteI (n := 32) (by decide) (by simpa using hc2)) hφ2.2.2
        have ho : out.length < 100 := by omega
        have hol : ((R.take e).drop (a + 1)).length ≤ R.length := by simp; omega
        refine rg ?_
        refine qv m_mv ?_
        refine qv m_mv ?_
        refine qv (m_slen is9) ?_
        refine qv m_eql ?_
        refine qx m_mv (fun hg39 => ?_) (fun hg39 => ?_)
        · try simp at hg39
          refine qk ?_
          refine qk ?_
          refine qk ?_
          refine qv m_pk ?_
          refine qv m_mv ?_
          refine qk ?_
          refine qk ?_
          refine qk ?_
          refine qk ?_
          refine qk ?_
          refine qk ?_
          refine qk ?_
          refine qv m_pk ?_
          show AWp cx _ _ _
          refine cdT (hb := by first | rfl | simp | simp_all) (ht := ?_)
          refine awp_exit ?_
          show AWp cx _ _ _
          refine awp_seq ?_
          have hdn : readL 100 0 B = (out, R) := by
            first
            | exact hφ0.stop (.inl (by omega))
            | exact hφ0.stop (.inr (rd_no1 (by omega)))
            | exact hφ0.stop (.inr (rd_no2 (by omega)))
            | exact hφ0.stop (.inr (ref_no3 hte hta (by simpa using hc3)))
            | exact hφ0.stop (.inr (ref_no4 hte hta (by simpa using hc4)))
          refine rg ?_
          refine qv m_mv ?_
          refine qv m_mv ?_
          refine qv m_as ?_
          refine qv m_as ?_
          show AWp cx _ _ _
          refine awp_ret ?_
          exact x2 (hr := (rX_ (by rw [hdn]))) (hr' := (rD_ (by rw [hdn])))
        · try simp at hg39
          refine qv m_mv ?_
          refine qv m_mv ?_
          refine qv m_eql ?_
          refine qv m_pk ?_
          refine qx m_mv (fun hg44 => ?_) (fun hg44 => ?_)
          · try simp at hg44
            refine qk ?_
            refine qk ?_
            refine qk ?_
            refine qk ?_
            refine qk ?_
            refine qk ?_
            refine qk ?_
            refine qv m_pk ?_
            show AWp cx _ _ _
            refine cdT (hb := by first | rfl | simp | simp_all) (ht := ?_)
            refine awp_exit ?_
            show AWp cx _ _ _
            refine awp_seq ?_
            have hdn : readL 100 0 B = (out, R) := by
              first
              | exact hφ0.stop (.inl (by omega))
              | exact hφ0.stop (.inr (rd_no1 (by omega)))
              | exact hφ0.stop (.inr (rd_no2 (by omega)))
              | exact hφ0.stop (.inr (ref_no3 hte hta (by simpa using hc3)))
              | exact hφ0.stop (.inr (ref_no4 hte hta (by simpa using hc4)))
            refine rg ?_
            refine qv m_mv ?_
            refine qv m_mv ?_
            refine qv m_as ?_
            refine qv m_as ?_
            show AWp cx _ _ _
            refine awp_ret ?_
            exact x2 (hr := (rX_ (by rw [hdn]))) (hr' := (rD_ (by rw [hdn])))
          · try simp at hg44
            refine qv m_mv ?_
            refine qv m_mv ?_
            refine qv m_add ?_
            refine qv m_mv ?_
            refine qv (m_scut (a := R) (a + 1) e is9 (by omega) (by omega)) ?_
            refine qqF (f86 ((R.take e).drop (a + 1)) (by omega)) ?_
            refine qv m_not ?_
            refine qv m_pk ?_
            show AWp cx _ _ _
            refine cd (fun hc3 => ?_) (fun hc3 => ?_)
            · try simp at hc3
              refine awp_exit ?_
              show AWp cx _ _ _
              refine awp_seq ?_
              have hdn : readL 100 0 B = (out, R) := by
                first
                | exact hφ0.stop (.inl (by omega))
                | exact hφ0.stop (.inr (rd_no1 (by omega)))
                | exact hφ0.stop (.inr (rd_no2 (by omega)))
                | exact hφ0.stop (.inr (ref_no3 hte hta (by simpa using hc3)))
                | exact hφ0.stop (.inr (ref_no4 hte hta (by simpa using hc4)))
              refine rg ?_
              refine qv m_mv ?_
              refine qv m_mv ?_
              refine qv m_as ?_
              refine qv m_as ?_
              show AWp cx _ _ _
              refine awp_ret ?_
              exact x2 (hr := (rX_ (by rw [hdn]))) (hr' := (rD_ (by rw [hdn])))
            · try simp at hc3
              refine awp_skip ?_
              show AWp cx _ _ _
              refine awp_seq ?_
              refine rg ?_
              refine qv m_mv ?_
              refine qv m_mv ?_
              refine qv m_add ?_
              refine qv m_mv ?_
              refine qv (m_scut (a := R) (a + 1) e is9 (by omega) (by omega)) ?_
              refine qv m_as ?_
              show AWp cx _ _ _
              refine awp_seq ?_
              refine awp_seq ?_
              have hsm2 := sumL_lt hsl ((R.take e).drop (a + 1))
              have hit := itoa_dd (sumL sm ((R.take e).drop (a + 1)))
              refine rd mixed ?_
              refine zv m_mv ?_
              refine zv m_mv ?_
              refine zqF (R := []) (f40 (sm : Nat) ((R.take e).drop (a + 1)) (by omega)) ?_
              rw [hs0]
              refine zqF (R := []) (f87 (sumL sm ((R.take e).drop (a + 1)) : Nat) (by omega) (by omega)) ?_
              rw [hit]
              refine zv m_mv ?_
              refine zv m_mv ?_
              refine zv (m_scut (a := R) 0 a is9 (by omega) (by omega)) ?_
              refine zv m_sne ?_
              refine ⟨by rfl, ?_⟩
              show AWp cx _ _ _
              refine cd (fun hc4 => ?_) (fun hc4 => ?_)
              · try simp at hc4
                refine awp_exit ?_
                show AWp cx _ _ _
                refine awp_seq ?_
                have hdn : readL 100 0 B = (out, R) := by
                  first
                  | exact hφ0.stop (.inl (by omega))
                  | exact hφ0.stop (.inr (rd_no1 (by omega)))
                  | exact hφ0.stop (.inr (rd_no2 (by omega)))
                  | exact hφ0.stop (.inr (ref_no3 hte hta (by simpa using hc3)))
                  | exact hφ0.stop (.inr (ref_no4 hte hta (by simpa using hc4)))
                refine rg ?_
                refine qv m_mv ?_
                refine qv m_mv ?_
                refine qv m_as ?_
                refine qv m_as ?_
                show AWp cx _ _ _
                refine awp_ret ?_
                exact x2 (hr := (rX_ (by rw [hdn]))) (hr' := (rD_ (by rw [hdn])))
              · try simp at hc4
                have hre := ref_yes (s := sm) hte hta (by omega) (by omega) (by simpa using hc3) (by simpa using hc4)
                have hnx := hφ0.next ho hre
                refine awp_skip ?_
                show AWp cx _ _ _
                refine awp_seq ?_
                refine rg ?_
                refine qv m_mv ?_
                refine qv m_mv ?_
                refine qqF (f40 (sm : Nat) ((R.take e).drop (a + 1)) (by omega)) ?_
                refine qv m_as ?_
                show AWp cx _ _ _
                refine awp_seq ?_
                refine rg ?_
                rw [hs0]
                refine qv m_mv ?_
                refine qv m_mv ?_
                refine qr (m_bsl el30 ze9 sz9) ?_
                refine qa1 (m_app1 el30 el30 ze9 sz9 by9 (hc := tx_snoc)) ?_
                refine qv m_as ?_
                show AWp cx _ _ _
                refine rg ?_
                refine qv m_mv ?_
                refine qv m_mv ?_
                refine qv m_add ?_
                refine qv (m_scut (a := R) (e + 1) R.length is9 (by omega) (Nat.le_refl _)) ?_
                refine qv m_as ?_
                exact ⟨(out ++ [((R.take e).drop (a + 1))], sumL sm ((R.take e).drop (a + 1)), R.drop (e + 1)), hnx, (by simp; omega), (tl [(4, 72)] (hF := by simp [FLe, svLe, lk, mkM, isLive, tauL, svLes_txs]) (hM := by simp [MLe, blkLe, svLe, svLes, lk, mkM, isLive, tauL, svLes_ints, svLes_self, isDvs, isDvs_map, isDvs_app, isDvs_take, isDvs_set, isDvs_repl, svLes_txs]))⟩
  · try simp at hc0
    refine awp_exit ?_
    show AWp cx _ _ _
    refine awp_seq ?_
    have hdn : readL 100 0 B = (out, R) := by
      first
      | exact hφ0.stop (.inl (by omega))
      | exact hφ0.stop (.inr (rd_no1 (by omega)))
      | exact hφ0.stop (.inr (rd_no2 (by omega)))
      | exact hφ0.stop (.inr (ref_no3 hte hta (by simpa using hc3)))
      | exact hφ0.stop (.inr (ref_no4 hte hta (by simpa using hc4)))
    refine rg ?_
    refine qv m_mv ?_
    refine qv m_mv ?_
    refine qv m_as ?_
    refine qv m_as ?_
    show AWp cx _ _ _
    refine awp_ret ?_
    exact x2 (hr := (rX_ (by rw [hdn]))) (hr' := (rD_ (by rw [hdn])))
end Go.Ab.Tryz
