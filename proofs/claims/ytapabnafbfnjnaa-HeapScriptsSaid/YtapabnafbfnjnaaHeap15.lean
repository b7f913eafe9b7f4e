/- The functions of the heap laws, part 15. The walks are written by wip/gen/gw.py. -/
import Derived.Test.YtapabnafbfnjnaaHeapPD
import Derived.Test.YtapabnafbfnjnaaHeapFacts
import Derived.Test.YtapabnafbfnjnaaHeapPT
set_option linter.all false
namespace Go.Ab.Try
open Go Go.Ab Go.Proofs Go.Ab.Heap
theorem f72m (h : Hp) (v : VH h) : ACallsF Try.prog 72 [.list ((matL h).map ints)] (.one (.dv (i64 (cntD h)))) := by
  have e := f72 h.ground.length v.n5 (matL h) (matL_sq v)
  rwa [matL_det] at e
theorem f72c (h : Hp) (v : VH h) (a b : List Int) (hab : ∀ i, i < h.ground.length → (0 ≤ ata a i ∧ ata a i ≤ 30) ∧ 0 ≤ ata b i ∧ ata b i ≤ 30) (c : Nat) (hc : c < h.ground.length) : ACallsF Try.prog 72 [.list ((cmQ h a b c h.ground.length).map ints)] (.one (.dv (i64 (scrD h a b c)))) := by
  have e := f72 h.ground.length v.n5 (cmat h a b c) (cmat_sq v hc hab)
  rwa [cmat_det hc] at e
theorem f42x (h : Hp) (a b : List Int) (h84 : VH h → a.length = h.ground.length → b.length = h.ground.length → (∀ i, i < h.ground.length → (0 ≤ ata a i ∧ ata a i ≤ 30) ∧ 0 ≤ ata b i ∧ ata b i ≤ 30) → ACallsF Try.prog 84 [dHp h, ints a, ints b] (.many [rI (scrR h a b).1, .dv (.bool (scrR h a b).2)])) : ACallsF Try.prog 42 [dHp h, ints a, ints b] (.many [rI (scriptR h a b).1, .dv (.bool (scriptR h a b).2.1), .dv (i64 (scriptR h a b).2.2)]) := by
  refine callsF_of Try.func42 rfl rfl (by rw [Try.ntmps42]; simp) fun cx hP hn hg => ?_
  rw [Try.ntmps42] at hn
  rw [startF_lk, none_mkM]
  simp only [List.nil_append, List.append_nil, List.cons_append, zipSV, Nat.reduceAdd]
  refine awp_seq ?_
  refine rg ?_
  refine qp m_box ?_
  refine qv m_as ?_
  refine qv m_as ?_
  refine qv m_as ?_
  show AWp cx _ _ _
  refine awp_seq ?_
  refine awp_seq ?_
  refine rg ?_
  refine qv (m_ldpa sz25 ag25) ?_
  refine qv m_mv ?_
  refine qv m_mv ?_
  refine qr (m_bsl el22 ze23 sz23) ?_
  refine qqF (f61 h [a, b] (by simp)) ?_ (ha := (args_cons data_dv (args_cons (data_rows (L := [a, b]) (by simp only [mkM, reduceIte, Nat.reduceEqDiff] <;> rfl) trivial rfl (fun _ => trivial)) args_nil)))
  refine qv m_as ?_
  show AWp cx _ _ _
  refine awp_seq ?_
  refine rg ?_
  refine qv m_mv ?_
  refine qv m_neq ?_
  show AWp cx _ _ _
  refine cd (fun hc0 => ?_) (fun hc0 => ?_)
  · skip
    have he0 : checkE h [a, b] ≠ 0 := by simpa using hc0
    refine awp_seq ?_
    refine rg ?_
    refine qv m_mv ?_
    refine qv m_as ?_
    refine qv m_as ?_
    refine qv m_as ?_
    show AWp cx _ _ _
    refine awp_ret ?_
    exact x3 (hr := (rN_ (by rw [script_bad he0]))) (hr' := (rB_ (by rw [script_bad he0]))) (hr'' := (rI_ (by rw [script_bad he0])))
  · skip
    have he0 : checkE h [a, b] = 0 := by simpa using hc0
    obtain ⟨v, h30, h30b⟩ := check2 he0
    have h5 := v.n5
    have hal := h30.len
    have hbl := h30b.len
    refine awp_skip ?_
    show AWp cx _ _ _
    refine awp_seq ?_
    refine rg ?_
    refine qv (m_ldpa sz25 ag25) ?_
    refine qv m_mv ?_
    refine qv m_mv ?_
    refine qqF (h84 v hal hbl (hab_of h30 h30b)) ?_
    refine qv m_mv ?_
    refine qv m_ext ?_
    refine qv m_ext ?_
    refine qv m_as ?_
    refine qv m_as ?_
    show AWp cx _ _ _
    refine awp_seq ?_
    refine rg ?_
    refine qv m_mv ?_
    refine qv m_mv ?_
    refine qv m_as ?_
    refine qv m_as ?_
    refine qv m_as ?_
    show AWp cx _ _ _
    refine awp_ret ?_
    exact x3 (hr := (rR_ (by rw [script_ok he0]))) (hr' := (rB_ (by rw [script_ok he0]))) (hr'' := (rI_ (by rw [script_ok he0])))
set_option maxHeartbeats 4000000 in
theorem f43 (h : Hp) (a b : List Int) : ACallsF Try.prog 43 [dHp h, ints a, ints b] (.many [rI (scriptR h a b).1, .dv (.bool (scriptR h a b).2.1), .dv (i64 (scriptR h a b).2.2)]) := by
  refine callsF_of Try.func43 rfl rfl (by rw [Try.ntmps43]; simp) fun cx hP hn hg => ?_
  rw [Try.ntmps43] at hn
  rw [startF_lk, none_mkM]
  simp only [List.nil_append, List.append_nil, List.cons_append, zipSV, Nat.reduceAdd]
  refine awp_seq ?_
  refine rg ?_
  refine qp m_box ?_
  refine qv m_as ?_
  refine qv m_as ?_
  refine qv m_as ?_
  show AWp cx _ _ _
  refine awp_seq ?_
  refine rg ?_
  refine qv (m_ldpa sz25 ag25) ?_
  refine qv m_mv ?_
  refine qv m_mv ?_
  refine qr (m_bsl el22 ze23 sz23) ?_
  refine qqF (f76 h [a, b] (by simp)) ?_ (ha := (args_cons data_dv (args_cons (data_rows (L := [a, b]) (by simp only [mkM, reduceIte, Nat.reduceEqDiff] <;> rfl) trivial rfl (fun _ => trivial)) args_nil)))
  refine qv m_as ?_
  show AWp cx _ _ _
  refine awp_seq ?_
  refine awp_seq ?_
  refine rg ?_
  refine qv m_mv ?_
  refine qv m_neq ?_
  show AWp cx _ _ _
  refine cd (fun hc0 => ?_) (fun hc0 => ?_)
  · skip
    have he0 : checkE h [a, b] ≠ 0 := by simpa using hc0
    refine awp_seq ?_
    refine rg ?_
    refine qv m_mv ?_
    refine qv m_as ?_
    refine qv m_as ?_
    refine qv m_as ?_
    show AWp cx _ _ _
    refine awp_ret ?_
    exact x3 (hr := (rN_ (by rw [script_bad he0]))) (hr' := (rB_ (by rw [script_bad he0]))) (hr'' := (rI_ (by rw [script_bad he0])))
  · skip
    have he0 : checkE h [a, b] = 0 := by simpa using hc0
    obtain ⟨v, h30, h30b⟩ := check2 he0
    have h5 := v.n5
    have hal := h30.len
    have hbl := h30b.len
    have hab := hab_of h30 h30b
    have hcb := cntD_bd v
    have hcp := cntD_pos v
    refine awp_skip ?_
    show AWp cx _ _ _
    refine awp_seq ?_
    refine rg ?_
    refine qv (m_ldpa sz25 ag25) ?_
    refine qqA (f73 h v) ?_
    refine qv m_as ?_
    show AWp cx _ _ _
    refine awp_seq ?_
    refine rg ?_
    refine qv m_mv ?_
    refine qqF (f72m h v) ?_
    refine qv m_as ?_
    show AWp cx _ _ _
    refine awp_seq ?_
    refine rg ?_
    refine qv m_as ?_
    show AWp cx _ _ _
    refine awp_seq ?_
    refine awp_seq ?_
    refine rg ?_
    refine qv m_as ?_
    show AWp cx _ _ _
    refine awp_block ?_
    refine awp_loop (ι := Nat) (fun i => ⟨lk [(1, .dv (ints (a))), (2, .dv (ints (b))), (10, .dv (.list ((matL h).map ints))), (11, .dv (i64 (cntD h))), (12, .sl 12 0 0 i), (13, .dv (i64 (i : Nat)))], mkM [(12, 0, some (rowI (scrQ h a b i)))]⟩) (fun i => i ≤ h.ground.length ∧ ∀ c, c < i → (scrD h a b c).tmod (cntD h) = 0) (fun i => h.ground.length - i) 0 ⟨by omega, fun c hc => by omega⟩ (tl [] (hF := by simp [FLe, svLe, lk, mkM, isLive, tauL, scrQ]) (hM := by simp [MLe, blkLe, svLe, svLes, lk, mkM, isLive, tauL, svLes_ints, svLes_self, isDvs, isDvs_map, isDvs_app, isDvs_take, isDvs_set, isDvs_repl, scrQ])) ?_
    intro i hφ0
    refine awp_seq ?_
    refine awp_seq ?_
    refine rg ?_
    refine qv m_mv ?_
    refine qv m_mv ?_
    refine qv (m_len il23) ?_
    refine qv m_lss ?_
    show AWp cx _ _ _
    refine cd (fun hc1 => ?_) (fun hc1 => ?_)
    · try simp at hc1
      have hi : i < h.ground.length := by omega
      have hql := scrQ_len (h := h) (a := a) (b := b) (q := i)
      refine awp_skip ?_
      show AWp cx _ _ _
      refine awp_seq ?_
      refine awp_block ?_
      refine awp_seq ?_
      refine rg ?_
      refine qv m_as ?_
      show AWp cx _ _ _
      refine awp_seq ?_
      refine awp_seq ?_
      refine rg ?_
      refine qv m_as ?_
      show AWp cx _ _ _
      refine awp_block ?_
      refine awp_loop (ι := Nat) (fun q => ⟨lk [(1, .dv (ints (a))), (2, .dv (ints (b))), (10, .dv (.list ((matL h).map ints))), (11, .dv (i64 (cntD h))), (12, .sl 12 0 0 i), (13, .dv (i64 (i : Nat))), (14, .sl 14 0 0 q), (15, .dv (i64 (q : Nat)))], mkM [(12, 0, some (rowI (scrQ h a b i))), (14, 0, some (rowR (cmQ h a b i q)))]⟩) (fun q => q ≤ h.ground.length) (fun q => h.ground.length - q) 0 (by simp) (tl [(12, 12)] (hF := by simp [FLe, svLe, lk, mkM, isLive, tauL, cmQ]) (hM := by simp [MLe, blkLe, svLe, svLes, lk, mkM, isLive, tauL, svLes_ints, svLes_self, isDvs, isDvs_map, isDvs_app, isDvs_take, isDvs_set, isDvs_repl, cmQ])) ?_
      intro q hφ1
      refine awp_seq ?_
      refine awp_seq ?_
      refine rg ?_
      refine qv m_mv ?_
      refine qv m_mv ?_
      refine qv (m_len il23) ?_
      refine qv m_lss ?_
      show AWp cx _ _ _
      refine cd (fun hc2 => ?_) (fun hc2 => ?_)
      · try simp at hc2
        have hq : q < h.ground.length := by omega
        have hgm := matL_get hq
        have hml := mrow_len (h := h) (i := q)
        have hga := ata_get (a := a) (i := q) (by omega)
        have hgb := ata_get (a := b) (i := q) (by omega)
        have hbd := hab q hq
        have hcl := cmQ_len (h := h) (a := a) (b := b) (c := i) (q := q)
        have hcr : (mrow h q).set i (ata a q - ata b q) = crow h a b i q := rfl
        have hkl := crow_len (h := h) (a := a) (b := b) (c := i) (i := q)
        refine awp_skip ?_
        show AWp cx _ _ _
        refine awp_seq ?_
        refine awp_block ?_
        refine awp_seq ?_
        refine rg ?_
        refine qr (m_bsl el23 ze3 sz3) ?_
        refine qv m_mv ?_
        refine qv m_mv ?_
        first | refine qv (m_ixN el22 sz23) ?_ | refine qv (m_ix el22 sz23) ?_
        refine qv (m_ld sz23 ag23) ?_
        refine qa1 (m_app1 el23 el23 ze3 sz3 by3) ?_
        refine qv m_as ?_
        show AWp cx _ _ _
        refine awp_seq ?_
        refine rd mixed ?_
        refine zv m_mv ?_
        refine zv m_mv ?_
        refine zv m_mv ?_
        refine zv m_mv ?_
        first | refine zv (m_ixN el23 sz3) ?_ | refine zv (m_ix el23 sz3) ?_
        refine zv (m_ld sz3 ag3) ?_
        refine zv m_mv ?_
        refine zv m_mv ?_
        first | refine zv (m_ixN el23 sz3) ?_ | refine zv (m_ix el23 sz3) ?_
        refine zv (m_ld sz3 ag3) ?_
        refine zv m_sub ?_
        refine zv (m_ixR el23 sz3) ?_
        refine zs (m_stI sz3) ?_
        refine ⟨by rfl, ?_⟩
        show AWp cx _ _ _
        refine rg ?_
        refine qv m_mv ?_
        refine qv m_mv ?_
        refine qr (m_bsl el22 ze23 sz23) ?_
        refine qa1 (m_app1 el22 el22 ze23 sz23 by23) ?_
        refine qv m_as ?_
        show AWp cx _ _ _
        refine awp_frz 47 ?_
        refine awp_sinkB 63 (cs := (rowR (cmQ h a b i (q + 1))).cells) (by simp only [mkM, reduceIte, Nat.reduceEqDiff] <;> rfl) ?_ hg ?_
        · rw [cmQ_cells]
          exact sinkC_app (sinkC_refl _) ⟨.inr ⟨_, rfl, data_ints (L := crow h a b i q) (by simp only [mkM, reduceIte, Nat.reduceEqDiff] <;> rfl) rfl (by omega) rfl rfl (fun _ => trivial)⟩, trivial⟩
        refine rg ?_
        refine qv m_mv ?_
        refine qv m_add ?_
        refine qv m_as ?_
        exact ⟨q + 1, hq, (by simp only; omega), (tl [(12, 12), (14, 63)])⟩
      · try simp at hc2
        obtain rfl : q = h.ground.length := by omega
        have hsb := scrD_bd v (c := i) hi hab
        have hdb := tdiv_bd (d := cntD h) hsb.1 hsb.2
        refine awp_exit ?_
        show AWp cx _ _ _
        refine awp_seq ?_
        refine rg ?_
        refine qv m_mv ?_
        refine qqF (f72c h v a b hab i hi) ?_ (ha := (args_cons (data_rows (L := cmQ h a b i h.ground.length) (by simp only [mkM, reduceIte, Nat.reduceEqDiff] <;> rfl) trivial cmQ_len (fun _ => trivial)) args_nil))
        refine qv m_as ?_
        show AWp cx _ _ _
        refine awp_seq ?_
        refine awp_seq ?_
        refine rg ?_
        refine qv m_mv ?_
        refine qv m_mv ?_
        refine qv m_rem ?_
        refine qv m_neq ?_
        show AWp cx _ _ _
        refine cd (fun hc3 => ?_) (fun hc3 => ?_)
        · try simp at hc3
          have hsn := scr_no (h := h) (a := a) (b := b) hi hc3
          refine awp_seq ?_
          refine rg ?_
          refine qv m_as ?_
          refine qv m_as ?_
          refine qv m_as ?_
          show AWp cx _ _ _
          refine awp_ret ?_
          exact x3 (hr := (rN_ (by rw [script_ok he0, hsn]))) (hr' := (rB_ (by rw [script_ok he0, hsn]))) (hr'' := (rI_ (by rw [script_ok he0, hsn])))
        · try simp at hc3
          refine awp_skip ?_
          show AWp cx _ _ _
          refine rg ?_
          refine qv m_mv ?_
          refine qv m_mv ?_
          refine qv m_mv ?_
          refine qv m_quo ?_
          refine qr (m_bsl el23 ze3 sz3) ?_
          refine qa1 (m_app1 el23 el23 ze3 sz3 by3) ?_
          refine qv m_as ?_
          show AWp cx _ _ _
          refine rg ?_
          refine qv m_mv ?_
          refine qv m_add ?_
          refine qv m_as ?_
          refine ⟨i + 1, ?_, (by simp only; omega), (tl [(12, 75)] (hF := by simp [FLe, svLe, lk, mkM, isLive, tauL, scrQ_succ]) (hM := by simp [MLe, blkLe, svLe, svLes, lk, mkM, isLive, tauL, svLes_ints, svLes_self, isDvs, isDvs_map, isDvs_app, isDvs_take, isDvs_set, isDvs_repl, scrQ_succ]))⟩
          refine ⟨by omega, fun c hc => ?_⟩
          rcases Nat.lt_or_ge c i with h1 | h1
          · exact hφ0.2 c h1
          · obtain rfl : c = i := by omega
            exact hc3
    · try simp at hc1
      obtain rfl : i = h.ground.length := by omega
      have hsy := scr_yes (h := h) (a := a) (b := b) hφ0.2
      refine awp_exit ?_
      show AWp cx _ _ _
      refine awp_seq ?_
      refine rg ?_
      refine qv m_mv ?_
      refine qv m_as ?_
      refine qv m_as ?_
      refine qv m_as ?_
      show AWp cx _ _ _
      refine awp_ret ?_
      exact x3 (hr := (rR_ (by rw [script_ok he0, hsy]) (hl := by first | rw [scrQ_len] | (dsimp only; rw [scrQ_len])))) (hr' := (rB_ (by rw [script_ok he0, hsy]))) (hr'' := (rI_ (by rw [script_ok he0, hsy])))
end Go.Ab.Try
