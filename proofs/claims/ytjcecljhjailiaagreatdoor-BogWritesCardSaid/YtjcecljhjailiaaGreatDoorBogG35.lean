/- BogS1, BogS2. -/
import Derived.Test.YtjcecljhjailiaaGreatDoorBogG34
import Derived.Test.YtjcecljhjailiaaGreatDoorBogG29
import Derived.Test.YtjcecljhjailiaaGreatDoorBogG09
import Derived.Test.YtjcecljhjailiaaGreatDoorBogG29
set_option linter.all false
namespace Go.Ab.Tryz
open Go Go.Ab Go.Proofs Go.Ab.Moss Go.Ab.Bog
open Go.Ab.Heap (ata ata_get ata_set)
open Go.Ab.Heap (Hp dHp validate sm)
abbrev tW : Tx := [119, 101, 116, 32, 48, 32, 48]
abbrev tC0 : Tx := [99, 117, 116, 32, 48]
abbrev tC1 : Tx := [99, 117, 116, 32, 49]
abbrev tD : Tx := [100, 97, 121]
abbrev tb := two.bog
abbrev th := two.heaps
abbrev tn := two.need
noncomputable def sc0 : Cs := cs0 two.bog.worth.length
noncomputable def sc1 : Cs := doS tb th tn sc0 tW
noncomputable def sc2 : Cs := doS tb th tn sc1 tC0
noncomputable def sc3 : Cs := doS tb th tn sc2 tC0
noncomputable def sc4 : Cs := doS tb th tn sc3 tC1
noncomputable def sc5 : Cs := doS tb th tn sc4 tC0
theorem two_E : newE tb th tn = 0 := by kernel_rfl
theorem s_0 : doE tb sc0 tW = 8 := by kernel_rfl
theorem s_1 : doE tb sc1 tC0 = 0 := by kernel_rfl
theorem s_2 : doE tb sc2 tC0 = 6 := by kernel_rfl
theorem s_3 : doE tb sc3 tC1 = 0 := by kernel_rfl
theorem s_4 : doE tb sc4 tC0 = 0 := by kernel_rfl
theorem s_m : sc5.money = 6 := by kernel_rfl
theorem s_c : sc5.cut = 3 := by kernel_rfl
theorem s_w : wrT [tD] = [54, 57, 54, 50, 51, 57, 32, 100, 97, 121, 10] := by kernel_rfl
theorem s_few : Few [tD] := ⟨by decide, fun i hi => by
  obtain rfl : i = 0 := by simpa using hi
  show (3 : Nat) < 1000000
  decide⟩
theorem fT : Fn tb th tn := fn_of two_E
theorem ok0 : CsOk tb th tn sc0 := cs0_ok fT
theorem ok1 : CsOk tb th tn sc1 := do_ok fT ok0 _
theorem ok2 : CsOk tb th tn sc2 := do_ok fT ok1 _
theorem ok3 : CsOk tb th tn sc3 := do_ok fT ok2 _
theorem ok4 : CsOk tb th tn sc4 := do_ok fT ok3 _
theorem ok5 : CsOk tb th tn sc5 := do_ok fT ok4 _
theorem g59 : ACallsG Tryz.prog 59 [.dv (dBg tb), .dv (dHp th), .dv (i64 tn)] (mkB []) ⟨[.pt 100000 0 0, .dv (i64 0)], mkB [(100000, coBlk tb th tn sc0), (100001, rowX sc0.orders)]⟩ := f59_ok tb th tn two_E
theorem d_0 : ACallsG Tryz.prog 24 [.pt 100000 0 0, .dv (dTx tW)] (mkB (pair tb th tn sc0 0 100004)) ⟨[.dv (i64 8)], mkB (pair tb th tn sc1 0 0)⟩ := by have h := f24 tb th tn sc0 fT ok0 tW (by decide); rwa [s_0] at h
theorem d_1 : ACallsG Tryz.prog 24 [.pt 100000 0 0, .dv (dTx tC0)] (mkB (pair tb th tn sc1 0 100004)) ⟨[.dv (i64 0)], mkB (pair tb th tn sc2 0 0)⟩ := by have h := f24 tb th tn sc1 fT ok1 tC0 (by decide); rwa [s_1] at h
theorem d_2 : ACallsG Tryz.prog 24 [.pt 100000 0 0, .dv (dTx tC0)] (mkB (pair tb th tn sc2 0 100004)) ⟨[.dv (i64 6)], mkB (pair tb th tn sc3 0 0)⟩ := by have h := f24 tb th tn sc2 fT ok2 tC0 (by decide); rwa [s_2] at h
theorem d_3 : ACallsG Tryz.prog 24 [.pt 100000 0 0, .dv (dTx tC1)] (mkB (pair tb th tn sc3 0 100004)) ⟨[.dv (i64 0)], mkB (pair tb th tn sc4 0 0)⟩ := by have h := f24 tb th tn sc3 fT ok3 tC1 (by decide); rwa [s_3] at h
theorem d_4 : ACallsG Tryz.prog 24 [.pt 100000 0 0, .dv (dTx tC0)] (mkB (pair tb th tn sc4 0 100004)) ⟨[.dv (i64 0)], mkB (pair tb th tn sc5 0 0)⟩ := by have h := f24 tb th tn sc4 fT ok4 tC0 (by decide); rwa [s_4] at h
theorem g_m : ACallsG Tryz.prog 52 [.pt 100000 0 0] (mkB (pair tb th tn sc5 0 100004)) ⟨[.dv (i64 6)], mkB (pair tb th tn sc5 0 100004)⟩ := by have h := (f52 tb th tn sc5 fT ok5); rwa [s_m] at h
theorem g_c : ACallsG Tryz.prog 53 [.pt 100000 0 0] (mkB (pair tb th tn sc5 0 100004)) ⟨[.dv (i64 3)], mkB (pair tb th tn sc5 0 100004)⟩ := by have h := (f53 tb th tn sc5 fT ok5); rwa [s_c] at h
set_option maxHeartbeats 4000000 in
set_option maxRecDepth 100000 in
theorem f20 : ACallsF Tryz.prog 20 [] (.one (.dv (.bool true))) := by
  refine callsF_of Tryz.func20 rfl rfl (by rw [Tryz.ntmps20]; simp) fun cx hP hn hg => ?_
  rw [Tryz.ntmps20] at hn
  rw [startF_lk, none_mkM]
  simp only [List.nil_append, List.append_nil, List.cons_append, zipSV, Nat.reduceAdd]
  refine awp_seq ?_
  refine rg ?_
  refine qv m_as ?_
  show AWp cx _ _ _
  refine awp_seq ?_
  refine rg ?_
  refine qqA (f61) ?_
  refine qp (m_al ze29) ?_
  refine qs (m_st sz29) ?_
  show AWp cx _ _ _
  refine awp_seq ?_
  refine rg ?_
  refine qv (m_fdp fd29_0) ?_
  refine qv (m_ldpa sz24 ag24) ?_
  refine qv (m_fdp fd29_1) ?_
  refine qv (m_ldpa sz27 ag27) ?_
  refine qv (m_fdp fd29_2) ?_
  refine qv (m_ldp sz3 ag3) ?_
  refine qqG (g59) [] [] [100000, 100001] ?_
  refine qv m_mv ?_
  refine qv m_ext ?_
  refine qv m_ext ?_
  refine qv m_as ?_
  refine qv m_as ?_
  show AWp cx _ _ _
  refine awp_seq ?_
  refine awp_seq ?_
  refine rg ?_
  refine qv m_mv ?_
  refine qv m_neq ?_
  refine qx m_mv (fun hg19 => ?_) (fun hg19 => ?_)
  · exact absurd hg19 ((by decide))
  refine qv m_mv ?_
  refine q_pnl ip34 ?_
  refine qv m_pk ?_
  show AWp cx _ _ _
  refine cdF (hb := (by decide)) (ht := ?_)
  refine awp_skip ?_
  show AWp cx _ _ _
  refine awp_seq ?_
  refine awp_seq ?_
  refine rg ?_
  refine qv m_mv ?_
  refine qqG (d_0) [] [(100000, 100000), (100001, 100001)] [100000, 100001] ?_
  refine qv m_neq ?_
  refine qx m_mv (fun hg26 => ?_) (fun hg26 => ?_)
  · exact absurd hg26 ((by decide))
  refine qv m_mv ?_
  refine qqG (d_1) [] [(100000, 100000), (100001, 100001)] [100000, 100001] ?_
  refine qv m_neq ?_
  refine qv m_pk ?_
  refine qx m_mv (fun hg31 => ?_) (fun hg31 => ?_)
  · exact absurd hg31 ((by decide))
  refine qv m_mv ?_
  refine qqG (d_2) [] [(100000, 100000), (100001, 100001)] [100000, 100001] ?_
  refine qv m_neq ?_
  refine qv m_pk ?_
  refine qx m_mv (fun hg36 => ?_) (fun hg36 => ?_)
  · exact absurd hg36 ((by decide))
  refine qv m_mv ?_
  refine qqG (d_3) [] [(100000, 100000), (100001, 100001)] [100000, 100001] ?_
  refine qv m_neq ?_
  refine qv m_pk ?_
  refine qx m_mv (fun hg41 => ?_) (fun hg41 => ?_)
  · exact absurd hg41 ((by decide))
  refine qv m_mv ?_
  refine qqG (d_4) [] [(100000, 100000), (100001, 100001)] [100000, 100001] ?_
  refine qv m_neq ?_
  refine qv m_pk ?_
  show AWp cx _ _ _
  refine cdF (hb := (by decide)) (ht := ?_)
  refine awp_skip ?_
  show AWp cx _ _ _
  refine awp_seq ?_
  refine rg ?_
  refine qr (m_bsl el30 ze9 sz9) ?_
  refine ch_told 47 47 (x := txs [tD]) ?_ (hD := data_txsS (L := [tD]) (st := 1) (by simp only [mkM, reduceIte, Nat.reduceEqDiff] <;> rfl) rfl rfl (fun _ => trivial))
  refine qqF (f41 [tD] s_few) ?_
  refine qv m_mv ?_
  refine qv m_ext ?_
  refine qv m_ext ?_
  refine qv m_as ?_
  refine qv m_as ?_
  show AWp cx _ _ _
  refine awp_seq ?_
  refine rg ?_
  refine qv m_mv ?_
  refine qqG (g_m) [] [(100000, 100000), (100001, 100001)] [100000, 100001] ?_
  refine qv m_eql ?_
  refine qx m_mv (fun hg54 => ?_) (fun hg54 => ?_)
  rotate_left
  · exact absurd hg54 ((by decide))
  refine qv m_mv ?_
  refine qqG (g_c) [] [(100000, 100000), (100001, 100001)] [100000, 100001] ?_
  refine qv m_eql ?_
  refine qv m_pk ?_
  refine qx m_mv (fun hg59 => ?_) (fun hg59 => ?_)
  rotate_left
  · exact absurd hg59 ((by decide))
  refine qv m_mv ?_
  refine qv m_eql ?_
  refine qv m_pk ?_
  refine qx m_mv (fun hg63 => ?_) (fun hg63 => ?_)
  rotate_left
  · exact absurd hg63 ((by decide))
  refine qv m_mv ?_
  refine qv m_seq ?_
  refine qv m_pk ?_
  refine qv m_as ?_
  show AWp cx _ _ _
  refine awp_ret ?_
  exact x1 (hr := rD_ (by simp [s_w]))
end Go.Ab.Tryz
set_option linter.all false
namespace Go.Ab.Tryz
open Go Go.Ab Go.Proofs Go.Ab.Moss Go.Ab.Bog
open Go.Ab.Heap (ata ata_get ata_set)
theorem wr_all {L : List Tx} (h : wrE L = 0) : L.length ≤ 100 ∧ ∀ T ∈ L, isTx T = true := by
  unfold wrE at h
  split at h
  · cases h
  · split at h
    · rename_i h1 h2; exact ⟨by omega, fun T hT => by simpa using List.all_eq_true.1 h2 T hT⟩
    · cases h
theorem wr_len {L : List Tx} (h : wrE L = 0) : (wrT L).length ≤ 10000 := by
  rw [wrT_yes h]
  obtain ⟨h1, h2⟩ := wr_all h
  have : ∀ (l : List Tx) (s : Nat), s < 1000003 → (∀ T ∈ l, isTx T = true) → (bookL s l).length ≤ l.length * 49 := fun l => by
    induction l with
    | nil => intro s _ _; simp [bookL]
    | cons T l ih =>
      intro s hs hl
      have h3 := line_len (s := s) (T := T) hs
      have h4 := ih (sumL s T) (sumL_lt hs _) fun X hX => hl X (List.mem_cons_of_mem _ hX)
      have h5 := hl T List.mem_cons_self
      unfold isTx at h5
      simp only [Bool.and_eq_true, decide_eq_true_eq] at h5
      simp only [bookL, List.length_append, List.length_cons]
      omega
  have h3 := this L 0 (by decide) h2
  omega
set_option maxHeartbeats 1000000 in
theorem f7 (A : Tx) (s : Int) : ACallsF Tryz.prog 7 [dTx A, i64 s] (.one (.dv (.bool true))) := by
  refine callsF_of Tryz.func7 rfl rfl (by rw [Tryz.ntmps7]; simp) fun cx hP hn hg => ?_
  rw [Tryz.ntmps7] at hn
  rw [startF_lk, none_mkM]
  simp only [List.nil_append, List.append_nil, List.cons_append, zipSV, Nat.reduceAdd]
  refine awp_seq ?_
  refine rg ?_
  refine qv m_as ?_
  show AWp cx _ _ _
  refine awp_seq ?_
  refine awp_seq ?_
  refine rg ?_
  refine qv m_mv ?_
  refine qv (m_slen is9) ?_
  refine qv m_gtr ?_
  show AWp cx _ _ _
  refine cd (fun hc0 => ?_) (fun hc0 => ?_)
  · try simp at hc0
    refine awp_seq ?_
    refine rg ?_
    refine qqF (f20) ?_
    refine qv m_as ?_
    show AWp cx _ _ _
    refine awp_ret ?_
    exact x1 (hr := (rB_))
  · try simp at hc0
    have hA : A.length < 1000000 := by omega
    have hl := (read_spec 100 0 A).2.2
    refine awp_skip ?_
    show AWp cx _ _ _
    refine awp_seq ?_
    refine rg ?_
    refine qv m_mv ?_
    refine qqF (f36 A hA) ?_ (hS := (res_rX2 (by (simp only [mkM, reduceIte, Nat.reduceEqDiff] <;> rfl))))
    refine qv m_mv ?_
    refine qv m_ext ?_
    refine qv m_ext ?_
    refine qv m_as ?_
    refine qv m_as ?_
    show AWp cx _ _ _
    refine awp_seq ?_
    refine rg ?_
    refine qv m_mv ?_
    refine qqF (f37 A hA) ?_ (hS := (res_rX2 (by (simp only [mkM, reduceIte, Nat.reduceEqDiff] <;> rfl))))
    refine qv m_mv ?_
    refine qv m_ext ?_
    refine qv m_ext ?_
    refine qv m_as ?_
    refine qv m_as ?_
    show AWp cx _ _ _
    refine awp_seq ?_
    refine rg ?_
    refine qv m_mv ?_
    refine qv m_mv ?_
    refine qqF (f38 (readL 100 0 A).1 (readL 100 0 A).1 (by omega)) ?_ (ha := (args_cons (data_txs (L := (readL 100 0 A).1) (by simp only [mkM, reduceIte, Nat.reduceEqDiff] <;> rfl) trivial rfl (fun _ => trivial)) (args_cons (data_txs (L := (readL 100 0 A).1) (by simp only [mkM, reduceIte, Nat.reduceEqDiff] <;> rfl) trivial rfl (fun _ => trivial)) args_nil)))
    refine qx m_mv (fun hg26 => ?_) (fun hg26 => ?_)
    rotate_left
    · exact absurd hg26 ((by simp))
    refine qv m_mv ?_
    refine qv m_mv ?_
    refine qv m_seq ?_
    refine qv m_pk ?_
    refine qx m_mv (fun hg31 => ?_) (fun hg31 => ?_)
    rotate_left
    · exact absurd hg31 ((by simp))
    refine qv m_mv ?_
    refine qv m_mv ?_
    refine qqF (f39 s A hA) ?_
    refine qv m_mv ?_
    refine qv m_mv ?_
    refine qqF (f40 s A hA) ?_
    refine qv m_eql ?_
    refine qv m_pk ?_
    refine qx m_mv (fun hg40 => ?_) (fun hg40 => ?_)
    rotate_left
    · exact absurd hg40 ((by simp))
    refine qqF (f20) ?_
    refine qv m_pk ?_
    refine qv m_as ?_
    show AWp cx _ _ _
    refine awp_ret ?_
    exact x1 (hr := (rB_))
set_option maxHeartbeats 1000000 in
theorem f10 (A B : Tx) : ACallsF Tryz.prog 10 [dTx A, dTx B] (.one (.dv (.bool true))) := by
  refine callsF_of Tryz.func10 rfl rfl (by rw [Tryz.ntmps10]; simp) fun cx hP hn hg => ?_
  rw [Tryz.ntmps10] at hn
  rw [startF_lk, none_mkM]
  simp only [List.nil_append, List.append_nil, List.cons_append, zipSV, Nat.reduceAdd]
  refine awp_seq ?_
  refine rg ?_
  refine qv m_as ?_
  show AWp cx _ _ _
  refine awp_seq ?_
  refine awp_seq ?_
  refine rg ?_
  refine qv m_mv ?_
  refine qv (m_slen is9) ?_
  refine qv m_gtr ?_
  refine qx m_mv (fun hg14 => ?_) (fun hg14 => ?_)
  · try simp at hg14
    refine qk ?_
    refine qk ?_
    refine qk ?_
    refine qv m_pk ?_
    show AWp cx _ _ _
    refine cdT (hb := by first | rfl | simp | simp_all) (ht := ?_)
    refine awp_seq ?_
    refine rg ?_
    refine qqF (f20) ?_
    refine qv m_as ?_
    show AWp cx _ _ _
    refine awp_ret ?_
    exact x1 (hr := (rB_))
  · try simp at hg14
    refine qv m_mv ?_
    refine qv (m_slen is9) ?_
    refine qv m_gtr ?_
    refine qv m_pk ?_
    show AWp cx _ _ _
    refine cd (fun hc0 => ?_) (fun hc0 => ?_)
    · try simp at hc0
      refine awp_seq ?_
      refine rg ?_
      refine qqF (f20) ?_
      refine qv m_as ?_
      show AWp cx _ _ _
      refine awp_ret ?_
      exact x1 (hr := (rB_))
    · try simp at hc0
      have hA : A.length < 1000000 := by first | omega | (simp at hg14; omega)
      have hB : B.length < 1000000 := by first | omega | (simp at hc0; omega)
      refine awp_skip ?_
      show AWp cx _ _ _
      refine awp_seq ?_
      refine rg ?_
      refine qv m_mv ?_
      refine qv m_mv ?_
      refine qqF (f44 A B hA hB) ?_
      refine qv m_mv ?_
      refine qv m_ext ?_
      refine qv m_ext ?_
      refine qv m_ext ?_
      refine qv m_as ?_
      refine qv m_as ?_
      refine qv m_as ?_
      show AWp cx _ _ _
      refine awp_seq ?_
      refine rg ?_
      refine qv m_mv ?_
      refine qv m_mv ?_
      refine qqF (f45 A B hA hB) ?_
      refine qv m_mv ?_
      refine qv m_ext ?_
      refine qv m_ext ?_
      refine qv m_ext ?_
      refine qv m_as ?_
      refine qv m_as ?_
      refine qv m_as ?_
      show AWp cx _ _ _
      refine awp_seq ?_
      refine rg ?_
      refine qv m_mv ?_
      refine qv m_mv ?_
      refine qv m_seq ?_
      refine qx m_mv (fun hg37 => ?_) (fun hg37 => ?_)
      rotate_left
      · exact absurd hg37 ((by simp))
      refine qv m_mv ?_
      refine qv m_mv ?_
      refine qv m_eql ?_
      refine qv m_pk ?_
      refine qx m_mv (fun hg42 => ?_) (fun hg42 => ?_)
      rotate_left
      · exact absurd hg42 ((by simp))
      refine qv m_mv ?_
      refine qv m_mv ?_
      refine qv m_eql ?_
      refine qv m_pk ?_
      refine qx m_mv (fun hg47 => ?_) (fun hg47 => ?_)
      rotate_left
      · exact absurd hg47 ((by simp))
      refine qqF (f20) ?_
      refine qv m_pk ?_
      refine qv m_as ?_
      show AWp cx _ _ _
      refine awp_ret ?_
      exact x1 (hr := (rB_))
set_option maxHeartbeats 2000000 in
theorem f8 (L : List Tx) (hk : L.length ≤ 9223372036854775807) (s : Int) : ACallsF Tryz.prog 8 [txs L, i64 s] (.one (.dv (.bool true))) := by
  refine callsF_of Tryz.func8 rfl rfl (by rw [Tryz.ntmps8]; simp) fun cx hP hn hg => ?_
  rw [Tryz.ntmps8] at hn
  rw [startF_lk, none_mkM]
  simp only [List.nil_append, List.append_nil, List.cons_append, zipSV, Nat.reduceAdd]
  refine awp_seq ?_
  refine rg ?_
  refine qv m_as ?_
  show AWp cx _ _ _
  refine awp_seq ?_
  refine awp_seq ?_
  refine rg ?_
  refine qv m_mv ?_
  refine qqF (f19 L hk) ?_
  show AWp cx _ _ _
  refine cd (fun hc0 => ?_) (fun hc0 => ?_)
  · skip
    refine awp_seq ?_
    refine rg ?_
    refine qqF (f20) ?_
    refine qv m_as ?_
    show AWp cx _ _ _
    refine awp_ret ?_
    exact x1 (hr := (rB_))
  · skip
    obtain ⟨hF, h300, h400⟩ := long_few (by simpa using hc0)
    refine awp_skip ?_
    show AWp cx _ _ _
    refine awp_seq ?_
    refine rg ?_
    refine qv m_mv ?_
    refine qqF (f41 L hF) ?_
    refine qv m_mv ?_
    refine qv m_ext ?_
    refine qv m_ext ?_
    refine qv m_as ?_
    refine qv m_as ?_
    show AWp cx _ _ _
    refine awp_seq ?_
    refine rg ?_
    refine qv m_mv ?_
    refine qqF (f42 L hF) ?_
    refine qv m_mv ?_
    refine qv m_ext ?_
    refine qv m_ext ?_
    refine qv m_as ?_
    refine qv m_as ?_
    show AWp cx _ _ _
    refine awp_seq ?_
    refine awp_seq ?_
    refine rg ?_
    refine qv m_mv ?_
    refine qv m_mv ?_
    refine qv m_sne ?_
    refine qx m_mv (fun hg29 => ?_) (fun hg29 => ?_)
    · exact absurd hg29 ((by simp))
    refine qv m_mv ?_
    refine qv m_mv ?_
    refine qv m_neq ?_
    refine qv m_pk ?_
    show AWp cx _ _ _
    refine cdF (hb := (by simp)) (ht := ?_)
    refine awp_skip ?_
    show AWp cx _ _ _
    refine awp_seq ?_
    refine awp_seq ?_
    refine rg ?_
    refine qv m_mv ?_
    refine qv m_neq ?_
    show AWp cx _ _ _
    refine cd (fun hc2 => ?_) (fun hc2 => ?_)
    · skip
      refine awp_seq ?_
      refine rg ?_
      refine qqF (f20) ?_
      refine qv m_as ?_
      show AWp cx _ _ _
      refine awp_ret ?_
      exact x1 (hr := (rB_))
    · skip
      have he : wrE L = 0 := by simpa using hc2
      obtain ⟨h100, htx⟩ := wr_all he
      have hwl := wr_len he
      have hwt := wrT_yes he
      have hr : readL 100 0 (wrT L) = (L, []) := by rw [hwt]; exact read_whole 0 htx h100
      have h36 := f36 (wrT L) (by omega)
      rw [hr] at h36
      obtain ⟨z, hz⟩ : ∃ z : Nat, IntKind.u64.wrap s = (z : Int) := by
        have e : IntKind.u64.wrap s = s % 18446744073709551616 := by simp only [IntKind.wrap, IntKind.bits, IntKind.signed]; rfl
        exact ⟨(s % 18446744073709551616).toNat, by rw [e]; omega⟩
      have hw1 : IntKind.u64.wrap (((wrT L).length : Int) + 1) = (((wrT L).length + 1 : Nat) : Int) := by rw [wrap_u64' (by omega) (by omega)]; omega
      obtain ⟨k, hk1⟩ : ∃ k : Nat, k = z % ((wrT L).length + 1) := ⟨_, rfl⟩
      have hkl : k ≤ (wrT L).length := by have := Nat.mod_lt z (show 0 < (wrT L).length + 1 by omega); omega
      have hk2 : IntKind.i64.wrap (Int.tmod (z : Int) (((wrT L).length + 1 : Nat) : Int)) = (k : Int) := by
        rw [Int.tmod_eq_emod_of_nonneg (by omega), ← Int.natCast_emod, ← hk1, wrap_i64 (by omega) (by omega)]
      obtain ⟨j, hj1, hj2, hj3⟩ := read_part L 100 0 k htx h100
      rw [← hwt] at hj1 hj3
      have h36b := f36 ((wrT L).take k) (by simp; omega)
      rw [hj1] at h36b
      have hlj : (L.take j).length = j := by simp; omega
      refine awp_skip ?_
      show AWp cx _ _ _
      refine awp_seq ?_
      refine rg ?_
      refine qv m_mv ?_
      refine qqF (h36) ?_ (hS := (res_rX2 (by (simp only [mkM, reduceIte, Nat.reduceEqDiff] <;> rfl))))
      refine qv m_mv ?_
      refine qv m_ext ?_
      refine qv m_ext ?_
      refine qv m_as ?_
      refine qv m_as ?_
      show AWp cx _ _ _
      refine awp_seq ?_
      refine awp_seq ?_
      refine rg ?_
      refine qv m_mv ?_
      refine qv m_sne ?_
      refine qx m_mv (fun hg44 => ?_) (fun hg44 => ?_)
      · exact absurd hg44 ((by simp))
      refine qv m_mv ?_
      refine qv m_mv ?_
      refine qqF (f38 L L (by omega)) ?_ (ha := (args_cons (data_txs (L := L) (by simp only [mkM, reduceIte, Nat.reduceEqDiff] <;> rfl) trivial rfl (fun _ => trivial)) (args_cons data_dv args_nil)))
      refine qv m_not ?_
      refine qv m_pk ?_
      show AWp cx _ _ _
      refine cdF (hb := (by simp)) (ht := ?_)
      refine awp_skip ?_
      show AWp cx _ _ _
      refine awp_seq ?_
      refine rg ?_
      refine qv m_mv ?_
      refine qv (m_cnv kd3 kd61 (hw := by rw [hz])) ?_
      refine qv m_mv ?_
      refine qv (m_slen is9) ?_
      refine qv m_add ?_
      refine qv (m_cnv kd3 kd61 (hw := by rw [hw1])) ?_
      refine qv m_rem ?_
      refine qv (m_cnv kd61 kd3 (hw := by rw [hk2])) ?_
      refine qv m_as ?_
      show AWp cx _ _ _
      refine awp_seq ?_
      refine rg ?_
      refine qv m_mv ?_
      refine qv m_mv ?_
      refine qv (m_scut 0 k is9 (by omega) hkl) ?_
      refine qqF (h36b) ?_ (hS := (res_rX2 (by (simp only [mkM, reduceIte, Nat.reduceEqDiff] <;> rfl))))
      refine qv m_mv ?_
      refine qv m_ext ?_
      refine qv m_ext ?_
      refine qv m_as ?_
      refine qv m_as ?_
      show AWp cx _ _ _
      refine awp_seq ?_
      refine rg ?_
      refine qv m_mv ?_
      first | refine qv (m_len il30) ?_ | refine qv (m_lenR il30) ?_ | refine qv (m_len0 il30) ?_
      refine qv m_mv ?_
      refine qv (m_len il30) ?_
      refine qv m_leq ?_
      refine qx m_mv (fun hg70 => ?_) (fun hg70 => ?_)
      rotate_left
      · exact absurd hg70 ((by simp; omega))
      refine qv m_mv ?_
      refine qv m_mv ?_
      refine qv m_mv ?_
      first | refine qv (m_len il30) ?_ | refine qv (m_lenR il30) ?_ | refine qv (m_len0 il30) ?_
      refine qv m_mv ?_
      first | refine qv (m_len il30) ?_ | refine qv (m_lenR il30) ?_ | refine qv (m_len0 il30) ?_
      refine qv (m_cut3 (L' := L.take j) el30 sz9 (hL := by rw [hlj]; simp)) ?_
      refine qqF (f38 (L.take j) (L.take j) (by simp; omega)) ?_ (ha := (args_cons (data_txs (L := (L.take j)) (by simp only [mkM, reduceIte, Nat.reduceEqDiff] <;> rfl) trivial rfl (fun _ => trivial)) (args_cons data_dv args_nil)))
      refine qv m_pk ?_
      refine qx m_mv (fun hg80 => ?_) (fun hg80 => ?_)
      rotate_left
      · exact absurd hg80 ((by simp))
      refine qv m_mv ?_
      refine qv m_seq ?_
      refine qx m_mv (fun hg83 => ?_) (fun hg83 => ?_)
      · try simp at hg83
        refine qk ?_
        refine qk ?_
        refine qk ?_
        refine qk ?_
        refine qk ?_
        refine qv m_pk ?_
        refine qv m_pk ?_
        refine qv m_mv ?_
        refine qqF (f20) ?_
        refine qv m_pk ?_
        refine qv m_as ?_
        show AWp cx _ _ _
        refine awp_ret ?_
        exact x1 (hr := (rB_))
      · try simp at hg83
        refine qv m_mv ?_
        first | refine qv (m_len il30) ?_ | refine qv (m_lenR il30) ?_ | refine qv (m_len0 il30) ?_
        refine qv m_mv ?_
        refine qv (m_len il30) ?_
        refine qv m_lss ?_
        refine qv m_pk ?_
        refine qv m_pk ?_
        refine qx m_mv (fun hg91 => ?_) (fun hg91 => ?_)
        rotate_left
        · exact absurd hg91 ((by first | rfl | (rcases hj3 with h | h <;> first | exact absurd h hg83 | (simp; omega))))
        refine qqF (f20) ?_
        refine qv m_pk ?_
        refine qv m_as ?_
        show AWp cx _ _ _
        refine awp_ret ?_
        exact x1 (hr := (rB_))
end Go.Ab.Tryz
