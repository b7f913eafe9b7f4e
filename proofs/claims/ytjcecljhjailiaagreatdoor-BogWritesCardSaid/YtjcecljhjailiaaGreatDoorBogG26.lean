/- BogC3, BogB1, BogB2. -/
import Derived.Test.YtjcecljhjailiaaGreatDoorBogG25
import Derived.Test.YtjcecljhjailiaaGreatDoorBogG09
import Derived.Test.YtjcecljhjailiaaGreatDoorBogG16
set_option linter.all false
namespace Go.Ab.Tryz
open Go Go.Ab Go.Proofs Go.Ab.Moss
open Go.Ab.Heap (ata ata_get ata_set)
open Go.Ab.Heap (sm)
def dug (l : List Int) (c : Nat) : List Int := l.set c (ata l c + 1)
def openB (b : Bg) (l : List Int) (c : Nat) : Bool := decide (ata l c + 1 ≤ b.dep) && rightB (dug l c)
def openL (b : Bg) (l : List Int) : List Int := ns ((List.range l.length).filter (openB b l))
def openE (b : Bg) (l : List Int) : List Int := if holV b l = 0 then openL b l else []
theorem dug_len {l : List Int} {c : Nat} : (dug l c).length = l.length := by simp [dug]
theorem dug_get {l : List Int} {c : Nat} (h : c < l.length) : (dug l c)[c]? = some (ata l c + 1) := by simp [dug, h]
theorem dug_at {l : List Int} {c i : Nat} (h : c < l.length) : ata (dug l c) i = if i = c then ata l c + 1 else ata l i := by
  unfold dug
  rw [ata_set h]
theorem dug_bd {b : Bg} {l : List Int} (ok : LsOk b l) {c : Nat} (h : c < l.length) : ∀ i, i < (dug l c).length → 0 ≤ ata (dug l c) i ∧ ata (dug l c) i ≤ 5 := fun i hi => by
  rw [dug_len] at hi
  rw [dug_at h]
  have h1 := ok.bd c h
  have h2 := ok.bd i hi
  have h3 := ok.bg.d4
  split <;> omega
def colW (b : Bg) (i : Nat) (k : Nat) : Int := sm (ata (b.col i)) k
def worW (b : Bg) (l : List Int) (n : Nat) : Int := sm (fun i => colW b i (ata l i).toNat) n
def worth (b : Bg) (l : List Int) : Int := worW b l l.length
theorem col_ata {b : Bg} (ok : BgOk b) {i j : Nat} (hi : i < b.worth.length) (hj : j < b.dep) : -50 ≤ ata (b.col i) j ∧ ata (b.col i) j ≤ 50 :=
  ok.bd i hi _ (List.mem_of_getElem? (ata_get (by rw [ok.len i hi]; exact hj)))
theorem colW_bd {b : Bg} (ok : BgOk b) {i : Nat} (hi : i < b.worth.length) : ∀ k, k ≤ b.dep → -(50 * k : Int) ≤ colW b i k ∧ colW b i k ≤ 50 * k
  | 0, _ => by simp [colW, sm]
  | k + 1, h => by
    have h1 := colW_bd ok hi k (by omega)
    have h2 := col_ata ok hi (show k < b.dep by omega)
    unfold colW at h1 ⊢
    simp only [sm]
    omega
theorem worW_bd {b : Bg} {l : List Int} (ok : LsOk b l) : ∀ n, n ≤ l.length → -(200 * n : Int) ≤ worW b l n ∧ worW b l n ≤ 200 * n
  | 0, _ => by simp [worW, sm]
  | n + 1, h => by
    have h1 := worW_bd ok n (by omega)
    have h2 := ok.bd n (by omega)
    have h3 := ok.bg.d4
    have h4 := colW_bd ok.bg (i := n) (by rw [← ok.len]; omega) (ata l n).toNat (by omega)
    unfold worW at h1 ⊢
    simp only [sm]
    omega
theorem f211 (b : Bg) (l : List Int) (ok : LsOk b l) (c : Nat) (hc : c < l.length) : ACallsF Tryz.prog 211 [dBg b, ints l, i64 (c : Nat)] (.one (.dv (.bool (openB b l c)))) := by
  have hn0 := ok.bg.n0
  have hn6 := ok.bg.n6
  have hd4 := ok.bg.d4
  have hle := ok.len
  have hgc := ata_get hc
  have hbc := ok.bd c hc
  have hgs := dug_get hc
  have hdl := dug_len (l := l) (c := c)
  refine callsF_of Tryz.func211 rfl rfl (by rw [Tryz.ntmps211]; simp) fun cx hP hn hg => ?_
  rw [Tryz.ntmps211] at hn
  rw [startF_lk, none_mkM]
  simp only [List.nil_append, List.append_nil, List.cons_append, zipSV, Nat.reduceAdd]
  refine awp_seq ?_
  refine rg ?_
  refine qp m_box ?_
  refine qv m_as ?_
  show AWp cx _ _ _
  refine awp_seq ?_
  refine rg ?_
  refine qv m_mv ?_
  refine qqF (f97 l (by omega)) ?_
  refine qv m_as ?_
  show AWp cx _ _ _
  refine awp_seq ?_
  refine rg ?_
  refine qv m_mv ?_
  refine qv m_mv ?_
  refine qv (m_ixR el25 sz3) ?_
  refine qv (m_ldI sz3 ag3 (hq := hgc)) ?_
  refine qv m_add ?_
  refine qv (m_ixR el25 sz3) ?_
  refine qs (m_stI sz3) ?_
  show AWp cx _ _ _
  refine awp_seq ?_
  rw [show l.set c (ata l c + 1) = dug l c from rfl]
  refine rd mixed ?_
  refine zv m_mv ?_
  refine zv m_mv ?_
  refine zv (m_ixR el25 sz3) ?_
  refine zv (m_ldI sz3 ag3 (hq := hgs)) ?_
  refine zv (m_ldpa sz24 ag24) ?_
  refine zqF (R := []) (f109 b hn0) ?_
  refine zv m_leq ?_
  refine zx m_mv (fun hg23 => ?_) (fun hg23 => ?_)
  · try simp at hg23
    refine zv m_mv ?_
    refine zqF (R := [9]) (f70 (dug l c) (by omega) (dug_bd ok hc)) ?_ (ha := (args_cons (data_ints (L := dug l c) (by simp only [mkM, reduceIte, Nat.reduceEqDiff] <;> rfl) trivial (by first | rfl | omega | (simp; done) | (simp; omega)) rfl rfl (fun _ => trivial)) args_nil))
    refine zv m_pk ?_
    refine zv m_as ?_
    refine ⟨by rfl, ?_⟩
    show AWp cx _ _ _
    refine awp_ret ?_
    exact x1 (hr := (rB_ (by unfold openB; first | (rw [decide_eq_true (show ata l c + 1 ≤ (b.dep : Int) by omega), Bool.true_and]) | (rw [decide_eq_false (show ¬ ata l c + 1 ≤ (b.dep : Int) by omega), Bool.false_and]))))
  · try simp at hg23
    refine zk ?_
    refine zk ?_
    refine zv m_pk ?_
    refine zv m_as ?_
    refine ⟨by rfl, ?_⟩
    show AWp cx _ _ _
    refine awp_ret ?_
    exact x1 (hr := (rB_ (by unfold openB; first | (rw [decide_eq_true (show ata l c + 1 ≤ (b.dep : Int) by omega), Bool.true_and]) | (rw [decide_eq_false (show ¬ ata l c + 1 ≤ (b.dep : Int) by omega), Bool.false_and]))))
theorem f183 (b : Bg) (l : List Int) : ACallsF Tryz.prog 183 [dBg b, ints l] (.many [rI (openE b l), .dv (i64 (holV b l))]) := by
  refine callsF_of Tryz.func183 rfl rfl (by rw [Tryz.ntmps183]; simp) fun cx hP hn hg => ?_
  rw [Tryz.ntmps183] at hn
  rw [startF_lk, none_mkM]
  simp only [List.nil_append, List.append_nil, List.cons_append, zipSV, Nat.reduceAdd]
  refine awp_seq ?_
  refine rg ?_
  refine qp m_box ?_
  refine qv m_as ?_
  refine qv m_as ?_
  show AWp cx _ _ _
  refine awp_seq ?_
  refine awp_seq ?_
  refine rg ?_
  refine qv (m_ldpa sz24 ag24) ?_
  refine qv m_mv ?_
  refine qqF (f27 b l) ?_
  refine qv m_as ?_
  show AWp cx _ _ _
  refine awp_seq ?_
  refine rg ?_
  refine qv m_mv ?_
  refine qv m_neq ?_
  show AWp cx _ _ _
  refine cd (fun hc0 => ?_) (fun hc0 => ?_)
  · skip
    have hv0 : ¬ holV b l = 0 := by simpa using hc0
    refine awp_seq ?_
    refine rg ?_
    refine qv m_mv ?_
    refine qv m_as ?_
    refine qv m_as ?_
    show AWp cx _ _ _
    refine awp_ret ?_
    exact x2 (hr := (rN_ (by unfold openE; rw [if_neg hv0]))) (hr' := (rI_))
  · skip
    have hv0 : holV b l = 0 := by simpa using hc0
    obtain ⟨ok, hrt⟩ := hol_0 hv0
    have hn6 := ok.bg.n6
    have hle := ok.len
    refine awp_skip ?_
    show AWp cx _ _ _
    refine awp_seq ?_
    refine rg ?_
    refine qv m_as ?_
    show AWp cx _ _ _
    refine awp_seq ?_
    refine awp_seq ?_
    refine rg ?_
    refine qv m_mv ?_
    refine qv (m_len il25) ?_
    refine qv m_mv ?_
    show AWp cx _ _ _
    refine awp_block ?_
    refine awp_loop (ι := Nat) (fun i => ⟨lk [(1, .dv (ints (l))), (2, .pt 2 0 0), (7, .sl 7 0 0 ((ns ((List.range i).filter (openB b l))).length)), (16, .dv (i64 ((l.length : Int)))), (17, .dv (i64 (i : Nat)))], mkM [(2, 0, some ⟨[.dv (.list ((b.worth).map ints))], 0, 24, 0, false⟩), (7, 0, some (rowI (ns ((List.range i).filter (openB b l)))))]⟩) (fun i => i ≤ l.length) (fun i => l.length - i) 0 (by simp) (tl [(2, 2)] (hF := by simp [FLe, svLe, lk, mkM, isLive, tauL, ns]) (hM := by simp [MLe, blkLe, svLe, svLes, lk, mkM, isLive, tauL, svLes_ints, svLes_self, isDvs, isDvs_map, isDvs_app, isDvs_take, isDvs_set, isDvs_repl, ns])) ?_
    intro i hφ0
    have hfl := filt_len (p := openB b l) (k := i)
    refine awp_seq ?_
    refine rg ?_
    refine qv m_lss ?_
    show AWp cx _ _ _
    refine awp_seq ?_
    refine cd (fun hc1 => ?_) (fun hc1 => ?_)
    · try simp at hc1
      refine awp_skip ?_
      show AWp cx _ _ _
      refine awp_seq ?_
      refine awp_block ?_
      refine awp_seq ?_
      refine rg ?_
      refine qv m_mv ?_
      refine qv m_as ?_
      show AWp cx _ _ _
      refine awp_seq ?_
      refine rg ?_
      have hi : i < l.length := by omega
      refine qv (m_ldpa sz24 ag24) ?_
      refine qv m_mv ?_
      refine qv m_mv ?_
      refine qqF (f211 b l ok i hi) ?_
      show AWp cx _ _ _
      refine cd (fun hc2 => ?_) (fun hc2 => ?_)
      · try simp at hc2
        have hsn := ns_filter (p := openB b l) (k := i) hc2
        have hnl : (ns ((List.range i).filter (openB b l))).length ≤ 6 := by rw [ns_len]; omega
        refine rg ?_
        refine qv m_mv ?_
        refine qv m_mv ?_
        refine qr (m_bsl el25 ze3 sz3) ?_
        refine qa1 (m_app1 el25 el25 ze3 sz3 by3) ?_
        refine qv m_as ?_
        show AWp cx _ _ _
        refine rg ?_
        refine qv m_add ?_
        refine qv m_mv ?_
        exact ⟨i + 1, hi, (by simp only; omega), (tl [(2, 2), (7, 27)] (hF := by simp [FLe, svLe, lk, mkM, isLive, tauL, hsn]) (hM := by simp [MLe, blkLe, svLe, svLes, lk, mkM, isLive, tauL, svLes_ints, svLes_self, isDvs, isDvs_map, isDvs_app, isDvs_take, isDvs_set, isDvs_repl, hsn]))⟩
      · try simp at hc2
        have hsn := ns_filter' (p := openB b l) (k := i) (by simpa using hc2)
        refine awp_skip ?_
        show AWp cx _ _ _
        refine rg ?_
        refine qv m_add ?_
        refine qv m_mv ?_
        exact ⟨i + 1, hi, (by simp only; omega), (tl [(2, 2), (7, 7)] (hF := by simp [FLe, svLe, lk, mkM, isLive, tauL, hsn]) (hM := by simp [MLe, blkLe, svLe, svLes, lk, mkM, isLive, tauL, svLes_ints, svLes_self, isDvs, isDvs_map, isDvs_app, isDvs_take, isDvs_set, isDvs_repl, hsn]))⟩
    · try simp at hc1
      refine awp_exit ?_
      show AWp cx _ _ _
      refine awp_seq ?_
      refine rg ?_
      refine qv m_mv ?_
      refine qv m_as ?_
      refine qv m_as ?_
      show AWp cx _ _ _
      refine awp_ret ?_
      obtain rfl : i = l.length := by omega
      exact x2 (hr := (rR_ (by unfold openE; rw [if_pos hv0]; first | done | rfl))) (hr' := (rI_ (by rw [hv0])))
end Go.Ab.Tryz
set_option linter.all false
namespace Go.Ab.Tryz
open Go Go.Ab Go.Proofs Go.Ab.Moss Go.Ab.Bog
open Go.Ab.Heap (ata ata_get ata_set)
theorem sum0_go {s : Int} : (if s.tmod 1000003 < 0 then s.tmod 1000003 + 1000003 else s.tmod 1000003) = (sum0 s : Int) := by
  have h := Int.tmod_eq_emod (a := s) (b := 1000003)
  unfold sum0
  split at h <;> split <;> omega
theorem sum0_go2 {s : Int} : (s.tmod 1000003 + 1000003).tmod 1000003 = (sum0 s : Int) := by
  have h := Int.tmod_eq_emod (a := s) (b := 1000003)
  have h2 : 0 ≤ s.tmod 1000003 + 1000003 := by split at h <;> omega
  rw [Int.tmod_eq_emod_of_nonneg h2]
  unfold sum0
  split at h <;> omega
theorem tmod_bd {s : Int} : -1000003 < s.tmod 1000003 ∧ s.tmod 1000003 < 1000003 := by
  have h := Int.tmod_eq_emod (a := s) (b := 1000003)
  split at h <;> omega
theorem sum_take {s : Nat} {T : Tx} {i : Nat} (h : i < T.length) : sumL s (T.take (i + 1)) = (sumL s (T.take i) * 257 + T[i].toNat + 1) % 1000003 := by
  rw [List.take_succ, List.getElem?_eq_getElem h]
  rw [sumL_app]
  rfl
theorem sum_stepI {s : Nat} {T : Tx} {i : Nat} (h : i < T.length) : (((sumL s (T.take i) : Nat) : Int) * 257 + (T[i].toNat : Int) + 1).tmod 1000003 = (sumL s (T.take (i + 1)) : Int) := by
  rw [sum_take h, Int.tmod_eq_emod_of_nonneg (by omega)]
  omega
theorem tw_has {c : UInt8} {T : Tx} : (tw c T).length < T.length ↔ T.contains c = true := by
  rw [List.contains_iff_mem]
  refine ⟨fun h => ?_, fun h => ?_⟩
  · rw [tw_split c h]; simp
  · rcases Nat.lt_or_ge (tw c T).length T.length with h1 | h1
    · exact h1
    · have h2 := tw_take c T
      rw [List.take_of_length_le h1] at h2
      exact absurd rfl (tw_no c T c (by rw [← h2]; exact h))
theorem has_lib {c : UInt8} {T : Tx} : Lib.contains T [c] = T.contains c := by
  unfold Lib.contains
  rw [index_tw, Bool.eq_iff_iff, ← tw_has]
  split <;> simp <;> omega
theorem isTx_of {T : Tx} (h : T.contains 10 = false) : isTx T = (decide (1 ≤ T.length) && decide (T.length ≤ 40)) := by unfold isTx; rw [h]; simp
theorem byte10 {b : UInt8} (h : (b.toNat : Int) = 10) : b = 10 := UInt8.toNat_inj.1 (by show b.toNat = 10; omega)
theorem not_has {T : Tx} {i : Nat} (h : i < T.length) (e : T[i] = 10) : T.contains 10 = true := by
  rw [List.contains_iff_mem, ← e]; exact List.getElem_mem h
theorem no_has {T : Tx} (h : ∀ j (hj : j < T.length), T[j] ≠ 10) : T.contains 10 = false := by
  cases e : T.contains 10 with
  | false => rfl
  | true =>
    rw [List.contains_iff_mem] at e
    obtain ⟨j, hj, e⟩ := List.getElem_of_mem e
    exact absurd e (h j hj)
theorem f39 (s : Int) (T : Tx) (hT : T.length < 1000000) : ACallsF Tryz.prog 39 [i64 s, dTx T] (.one (.dv (i64 (sumL (sum0 s) T : Nat)))) := by
  have hbd := tmod_bd (s := s)
  refine callsF_of Tryz.func39 rfl rfl (by rw [Tryz.ntmps39]; simp) fun cx hP hn hg => ?_
  rw [Tryz.ntmps39] at hn
  rw [startF_lk, none_mkM]
  simp only [List.nil_append, List.append_nil, List.cons_append, zipSV, Nat.reduceAdd]
  refine awp_seq ?_
  refine rg ?_
  refine qv m_as ?_
  show AWp cx _ _ _
  refine awp_seq ?_
  refine rg ?_
  refine qv m_mv ?_
  refine qv m_rem ?_
  refine qv m_as ?_
  show AWp cx _ _ _
  refine awp_seq ?_
  refine awp_seq ?_
  refine rg ?_
  refine qv m_mv ?_
  refine qv m_lss ?_
  show AWp cx _ _ _
  refine cd (fun hc0 => ?_) (fun hc0 => ?_)
  · try simp at hc0
    have hs0 : s.tmod 1000003 + 1000003 = (sum0 s : Int) := by rw [← sum0_go, if_pos (by simpa using hc0)]
    refine rg ?_
    refine qv m_mv ?_
    refine qv m_add ?_
    refine qv m_as ?_
    show AWp cx _ _ _
    refine awp_seq ?_
    refine awp_seq ?_
    refine rg ?_
    refine qv m_mv ?_
    refine qv (m_slen is9) ?_
    refine qv m_mv ?_
    show AWp cx _ _ _
    refine awp_block ?_
    refine awp_loop (ι := Nat) (fun i => ⟨lk [(1, .dv (dTx (T))), (5, .dv (i64 (sumL (sum0 s) (T.take i) : Nat))), (14, .dv (i64 ((T.length : Int)))), (15, .dv (i64 (i : Nat)))], mkM []⟩) (fun i => i ≤ T.length) (fun i => T.length - i) 0 (by simp) (tl [] (hF := by simp [FLe, svLe, lk, mkM, isLive, tauL, sumL, hs0]) (hM := by simp [MLe, blkLe, svLe, svLes, lk, mkM, isLive, tauL, svLes_ints, svLes_self, isDvs, isDvs_map, isDvs_app, isDvs_take, isDvs_set, isDvs_repl, sumL, hs0])) ?_
    intro i hφ0
    refine awp_seq ?_
    refine rg ?_
    refine qv m_lss ?_
    show AWp cx _ _ _
    refine awp_seq ?_
    refine cd (fun hc1 => ?_) (fun hc1 => ?_)
    · try simp at hc1
      refine awp_skip ?_
      show AWp cx _ _ _
      refine awp_seq ?_
      refine awp_block ?_
      refine awp_seq ?_
      refine rg ?_
      have hi : i < T.length := by omega
      have hb : T[i]? = some T[i] := List.getElem?_eq_getElem hi
      have hlt := UInt8.toNat_lt T[i]
      have hwr : DV.int .i64 (IntKind.i64.wrap (T[i].toNat : Int)) = i64 (T[i].toNat : Int) := by rw [wrap_i64 (by omega) (by omega)]
      have hsl := sumL_lt (sum0_lt s) (T.take i)
      have hse := sum_stepI (s := sum0 s) hi
      refine qv m_mv ?_
      refine qv m_as ?_
      show AWp cx _ _ _
      refine rg ?_
      refine qv m_mv ?_
      refine qv m_mul ?_
      refine qv m_mv ?_
      refine qv m_mv ?_
      refine qv (m_sAt i is9 hb) ?_
      refine qv (m_cnv kd5 kd3 (hw := hwr)) ?_
      refine qv m_add ?_
      refine qv m_add ?_
      refine qv m_rem ?_
      refine qv m_as ?_
      show AWp cx _ _ _
      refine rg ?_
      rw [hse]
      refine qv m_add ?_
      refine qv m_mv ?_
      exact ⟨i + 1, hi, (by simp only; omega), (tl [])⟩
    · try simp at hc1
      refine awp_exit ?_
      show AWp cx _ _ _
      refine awp_seq ?_
      refine rg ?_
      refine qv m_mv ?_
      refine qv m_as ?_
      show AWp cx _ _ _
      refine awp_ret ?_
      obtain rfl : i = T.length := by omega
      rw [List.take_length]
      exact x1 (hr := (rI_))
  · try simp at hc0
    have hs0 : s.tmod 1000003 = (sum0 s : Int) := by rw [← sum0_go, if_neg (by simpa using hc0)]
    refine awp_skip ?_
    show AWp cx _ _ _
    refine awp_seq ?_
    refine awp_seq ?_
    refine rg ?_
    refine qv m_mv ?_
    refine qv (m_slen is9) ?_
    refine qv m_mv ?_
    show AWp cx _ _ _
    refine awp_block ?_
    refine awp_loop (ι := Nat) (fun i => ⟨lk [(1, .dv (dTx (T))), (5, .dv (i64 (sumL (sum0 s) (T.take i) : Nat))), (14, .dv (i64 ((T.length : Int)))), (15, .dv (i64 (i : Nat)))], mkM []⟩) (fun i => i ≤ T.length) (fun i => T.length - i) 0 (by simp) (tl [] (hF := by simp [FLe, svLe, lk, mkM, isLive, tauL, sumL, hs0]) (hM := by simp [MLe, blkLe, svLe, svLes, lk, mkM, isLive, tauL, svLes_ints, svLes_self, isDvs, isDvs_map, isDvs_app, isDvs_take, isDvs_set, isDvs_repl, sumL, hs0])) ?_
    intro i hφ0
    refine awp_seq ?_
    refine rg ?_
    refine qv m_lss ?_
    show AWp cx _ _ _
    refine awp_seq ?_
    refine cd (fun hc1 => ?_) (fun hc1 => ?_)
    · try simp at hc1
      refine awp_skip ?_
      show AWp cx _ _ _
      refine awp_seq ?_
      refine awp_block ?_
      refine awp_seq ?_
      refine rg ?_
      have hi : i < T.length := by omega
      have hb : T[i]? = some T[i] := List.getElem?_eq_getElem hi
      have hlt := UInt8.toNat_lt T[i]
      have hwr : DV.int .i64 (IntKind.i64.wrap (T[i].toNat : Int)) = i64 (T[i].toNat : Int) := by rw [wrap_i64 (by omega) (by omega)]
      have hsl := sumL_lt (sum0_lt s) (T.take i)
      have hse := sum_stepI (s := sum0 s) hi
      refine qv m_mv ?_
      refine qv m_as ?_
      show AWp cx _ _ _
      refine rg ?_
      refine qv m_mv ?_
      refine qv m_mul ?_
      refine qv m_mv ?_
      refine qv m_mv ?_
      refine qv (m_sAt i is9 hb) ?_
      refine qv (m_cnv kd5 kd3 (hw := hwr)) ?_
      refine qv m_add ?_
      refine qv m_add ?_
      refine qv m_rem ?_
      refine qv m_as ?_
      show AWp cx _ _ _
      refine rg ?_
      rw [hse]
      refine qv m_add ?_
      refine qv m_mv ?_
      exact ⟨i + 1, hi, (by simp only; omega), (tl [])⟩
    · try simp at hc1
      refine awp_exit ?_
      show AWp cx _ _ _
      refine awp_seq ?_
      refine rg ?_
      refine qv m_mv ?_
      refine qv m_as ?_
      show AWp cx _ _ _
      refine awp_ret ?_
      obtain rfl : i = T.length := by omega
      rw [List.take_length]
      exact x1 (hr := (rI_))
theorem f40 (s : Int) (T : Tx) (hT : T.length < 1000000) : ACallsF Tryz.prog 40 [i64 s, dTx T] (.one (.dv (i64 (sumL (sum0 s) T : Nat)))) := by
  have hbd := tmod_bd (s := s)
  have hs0 := sum0_go2 (s := s)
  refine callsF_of Tryz.func40 rfl rfl (by rw [Tryz.ntmps40]; simp) fun cx hP hn hg => ?_
  rw [Tryz.ntmps40] at hn
  rw [startF_lk, none_mkM]
  simp only [List.nil_append, List.append_nil, List.cons_append, zipSV, Nat.reduceAdd]
  refine awp_seq ?_
  refine rg ?_
  refine qv m_as ?_
  show AWp cx _ _ _
  refine awp_seq ?_
  refine rg ?_
  refine qv m_mv ?_
  refine qv m_rem ?_
  refine qv m_add ?_
  refine qv m_rem ?_
  refine qv m_as ?_
  show AWp cx _ _ _
  refine awp_seq ?_
  refine awp_seq ?_
  refine rg ?_
  refine qv m_as ?_
  show AWp cx _ _ _
  refine awp_block ?_
  refine awp_loop (ι := Nat) (fun i => ⟨lk [(1, .dv (dTx (T))), (5, .dv (i64 (sumL (sum0 s) (T.take i) : Nat))), (6, .dv (i64 (i : Nat)))], mkM []⟩) (fun i => i ≤ T.length) (fun i => T.length - i) 0 (by simp) (tl [] (hF := by simp [FLe, svLe, lk, mkM, isLive, tauL, sumL, hs0]) (hM := by simp [MLe, blkLe, svLe, svLes, lk, mkM, isLive, tauL, svLes_ints, svLes_self, isDvs, isDvs_map, isDvs_app, isDvs_take, isDvs_set, isDvs_repl, sumL, hs0])) ?_
  intro i hφ0
  refine awp_seq ?_
  refine awp_seq ?_
  refine rg ?_
  refine qv m_mv ?_
  refine qv m_mv ?_
  refine qv (m_slen is9) ?_
  refine qv m_lss ?_
  show AWp cx _ _ _
  refine cd (fun hc0 => ?_) (fun hc0 => ?_)
  · try simp at hc0
    refine awp_skip ?_
    show AWp cx _ _ _
    refine awp_seq ?_
    refine awp_block ?_
    refine rg ?_
    have hi : i < T.length := by omega
    have hb : T[i]? = some T[i] := List.getElem?_eq_getElem hi
    have hlt := UInt8.toNat_lt T[i]
    have hwr : DV.int .i64 (IntKind.i64.wrap (T[i].toNat : Int)) = i64 (T[i].toNat : Int) := by rw [wrap_i64 (by omega) (by omega)]
    have hsl := sumL_lt (sum0_lt s) (T.take i)
    have hse := sum_stepI (s := sum0 s) hi
    refine qv m_mv ?_
    refine qv m_mul ?_
    refine qv m_mv ?_
    refine qv m_mv ?_
    refine qv (m_sAt i is9 hb) ?_
    refine qv (m_cnv kd5 kd3 (hw := hwr)) ?_
    refine qv m_add ?_
    refine qv m_add ?_
    refine qv m_rem ?_
    refine qv m_as ?_
    show AWp cx _ _ _
    refine rg ?_
    rw [hse]
    refine qv m_mv ?_
    refine qv m_add ?_
    refine qv m_as ?_
    exact ⟨i + 1, hi, (by simp only; omega), (tl [])⟩
  · try simp at hc0
    refine awp_exit ?_
    show AWp cx _ _ _
    refine awp_seq ?_
    refine rg ?_
    refine qv m_mv ?_
    refine qv m_as ?_
    show AWp cx _ _ _
    refine awp_ret ?_
    obtain rfl : i = T.length := by omega
    rw [List.take_length]
    exact x1 (hr := (rI_))
theorem f86 (T : Tx) (hT : T.length < 1000000) : ACallsF Tryz.prog 86 [dTx T] (.one (.dv (.bool (isTx T)))) := by
  refine callsF_of Tryz.func86 rfl rfl (by rw [Tryz.ntmps86]; simp) fun cx hP hn hg => ?_
  rw [Tryz.ntmps86] at hn
  rw [startF_lk, none_mkM]
  simp only [List.nil_append, List.append_nil, List.cons_append, zipSV, Nat.reduceAdd]
  refine awp_seq ?_
  refine rg ?_
  refine qv m_as ?_
  show AWp cx _ _ _
  refine awp_seq ?_
  refine awp_seq ?_
  refine rg ?_
  refine qv m_as ?_
  show AWp cx _ _ _
  refine awp_block ?_
  refine awp_loop (ι := Nat) (fun i => ⟨lk [(0, .dv (dTx (T))), (3, .dv (i64 (i : Nat)))], mkM []⟩) (fun i => i ≤ T.length ∧ ∀ j (hj : j < T.length), j < i → T[j] ≠ 10) (fun i => T.length - i) 0 (by simp) (tl []) ?_
  intro i hφ0
  refine awp_seq ?_
  refine awp_seq ?_
  refine rg ?_
  refine qv m_mv ?_
  refine qv m_mv ?_
  refine qv (m_slen is9) ?_
  refine qv m_lss ?_
  show AWp cx _ _ _
  refine cd (fun hc0 => ?_) (fun hc0 => ?_)
  · try simp at hc0
    refine awp_skip ?_
    show AWp cx _ _ _
    refine awp_seq ?_
    refine awp_block ?_
    refine awp_seq ?_
    refine rg ?_
    have hi : i < T.length := by omega
    have hb : T[i]? = some T[i] := List.getElem?_eq_getElem hi
    refine qv m_mv ?_
    refine qv m_mv ?_
    refine qv (m_sAt i is9 hb) ?_
    refine qv m_eql ?_
    show AWp cx _ _ _
    refine cd (fun hc1 => ?_) (fun hc1 => ?_)
    · try simp at hc1
      refine awp_seq ?_
      refine rg ?_
      refine qv m_as ?_
      show AWp cx _ _ _
      refine awp_ret ?_
      exact x1 (hr := (rB_ (by unfold isTx; rw [not_has hi (byte10 (by simpa using hc1))]; simp)))
    · try simp at hc1
      refine awp_skip ?_
      show AWp cx _ _ _
      refine rg ?_
      refine qv m_mv ?_
      refine qv m_add ?_
      refine qv m_as ?_
      exact ⟨i + 1, ⟨hi, fun j hj h => by
        rcases Nat.lt_or_ge j i with h1 | h1
        · exact hφ0.2 j hj h1
        · obtain rfl : j = i := by omega
          exact fun e => hc1 (by rw [e]; rfl)⟩, (by simp only; omega), (tl [])⟩
  · try simp at hc0
    have hno := no_has fun j hj => hφ0.2 j hj (by omega)
    refine awp_exit ?_
    show AWp cx _ _ _
    refine awp_seq ?_
    refine rg ?_
    refine qv m_mv ?_
    refine qv (m_slen is9) ?_
    refine qv m_geq ?_
    refine qx m_mv (fun hg17 => ?_) (fun hg17 => ?_)
    · try simp at hg17
      refine qv m_mv ?_
      refine qv (m_slen is9) ?_
      refine qv m_leq ?_
      refine qv m_pk ?_
      refine qv m_as ?_
      show AWp cx _ _ _
      refine awp_ret ?_
      exact x1 (hr := (rB_ (by rw [isTx_of hno, Bool.eq_iff_iff]; simp <;> omega)))
    · try simp at hg17
      refine qk ?_
      refine qk ?_
      refine qk ?_
      refine qv m_pk ?_
      refine qv m_as ?_
      show AWp cx _ _ _
      refine awp_ret ?_
      exact x1 (hr := (rB_ (by rw [isTx_of hno, Bool.eq_iff_iff]; simp <;> omega)))
theorem f84 (T : Tx) (hT : T.length < 1000000) : ACallsF Tryz.prog 84 [dTx T] (.one (.dv (.bool (isTx T)))) := by
  refine callsF_of Tryz.func84 rfl rfl (by rw [Tryz.ntmps84]; simp) fun cx hP hn hg => ?_
  rw [Tryz.ntmps84] at hn
  rw [startF_lk, none_mkM]
  simp only [List.nil_append, List.append_nil, List.cons_append, zipSV, Nat.reduceAdd]
  refine awp_seq ?_
  refine rg ?_
  refine qv m_as ?_
  show AWp cx _ _ _
  refine awp_seq ?_
  refine rg ?_
  refine qv m_mv ?_
  refine qv (m_slen is9) ?_
  refine qv m_geq ?_
  refine qx m_mv (fun hg6 => ?_) (fun hg6 => ?_)
  · try simp at hg6
    refine qv m_mv ?_
    refine qv (m_slen is9) ?_
    refine qv m_leq ?_
    refine qv m_pk ?_
    refine qx m_mv (fun hg11 => ?_) (fun hg11 => ?_)
    · try simp at hg11
      refine qv m_mv ?_
      refine qqF (f127 T [10] (by omega)) ?_
      refine qv m_not ?_
      refine qv m_pk ?_
      refine qv m_as ?_
      show AWp cx _ _ _
      refine awp_ret ?_
      exact x1 (hr := (rB_ (by unfold isTx; rw [← has_lib, Bool.eq_iff_iff]; simp <;> omega)))
    · try simp at hg11
      refine qk ?_
      refine qk ?_
      refine qk ?_
      refine qv m_pk ?_
      refine qv m_as ?_
      show AWp cx _ _ _
      refine awp_ret ?_
      exact x1 (hr := (rB_ (by unfold isTx; rw [← has_lib, Bool.eq_iff_iff]; simp <;> omega)))
  · try simp at hg6
    refine qk ?_
    refine qk ?_
    refine qk ?_
    refine qv m_pk ?_
    refine qv m_mv ?_
    refine qk ?_
    refine qk ?_
    refine qk ?_
    refine qv m_pk ?_
    refine qv m_as ?_
    show AWp cx _ _ _
    refine awp_ret ?_
    exact x1 (hr := (rB_ (by unfold isTx; rw [← has_lib, Bool.eq_iff_iff]; simp <;> omega)))
end Go.Ab.Tryz
set_option linter.all false
namespace Go.Ab.Tryz
open Go Go.Ab Go.Proofs Go.Ab.Moss Go.Ab.Bog
open Go.Ab.Heap (ata ata_get ata_set)
open Go.Ab.Heap (sm)
theorem itoa_dd (s : Nat) : Lib.itoa (s : Int) = dd s := by unfold Lib.itoa; rw [if_neg (by omega)]; simp [dd]
theorem sum0_small {n : Nat} (h : n < 1000003) : sum0 (n : Int) = n := by unfold sum0; omega
def Few (L : List Tx) : Prop := L.length < 1000000 ∧ ∀ i (hi : i < L.length), L[i].length < 1000000
theorem bookL_snoc {s : Nat} {L : List Tx} {i : Nat} (hi : i < L.length) : bookL s (L.take (i + 1)) = bookL s (L.take i) ++ lineL (sumE s (L.take i)) L[i] := by
  rw [List.take_succ, List.getElem?_eq_getElem hi, bookL_app]
  simp [bookL]
theorem sumE_snoc {s : Nat} {L : List Tx} {i : Nat} (hi : i < L.length) : sumE s (L.take (i + 1)) = sumL (sumE s (L.take i)) L[i] := by
  unfold sumE
  rw [List.take_succ, List.getElem?_eq_getElem hi, List.foldl_append]
  rfl
theorem line_len {s : Nat} {T : Tx} (hs : s < 1000003) : (lineL s T).length ≤ T.length + 9 := by
  have := dd_len (sumL_lt hs T)
  simp only [lineL, List.length_append, List.length_cons, List.length_nil]; omega
theorem book_len {L : List Tx} (h : Few L) : ∀ i, i ≤ L.length → (bookL 0 (L.take i)).length ≤ i * 1000010
  | 0, _ => by simp [bookL]
  | i + 1, hi => by
    have h1 := book_len h i (by omega)
    have h2 := line_len (s := sumE 0 (L.take i)) (T := L[i]) (sumE_lt (by decide) _)
    have h3 := h.2 i (by omega)
    rw [bookL_snoc (by omega), List.length_append]
    omega
def wrE (L : List Tx) : Int := if 100 < L.length then 3 else if L.all isTx then 0 else 1
def wrT (L : List Tx) : Tx := if wrE L = 0 then bookL 0 L else []
theorem wrE_big {L : List Tx} (h : 100 < L.length) : wrE L = 3 := by unfold wrE; rw [if_pos h]
theorem wrE_bad {L : List Tx} (h : ¬ 100 < L.length) {i : Nat} (hi : i < L.length) (hb : isTx L[i] = false) : wrE L = 1 := by
  unfold wrE; rw [if_neg h, if_neg]
  rw [List.all_eq_true]
  exact fun e => by have := e _ (List.getElem_mem hi); rw [hb] at this; cases this
theorem wrE_ok {L : List Tx} (h : ¬ 100 < L.length) (ha : ∀ i (hi : i < L.length), isTx L[i] = true) : wrE L = 0 := by
  unfold wrE; rw [if_neg h, if_pos]
  rw [List.all_eq_true]
  intro T hT
  obtain ⟨i, hi, rfl⟩ := List.getElem_of_mem hT
  exact ha i hi
theorem wrT_no {L : List Tx} (h : wrE L ≠ 0) : wrT L = [] := by unfold wrT; rw [if_neg h]
theorem wrT_yes {L : List Tx} (h : wrE L = 0) : wrT L = bookL 0 L := by unfold wrT; rw [if_pos h]
theorem txs_eq {a b : List Tx} (hl : a.length = b.length) (h : ∀ j (h1 : j < a.length) (h2 : j < b.length), a[j] = b[j]) : a = b := List.ext_getElem hl fun j h1 h2 => h j h1 h2
theorem f85 (s : Int) (T : Tx) (hT : T.length < 1000000) : ACallsF Tryz.prog 85 [i64 s, dTx T] (.many [.dv (dTx (lineL (sum0 s) T)), .dv (i64 (sumL (sum0 s) T : Nat))]) := by
  have hsl := sumL_lt (sum0_lt s) T
  have hdl := dd_len hsl
  have hit := itoa_dd (sumL (sum0 s) T)
  refine callsF_of Tryz.func85 rfl rfl (by rw [Tryz.ntmps85]; simp) fun cx hP hn hg => ?_
  rw [Tryz.ntmps85] at hn
  rw [startF_lk, none_mkM]
  simp only [List.nil_append, List.append_nil, List.cons_append, zipSV, Nat.reduceAdd]
  refine awp_seq ?_
  refine rg ?_
  refine qv m_as ?_
  refine qv m_as ?_
  show AWp cx _ _ _
  refine awp_seq ?_
  refine rg ?_
  refine qv m_mv ?_
  refine qv m_mv ?_
  refine qqF (f39 s T hT) ?_
  refine qv m_as ?_
  show AWp cx _ _ _
  refine awp_seq ?_
  refine rg ?_
  refine qv m_mv ?_
  refine qqF (f87 (sumL (sum0 s) T : Nat) (by omega) (by omega)) ?_
  rw [hit]
  refine qv m_cat ?_
  refine qv m_mv ?_
  refine qv m_cat ?_
  refine qv m_cat ?_
  refine qv m_mv ?_
  refine qv m_as ?_
  refine qv m_as ?_
  show AWp cx _ _ _
  refine awp_ret ?_
  exact x2 (hr := (rD_)) (hr' := (rI_))
theorem f47 (L : List Tx) (hF : Few L) : ACallsF Tryz.prog 47 [txs L] (.one (.dv (dTx (bookL 0 L)))) := by
  have hL := hF.1
  refine callsF_of Tryz.func47 rfl rfl (by rw [Tryz.ntmps47]; simp) fun cx hP hn hg => ?_
  rw [Tryz.ntmps47] at hn
  rw [startF_lk, none_mkM]
  simp only [List.nil_append, List.append_nil, List.cons_append, zipSV, Nat.reduceAdd]
  refine awp_seq ?_
  refine rg ?_
  refine qv m_as ?_
  show AWp cx _ _ _
  refine awp_seq ?_
  refine rg ?_
  refine qv m_as ?_
  show AWp cx _ _ _
  refine awp_seq ?_
  refine rg ?_
  refine qv m_as ?_
  show AWp cx _ _ _
  refine awp_seq ?_
  refine awp_seq ?_
  refine rg ?_
  refine qv m_as ?_
  show AWp cx _ _ _
  refine awp_block ?_
  refine awp_loop (ι := Nat) (fun i => ⟨lk [(0, .dv (.list ((L).map dTx))), (3, .dv (dTx (bookL 0 (L.take i)))), (4, .dv (i64 (sumE 0 (L.take i) : Nat))), (5, .dv (i64 (i : Nat)))], mkM []⟩) (fun i => i ≤ L.length) (fun i => L.length - i) 0 (by simp) (tl [] (hF := by simp [FLe, svLe, lk, mkM, isLive, tauL, sumE, bookL]) (hM := by simp [MLe, blkLe, svLe, svLes, lk, mkM, isLive, tauL, svLes_ints, svLes_self, isDvs, isDvs_map, isDvs_app, isDvs_take, isDvs_set, isDvs_repl, sumE, bookL])) ?_
  intro i hφ0
  refine awp_seq ?_
  refine awp_seq ?_
  refine rg ?_
  refine qv m_mv ?_
  refine qv m_mv ?_
  refine qv (m_len il30) ?_
  refine qv m_lss ?_
  show AWp cx _ _ _
  refine cd (fun hc0 => ?_) (fun hc0 => ?_)
  · try simp at hc0
    refine awp_skip ?_
    show AWp cx _ _ _
    refine awp_seq ?_
    refine awp_block ?_
    refine awp_seq ?_
    refine rg ?_
    have hi : i < L.length := by omega
    have hx : L[i]? = some L[i] := List.getElem?_eq_getElem hi
    have hfi := hF.2 i hi
    have hse := sumE_lt (s := 0) (by decide) (L.take i)
    have hs0 := sum0_small hse
    have hbl := book_len hF i (by omega)
    have hsn := sumE_snoc (s := 0) hi
    have hbn := bookL_snoc (s := 0) hi
    have hsl := sumL_lt (by rw [hs0]; exact hse : sum0 ((sumE 0 (L.take i) : Nat) : Int) < 1000003) L[i]
    have hdl := dd_len hsl
    have hit := itoa_dd (sumL (sum0 ((sumE 0 (L.take i) : Nat) : Int)) L[i])
    refine qv m_mv ?_
    refine qv m_mv ?_
    refine qv m_mv ?_
    first | refine qv (m_ixN el30 sz9) ?_ | refine qv (m_ix el30 sz9) ?_
    refine qv (m_ld sz9 ag9) ?_
    refine qqF (f40 (sumE 0 (L.take i) : Nat) L[i] hfi) ?_
    refine qv m_as ?_
    show AWp cx _ _ _
    refine rd mixed ?_
    refine zv m_mv ?_
    refine zv m_mv ?_
    refine zqF (R := []) (f87 (sumL (sum0 ((sumE 0 (L.take i) : Nat) : Int)) L[i] : Nat) (by omega) (by omega)) ?_
    rw [hit]
    refine zv m_cat ?_
    refine zv m_mv ?_
    refine zv m_mv ?_
    first | refine zv (m_ixN el30 sz9) ?_ | refine zv (m_ix el30 sz9) ?_
    refine zv (m_ld sz9 ag9) ?_
    refine zv m_cat ?_
    refine zv m_cat ?_
    refine zv m_cat ?_
    refine zv m_as ?_
    refine ⟨by rfl, ?_⟩
    show AWp cx _ _ _
    refine rg ?_
    rw [hs0, ← hsn, show bookL 0 (L.take i) ++ (dd (sumE 0 (L.take (i + 1))) ++ [32] ++ L[i] ++ [10]) = bookL 0 (L.take (i + 1)) by rw [hbn, hsn]; rfl]
    refine qv m_mv ?_
    refine qv m_add ?_
    refine qv m_as ?_
    exact ⟨i + 1, hi, (by simp only; omega), (tl [])⟩
  · try simp at hc0
    refine awp_exit ?_
    show AWp cx _ _ _
    refine awp_seq ?_
    refine rg ?_
    refine qv m_mv ?_
    refine qv m_as ?_
    show AWp cx _ _ _
    refine awp_ret ?_
    obtain rfl : i = L.length := by omega
    rw [List.take_length]
    exact x1 (hr := (rD_))
theorem f42 (L : List Tx) (hF : Few L) : ACallsF Tryz.prog 42 [txs L] (.many [.dv (dTx (wrT L)), .dv (i64 (wrE L))]) := by
  have hL := hF.1
  refine callsF_of Tryz.func42 rfl rfl (by rw [Tryz.ntmps42]; simp) fun cx hP hn hg => ?_
  rw [Tryz.ntmps42] at hn
  rw [startF_lk, none_mkM]
  simp only [List.nil_append, List.append_nil, List.cons_append, zipSV, Nat.reduceAdd]
  refine awp_seq ?_
  refine rg ?_
  refine qv m_as ?_
  refine qv m_as ?_
  show AWp cx _ _ _
  refine awp_seq ?_
  refine awp_seq ?_
  refine rg ?_
  refine qv m_mv ?_
  refine qv (m_len il30) ?_
  refine qv m_gtr ?_
  show AWp cx _ _ _
  refine cd (fun hc0 => ?_) (fun hc0 => ?_)
  · try simp at hc0
    have hbg : 100 < L.length := by omega
    have hw := wrE_big hbg
    refine awp_seq ?_
    refine rg ?_
    refine qv m_as ?_
    refine qv m_as ?_
    show AWp cx _ _ _
    refine awp_ret ?_
    exact x2 (hr := (rD_ (by rw [wrT_no (by rw [hw]; decide)]))) (hr' := (rI_ (by rw [hw])))
  · try simp at hc0
    have hbg : ¬ 100 < L.length := by omega
    refine awp_skip ?_
    show AWp cx _ _ _
    refine awp_seq ?_
    refine awp_seq ?_
    refine rg ?_
    refine qv m_as ?_
    show AWp cx _ _ _
    refine awp_block ?_
    refine awp_loop (ι := Nat) (fun i => ⟨lk [(0, .dv (.list ((L).map dTx))), (4, .dv (i64 (i : Nat)))], mkM []⟩) (fun i => i ≤ L.length ∧ ∀ j (hj : j < L.length), j < i → isTx L[j] = true) (fun i => L.length - i) 0 (by simp) (tl []) ?_
    intro i hφ0
    refine awp_seq ?_
    refine awp_seq ?_
    refine rg ?_
    refine qv m_mv ?_
    refine qv m_mv ?_
    refine qv (m_len il30) ?_
    refine qv m_lss ?_
    show AWp cx _ _ _
    refine cd (fun hc1 => ?_) (fun hc1 => ?_)
    · try simp at hc1
      refine awp_skip ?_
      show AWp cx _ _ _
      refine awp_seq ?_
      refine awp_block ?_
      refine awp_seq ?_
      refine rg ?_
      have hi : i < L.length := by omega
      have hx : L[i]? = some L[i] := List.getElem?_eq_getElem hi
      have hfi := hF.2 i hi
      refine qv m_mv ?_
      refine qv m_mv ?_
      first | refine qv (m_ixN el30 sz9) ?_ | refine qv (m_ix el30 sz9) ?_
      refine qv (m_ld sz9 ag9) ?_
      refine qqF (f86 L[i] hfi) ?_
      refine qv m_not ?_
      show AWp cx _ _ _
      refine cd (fun hc2 => ?_) (fun hc2 => ?_)
      · try simp at hc2
        have hw := wrE_bad hbg hi (by simpa using hc2)
        refine awp_seq ?_
        refine rg ?_
        refine qv m_as ?_
        refine qv m_as ?_
        show AWp cx _ _ _
        refine awp_ret ?_
        exact x2 (hr := (rD_ (by rw [wrT_no (by rw [hw]; decide)]))) (hr' := (rI_ (by rw [hw])))
      · try simp at hc2
        refine awp_skip ?_
        show AWp cx _ _ _
        refine rg ?_
        refine qv m_mv ?_
        refine qv m_add ?_
        refine qv m_as ?_
        exact ⟨i + 1, ⟨hi, fun j hj h => by
          rcases Nat.lt_or_ge j i with h1 | h1
          · exact hφ0.2 j hj h1
          · obtain rfl : j = i := by omega
            simpa using hc2⟩, (by simp only; omega), (tl [])⟩
    · try simp at hc1
      have hw := wrE_ok hbg fun j hj => hφ0.2 j hj (by omega)
      refine awp_exit ?_
      show AWp cx _ _ _
      refine awp_seq ?_
      refine rg ?_
      refine qv m_mv ?_
      refine qqF (f47 L hF) ?_
      refine qv m_as ?_
      refine qv m_as ?_
      show AWp cx _ _ _
      refine awp_ret ?_
      exact x2 (hr := (rD_ (by rw [wrT_yes hw]))) (hr' := (rI_ (by rw [hw])))
theorem f38 (a b : List Tx) (ha : a.length < 1000000) : ACallsF Tryz.prog 38 [txs a, txs b] (.one (.dv (.bool (decide (a = b))))) := by
  refine callsF_of Tryz.func38 rfl rfl (by rw [Tryz.ntmps38]; simp) fun cx hP hn hg => ?_
  rw [Tryz.ntmps38] at hn
  rw [startF_lk, none_mkM]
  simp only [List.nil_append, List.append_nil, List.cons_append, zipSV, Nat.reduceAdd]
  refine awp_seq ?_
  refine rg ?_
  refine qv m_as ?_
  show AWp cx _ _ _
  refine awp_seq ?_
  refine awp_seq ?_
  refine rg ?_
  refine qv m_mv ?_
  refine qv (m_len il30) ?_
  refine qv m_mv ?_
  refine qv (m_len il30) ?_
  refine qv m_neq ?_
  show AWp cx _ _ _
  refine cd (fun hc0 => ?_) (fun hc0 => ?_)
  · try simp at hc0
    refine awp_seq ?_
    refine rg ?_
    refine qv m_as ?_
    show AWp cx _ _ _
    refine awp_ret ?_
    exact x1 (hr := (rB_ (by symm; rw [decide_eq_false_iff_not]; intro e; exact hc0 (by rw [e]))))
  · try simp at hc0
    have hlab : a.length = b.length := by omega
    refine awp_skip ?_
    show AWp cx _ _ _
    refine awp_seq ?_
    refine awp_seq ?_
    refine rg ?_
    refine qv m_as ?_
    show AWp cx _ _ _
    refine awp_block ?_
    refine awp_loop (ι := Nat) (fun i => ⟨lk [(0, .dv (.list ((a).map dTx))), (1, .dv (.list ((b).map dTx))), (5, .dv (i64 (i : Nat)))], mkM []⟩) (fun i => i ≤ a.length ∧ ∀ j (h1 : j < a.length) (h2 : j < b.length), j < i → a[j] = b[j]) (fun i => a.length - i) 0 (by simp) (tl []) ?_
    intro i hφ0
    refine awp_seq ?_
    refine awp_seq ?_
    refine rg ?_
    refine qv m_mv ?_
    refine qv m_mv ?_
    refine qv (m_len il30) ?_
    refine qv m_lss ?_
    show AWp cx _ _ _
    refine cd (fun hc1 => ?_) (fun hc1 => ?_)
    · try simp at hc1
      refine awp_skip ?_
      show AWp cx _ _ _
      refine awp_seq ?_
      refine awp_block ?_
      refine awp_seq ?_
      have hi : i < a.length := by omega
      have hib : i < b.length := by omega
      have hga : a[i]? = some a[i] := List.getElem?_eq_getElem hi
      have hgb : b[i]? = some b[i] := List.getElem?_eq_getElem hib
      refine rd mixed ?_
      refine zv m_mv ?_
      refine zv m_mv ?_
      first | refine zv (m_ixN el30 sz9) ?_ | refine zv (m_ix el30 sz9) ?_
      refine zv (m_ld sz9 ag9) ?_
      refine zv m_mv ?_
      refine zv m_mv ?_
      first | refine zv (m_ixN el30 sz9) ?_ | refine zv (m_ix el30 sz9) ?_
      refine zv (m_ld sz9 ag9) ?_
      refine zv m_sne ?_
      refine ⟨by rfl, ?_⟩
      show AWp cx _ _ _
      refine cd (fun hc2 => ?_) (fun hc2 => ?_)
      · try simp at hc2
        refine awp_seq ?_
        refine rg ?_
        refine qv m_as ?_
        show AWp cx _ _ _
        refine awp_ret ?_
        exact x1 (hr := (rB_ (by symm; rw [decide_eq_false_iff_not]; intro e; subst e; simp at hc2)))
      · try simp at hc2
        refine awp_skip ?_
        show AWp cx _ _ _
        refine rg ?_
        refine qv m_mv ?_
        refine qv m_add ?_
        refine qv m_as ?_
        exact ⟨i + 1, ⟨hi, fun j h1 h2 h => by
          rcases Nat.lt_or_ge j i with h3 | h3
          · exact hφ0.2 j h1 h2 h3
          · obtain rfl : j = i := by omega
            simpa using hc2⟩, (by simp only; omega), (tl [])⟩
    · try simp at hc1
      refine awp_exit ?_
      show AWp cx _ _ _
      refine awp_seq ?_
      refine rg ?_
      refine qv m_as ?_
      show AWp cx _ _ _
      refine awp_ret ?_
      exact x1 (hr := (rB_ (by symm; rw [decide_eq_true_iff]; exact txs_eq hlab fun j h1 h2 => hφ0.2 j h1 h2 (by omega))))
end Go.Ab.Tryz
