/- BogB5, BogWs, BogWr, BogB6, Ab53, BogN1. -/
import Derived.Test.YtjcecljhjailiaaGreatDoorBogG28
import Derived.Test.YtjcecljhjailiaaGreatDoorBogG09
import Derived.Test.YtjcecljhjailiaaGreatDoorBogG10
import Derived.Shelf.RegionOpenPlain
import Derived.Lib.Strings
import Derived.Lib.Slices
import Derived.Lib.Walk
import Derived.Lib.Builder
import Derived.Lib.AppendStr
import Derived.Lib.UnsafeStr
import Derived.Lib.MakeNoZero
import Derived.WalkKit
import Derived.Laws.Externs
import Derived.Laws.IdiomCopy
import Derived.Laws.BitsLemmas
import Derived.Test.YtjcecljhjailiaaGreatDoorBogG26
import Derived.Test.YtjcecljhjailiaaGreatDoorBogG13
import Derived.Test.YtjcecljhjailiaaGreatDoorBogG11
set_option linter.all false
namespace Go.Ab.Tryz
open Go Go.Ab Go.Proofs Go.Ab.Moss Go.Ab.Bog
open Go.Ab.Heap (ata ata_get ata_set)
section
variable {P : Program} {S : St} {x : Operand} {t : TypeId} {tg g o sz : Nat}
theorem m_ldX {L : List Tx} {T : Tx} {i : Nat} {st : Nat} (hs : szP P t = some 1) (ha : aggP P t = some false) (hq : L[i]? = some T) (hx : S.look x = (.pt tg g o, some ⟨L.map fun T => .dv (dTx T), 1, 9, st, true⟩) := by (simp only [St.look, St.ev, lk, mkM, blkOf, svOf, svOfCell, reduceIte, Nat.reduceAdd, Nat.reduceEqDiff, Nat.reduceMul] <;> rfl)) (ho : o = i := by first | rfl | (simp; done) | omega | (simp; omega)) :
    outOf P S (.load t x) = some (.val (.dv (dTx T))) := by
  refine m_ldp hs ha (hx := hx) (hc := ?_)
  subst ho
  show (L.map fun T => SV.dv (dTx T))[o]? = _
  rw [List.getElem?_map, hq]; rfl
end
theorem find_no {n : Nat} {p : Nat → Bool} (h : ∀ i, i < n → p i = false) : (List.range n).find? p = none := by
  rw [List.find?_eq_none]
  intro i hi
  rw [h i (List.mem_range.1 hi)]; decide
theorem find_at {n i : Nat} {p : Nat → Bool} (hi : i < n) (h : ∀ j, j < i → p j = false) (hp : p i = true) : (List.range n).find? p = some i := by
  rw [List.find?_range_eq_some]
  exact ⟨hp, by simpa using hi, fun j hj => by rw [h j hj]; decide⟩
theorem getD_at {L : List Tx} {i : Nat} (h : i < L.length) : L.getD i [] = L[i] := by rw [List.getD_eq_getElem?_getD, List.getElem?_eq_getElem h]; rfl
theorem merge_bad {a b : Tx} (h : ¬ ((readL 100 0 a).2 = [] ∧ (readL 100 0 b).2 = [])) : mergeL a b = ([], 0, 12) := by
  unfold mergeL
  simp only
  rw [if_pos]
  by_cases h1 : (readL 100 0 a).2 = []
  · exact .inr fun h2 => h ⟨h1, h2⟩
  · exact .inl h1
theorem merge_diff {a b : Tx} (h1 : (readL 100 0 a).2 = []) (h2 : (readL 100 0 b).2 = []) {i : Nat} (ha : i < (readL 100 0 a).1.length) (hb : i < (readL 100 0 b).1.length) (h : ∀ j (hj : j < (readL 100 0 a).1.length) (hk : j < (readL 100 0 b).1.length), j < i → (readL 100 0 a).1[j] = (readL 100 0 b).1[j]) (hd : ¬ (readL 100 0 a).1[i] = (readL 100 0 b).1[i]) :
    mergeL a b = ([], (i : Int), 7) := by
  have hf : (List.range (min (readL 100 0 a).1.length (readL 100 0 b).1.length)).find? (fun i => (readL 100 0 a).1.getD i [] != (readL 100 0 b).1.getD i []) = some i := find_at (by omega) (fun j hj => by
    rw [getD_at (by omega), getD_at (by omega)]
    have := h j (by omega) (by omega) hj
    simpa using this) (by
    rw [getD_at ha, getD_at hb]
    simpa using hd)
  unfold mergeL
  simp only
  rw [if_neg (by simp [h1, h2]), hf]
theorem merge_same {a b : Tx} (h1 : (readL 100 0 a).2 = []) (h2 : (readL 100 0 b).2 = []) (h : ∀ j (hj : j < (readL 100 0 a).1.length) (hk : j < (readL 100 0 b).1.length), (readL 100 0 a).1[j] = (readL 100 0 b).1[j]) :
    mergeL a b = if (readL 100 0 a).1.length < (readL 100 0 b).1.length then (b, ((readL 100 0 b).1.length : Int), 0) else (a, ((readL 100 0 a).1.length : Int), 0) := by
  have hf : (List.range (min (readL 100 0 a).1.length (readL 100 0 b).1.length)).find? (fun i => (readL 100 0 a).1.getD i [] != (readL 100 0 b).1.getD i []) = none := find_no fun i hi => by
    rw [getD_at (by omega), getD_at (by omega)]
    have := h i (by omega) (by omega)
    simpa using this
  unfold mergeL
  simp only
  rw [if_neg (by simp [h1, h2]), hf]
set_option maxHeartbeats 1000000 in
theorem f44 (A B : Tx) (hA : A.length < 1000000) (hB : B.length < 1000000) : ACallsF Tryz.prog 44 [dTx A, dTx B] (.many [.dv (dTx (mergeL A B).1), .dv (i64 (mergeL A B).2.1), .dv (i64 (mergeL A B).2.2)]) := by
  have hlA := (read_spec 100 0 A).2.2
  have hlB := (read_spec 100 0 B).2.2
  have hmi : (if (readL 100 0 B).1.length < (readL 100 0 A).1.length then ((readL 100 0 B).1.length : Int) else ((readL 100 0 A).1.length : Int)) = min ((readL 100 0 A).1.length : Int) ((readL 100 0 B).1.length : Int) := by split <;> omega
  refine callsF_of Tryz.func44 rfl rfl (by rw [Tryz.ntmps44]; simp) fun cx hP hn hg => ?_
  rw [Tryz.ntmps44] at hn
  rw [startF_lk, none_mkM]
  simp only [List.nil_append, List.append_nil, List.cons_append, zipSV, Nat.reduceAdd]
  refine awp_seq ?_
  refine rg ?_
  refine qv m_as ?_
  refine qv m_as ?_
  refine qv m_as ?_
  show AWp cx _ _ _
  refine awp_seq ?_
  refine rg ?_
  refine qv m_mv ?_
  refine qqF (f36 A hA) ?_ (hS := (res_rX2 (by (simp only [mkM, reduceIte, Nat.reduceEqDiff] <;> rfl))))
  refine qv m_mv ?_
  refine qv m_ext ?_
  refine qv m_ext ?_
  refine qv m_as ?_
  refine qv m_as ?_
  show AWp cx _ _ _
  refine awp_seq ?_
  refine rg ?_
  refine qv m_mv ?_
  refine qqF (f36 B hB) ?_ (hS := (res_rX2 (by (simp only [mkM, reduceIte, Nat.reduceEqDiff] <;> rfl))))
  refine qv m_mv ?_
  refine qv m_ext ?_
  refine qv m_ext ?_
  refine qv m_as ?_
  refine qv m_as ?_
  show AWp cx _ _ _
  refine awp_seq ?_
  refine awp_seq ?_
  refine rg ?_
  refine qv m_mv ?_
  refine qv m_sne ?_
  refine qx m_mv (fun hg24 => ?_) (fun hg24 => ?_)
  · try simp at hg24
    refine qk ?_
    refine qk ?_
    refine qv m_pk ?_
    show AWp cx _ _ _
    refine cdT (hb := by first | rfl | simp | simp_all) (ht := ?_)
    refine awp_seq ?_
    refine rg ?_
    refine qv m_as ?_
    refine qv m_as ?_
    refine qv m_as ?_
    show AWp cx _ _ _
    refine awp_ret ?_
    exact x3 (hr := (rD_ (by rw [merge_bad (by intro h; simp_all)]))) (hr' := (rI_ (by rw [merge_bad (by intro h; simp_all)]))) (hr'' := (rI_ (by rw [merge_bad (by intro h; simp_all)])))
  · try simp at hg24
    refine qv m_mv ?_
    refine qv m_sne ?_
    refine qv m_pk ?_
    show AWp cx _ _ _
    refine cd (fun hc0 => ?_) (fun hc0 => ?_)
    · try simp at hc0
      refine awp_seq ?_
      refine rg ?_
      refine qv m_as ?_
      refine qv m_as ?_
      refine qv m_as ?_
      show AWp cx _ _ _
      refine awp_ret ?_
      exact x3 (hr := (rD_ (by rw [merge_bad (by intro h; simp_all)]))) (hr' := (rI_ (by rw [merge_bad (by intro h; simp_all)]))) (hr'' := (rI_ (by rw [merge_bad (by intro h; simp_all)])))
    · try simp at hc0
      have h12 : (readL 100 0 A).2 = [] ∧ (readL 100 0 B).2 = [] := ⟨by simpa using hg24, by simpa using hc0⟩
      refine awp_skip ?_
      show AWp cx _ _ _
      refine awp_seq ?_
      refine awp_seq ?_
      refine rg ?_
      refine qv m_mv ?_
      refine qv (m_lenR il30) ?_
      refine qv m_mv ?_
      refine qv (m_lenR il30) ?_
      refine qv m_min ?_
      refine qv m_mv ?_
      show AWp cx _ _ _
      refine awp_block ?_
      refine awp_loop (ι := Nat) (fun i => ⟨lk [(0, .dv (dTx (A))), (1, .dv (dTx (B))), (7, .sl 14 0 0 ((readL 100 0 A).1).length), (9, .sl 19 0 0 ((readL 100 0 B).1).length), (32, .dv (i64 (min ((readL 100 0 A).1.length : Int) ((readL 100 0 B).1.length : Int)))), (33, .dv (i64 (i : Nat)))], mkM [(14, 0, some (rowX ((readL 100 0 A).1))), (19, 0, some (rowX ((readL 100 0 B).1)))]⟩) (fun i => i ≤ (readL 100 0 A).1.length ∧ i ≤ (readL 100 0 B).1.length ∧ ∀ j (hj : j < (readL 100 0 A).1.length) (hk : j < (readL 100 0 B).1.length), j < i → (readL 100 0 A).1[j] = (readL 100 0 B).1[j]) (fun i => (readL 100 0 A).1.length - i) 0 (by simp) (tl [(14, 14), (19, 19)] (hF := by simp [FLe, svLe, lk, mkM, isLive, tauL, svLes_txs, hmi]) (hM := by simp [MLe, blkLe, svLe, svLes, lk, mkM, isLive, tauL, svLes_ints, svLes_self, isDvs, isDvs_map, isDvs_app, isDvs_take, isDvs_set, isDvs_repl, svLes_txs, hmi])) ?_
      intro i hφ0
      refine awp_seq ?_
      refine rg ?_
      refine qv m_lss ?_
      show AWp cx _ _ _
      refine awp_seq ?_
      refine cd (fun hc1 => ?_) (fun hc1 => ?_)
      · try simp at hc1
        refine awp_skip ?_
        show AWp cx _ _ _
        refine awp_seq ?_
        refine awp_block ?_
        refine awp_seq ?_
        refine rg ?_
        refine qv m_mv ?_
        refine qv m_as ?_
        show AWp cx _ _ _
        refine awp_seq ?_
        refine rd mixed ?_
        have ha : i < (readL 100 0 A).1.length := by omega
        have hb : i < (readL 100 0 B).1.length := by omega
        have hga : (readL 100 0 A).1[i]? = some (readL 100 0 A).1[i] := List.getElem?_eq_getElem ha
        have hgb : (readL 100 0 B).1[i]? = some (readL 100 0 B).1[i] := List.getElem?_eq_getElem hb
        refine zv m_mv ?_
        refine zv m_mv ?_
        refine zv (m_ixR el30 sz9) ?_
        refine zv (m_ldX sz9 ag9 hga) ?_
        refine zv m_mv ?_
        refine zv m_mv ?_
        refine zv (m_ixR el30 sz9) ?_
        refine zv (m_ldX sz9 ag9 hgb) ?_
        refine zv m_sne ?_
        refine ⟨by rfl, ?_⟩
        show AWp cx _ _ _
        refine cd (fun hc2 => ?_) (fun hc2 => ?_)
        · try simp at hc2
          refine awp_seq ?_
          refine rg ?_
          refine qv m_mv ?_
          refine qv m_as ?_
          refine qv m_as ?_
          refine qv m_as ?_
          show AWp cx _ _ _
          refine awp_ret ?_
          exact x3 (hr := (rD_ (by rw [merge_diff h12.1 h12.2 ha hb (fun j hj hk h => hφ0.2.2 j hj hk h) (by simpa using hc2)]))) (hr' := (rI_ (by rw [merge_diff h12.1 h12.2 ha hb (fun j hj hk h => hφ0.2.2 j hj hk h) (by simpa using hc2)]))) (hr'' := (rI_ (by rw [merge_diff h12.1 h12.2 ha hb (fun j hj hk h => hφ0.2.2 j hj hk h) (by simpa using hc2)])))
        · try simp at hc2
          refine awp_skip ?_
          show AWp cx _ _ _
          refine rg ?_
          refine qv m_add ?_
          refine qv m_mv ?_
          exact ⟨i + 1, ⟨by omega, by omega, fun j hj hk h => by
            rcases Nat.lt_or_ge j i with h1 | h1
            · exact hφ0.2.2 j hj hk h1
            · obtain rfl : j = i := by omega
              simpa using hc2⟩, (by simp only; omega), (tl [(14, 14), (19, 19)] (hF := by simp [FLe, svLe, lk, mkM, isLive, tauL, svLes_txs]) (hM := by simp [MLe, blkLe, svLe, svLes, lk, mkM, isLive, tauL, svLes_ints, svLes_self, isDvs, isDvs_map, isDvs_app, isDvs_take, isDvs_set, isDvs_repl, svLes_txs]))⟩
      · try simp at hc1
        have hms := merge_same h12.1 h12.2 fun j hj hk => hφ0.2.2 j hj hk (by omega)
        refine awp_exit ?_
        show AWp cx _ _ _
        refine awp_seq ?_
        refine awp_seq ?_
        refine rg ?_
        refine qv m_mv ?_
        refine qv (m_lenR il30) ?_
        refine qv m_mv ?_
        refine qv (m_lenR il30) ?_
        refine qv m_gtr ?_
        show AWp cx _ _ _
        refine cd (fun hc3 => ?_) (fun hc3 => ?_)
        · try simp at hc3
          have hlt : (readL 100 0 A).1.length < (readL 100 0 B).1.length := by omega
          refine awp_seq ?_
          refine rg ?_
          refine qv m_mv ?_
          refine qv m_mv ?_
          refine qv (m_lenR il30) ?_
          refine qv m_as ?_
          refine qv m_as ?_
          refine qv m_as ?_
          show AWp cx _ _ _
          refine awp_ret ?_
          exact x3 (hr := (rD_ (by rw [hms, if_pos hlt]))) (hr' := (rI_ (by rw [hms, if_pos hlt]))) (hr'' := (rI_ (by rw [hms, if_pos hlt])))
        · try simp at hc3
          have hlt : ¬ (readL 100 0 A).1.length < (readL 100 0 B).1.length := by omega
          refine awp_skip ?_
          show AWp cx _ _ _
          refine awp_seq ?_
          refine rg ?_
          refine qv m_mv ?_
          refine qv m_mv ?_
          refine qv (m_lenR il30) ?_
          refine qv m_as ?_
          refine qv m_as ?_
          refine qv m_as ?_
          show AWp cx _ _ _
          refine awp_ret ?_
          exact x3 (hr := (rD_ (by rw [hms, if_neg hlt]))) (hr' := (rI_ (by rw [hms, if_neg hlt]))) (hr'' := (rI_ (by rw [hms, if_neg hlt])))
set_option maxHeartbeats 1000000 in
theorem f45 (A B : Tx) (hA : A.length < 1000000) (hB : B.length < 1000000) : ACallsF Tryz.prog 45 [dTx A, dTx B] (.many [.dv (dTx (mergeL A B).1), .dv (i64 (mergeL A B).2.1), .dv (i64 (mergeL A B).2.2)]) := by
  have hlA := (read_spec 100 0 A).2.2
  have hlB := (read_spec 100 0 B).2.2
  refine callsF_of Tryz.func45 rfl rfl (by rw [Tryz.ntmps45]; simp) fun cx hP hn hg => ?_
  rw [Tryz.ntmps45] at hn
  rw [startF_lk, none_mkM]
  simp only [List.nil_append, List.append_nil, List.cons_append, zipSV, Nat.reduceAdd]
  refine awp_seq ?_
  refine rg ?_
  refine qv m_as ?_
  refine qv m_as ?_
  refine qv m_as ?_
  show AWp cx _ _ _
  refine awp_seq ?_
  refine rg ?_
  refine qv m_mv ?_
  refine qqF (f37 A hA) ?_ (hS := (res_rX2 (by (simp only [mkM, reduceIte, Nat.reduceEqDiff] <;> rfl))))
  refine qv m_mv ?_
  refine qv m_ext ?_
  refine qv m_ext ?_
  refine qv m_as ?_
  refine qv m_as ?_
  show AWp cx _ _ _
  refine awp_seq ?_
  refine rg ?_
  refine qv m_mv ?_
  refine qqF (f37 B hB) ?_ (hS := (res_rX2 (by (simp only [mkM, reduceIte, Nat.reduceEqDiff] <;> rfl))))
  refine qv m_mv ?_
  refine qv m_ext ?_
  refine qv m_ext ?_
  refine qv m_as ?_
  refine qv m_as ?_
  show AWp cx _ _ _
  refine awp_seq ?_
  refine awp_seq ?_
  refine rg ?_
  refine qv m_mv ?_
  refine qv m_sne ?_
  refine qx m_mv (fun hg24 => ?_) (fun hg24 => ?_)
  · try simp at hg24
    refine qk ?_
    refine qk ?_
    refine qv m_pk ?_
    show AWp cx _ _ _
    refine cdT (hb := by first | rfl | simp | simp_all) (ht := ?_)
    refine awp_seq ?_
    refine rg ?_
    refine qv m_as ?_
    refine qv m_as ?_
    refine qv m_as ?_
    show AWp cx _ _ _
    refine awp_ret ?_
    exact x3 (hr := (rD_ (by rw [merge_bad (by intro h; simp_all)]))) (hr' := (rI_ (by rw [merge_bad (by intro h; simp_all)]))) (hr'' := (rI_ (by rw [merge_bad (by intro h; simp_all)])))
  · try simp at hg24
    refine qv m_mv ?_
    refine qv m_sne ?_
    refine qv m_pk ?_
    show AWp cx _ _ _
    refine cd (fun hc0 => ?_) (fun hc0 => ?_)
    · try simp at hc0
      refine awp_seq ?_
      refine rg ?_
      refine qv m_as ?_
      refine qv m_as ?_
      refine qv m_as ?_
      show AWp cx _ _ _
      refine awp_ret ?_
      exact x3 (hr := (rD_ (by rw [merge_bad (by intro h; simp_all)]))) (hr' := (rI_ (by rw [merge_bad (by intro h; simp_all)]))) (hr'' := (rI_ (by rw [merge_bad (by intro h; simp_all)])))
    · try simp at hc0
      have h12 : (readL 100 0 A).2 = [] ∧ (readL 100 0 B).2 = [] := ⟨by simpa using hg24, by simpa using hc0⟩
      refine awp_skip ?_
      show AWp cx _ _ _
      refine awp_seq ?_
      refine awp_seq ?_
      refine rg ?_
      refine qv m_as ?_
      show AWp cx _ _ _
      refine awp_block ?_
      refine awp_loop (ι := Nat) (fun i => ⟨lk [(0, .dv (dTx (A))), (1, .dv (dTx (B))), (7, .sl 14 0 0 ((readL 100 0 A).1).length), (9, .sl 19 0 0 ((readL 100 0 B).1).length), (11, .dv (i64 (i : Nat)))], mkM [(14, 0, some (rowX ((readL 100 0 A).1))), (19, 0, some (rowX ((readL 100 0 B).1)))]⟩) (fun i => i ≤ (readL 100 0 A).1.length ∧ i ≤ (readL 100 0 B).1.length ∧ ∀ j (hj : j < (readL 100 0 A).1.length) (hk : j < (readL 100 0 B).1.length), j < i → (readL 100 0 A).1[j] = (readL 100 0 B).1[j]) (fun i => (readL 100 0 A).1.length - i) 0 (by simp) (tl [(14, 14), (19, 19)] (hF := by simp [FLe, svLe, lk, mkM, isLive, tauL, svLes_txs]) (hM := by simp [MLe, blkLe, svLe, svLes, lk, mkM, isLive, tauL, svLes_ints, svLes_self, isDvs, isDvs_map, isDvs_app, isDvs_take, isDvs_set, isDvs_repl, svLes_txs])) ?_
      intro i hφ0
      refine awp_seq ?_
      refine awp_seq ?_
      refine rg ?_
      refine qv m_mv ?_
      refine qv m_mv ?_
      refine qv (m_lenR il30) ?_
      refine qv m_lss ?_
      refine qx m_mv (fun hg32 => ?_) (fun hg32 => ?_)
      · try simp at hg32
        refine qv m_mv ?_
        refine qv m_mv ?_
        refine qv (m_lenR il30) ?_
        refine qv m_lss ?_
        refine qv m_pk ?_
        show AWp cx _ _ _
        refine cd (fun hc1 => ?_) (fun hc1 => ?_)
        · try simp at hc1
          refine awp_skip ?_
          show AWp cx _ _ _
          refine awp_seq ?_
          refine awp_block ?_
          refine awp_seq ?_
          refine rd mixed ?_
          have ha : i < (readL 100 0 A).1.length := by omega
          have hb : i < (readL 100 0 B).1.length := by omega
          have hga : (readL 100 0 A).1[i]? = some (readL 100 0 A).1[i] := List.getElem?_eq_getElem ha
          have hgb : (readL 100 0 B).1[i]? = some (readL 100 0 B).1[i] := List.getElem?_eq_getElem hb
          refine zv m_mv ?_
          refine zv m_mv ?_
          refine zv (m_ixR el30 sz9) ?_
          refine zv (m_ldX sz9 ag9 hga) ?_
          refine zv m_mv ?_
          refine zv m_mv ?_
          refine zv (m_ixR el30 sz9) ?_
          refine zv (m_ldX sz9 ag9 hgb) ?_
          refine zv m_sne ?_
          refine ⟨by rfl, ?_⟩
          show AWp cx _ _ _
          refine cd (fun hc2 => ?_) (fun hc2 => ?_)
          · try simp at hc2
            refine awp_seq ?_
            refine rg ?_
            refine qv m_mv ?_
            refine qv m_as ?_
            refine qv m_as ?_
            refine qv m_as ?_
            show AWp cx _ _ _
            refine awp_ret ?_
            exact x3 (hr := (rD_ (by rw [merge_diff h12.1 h12.2 ha hb (fun j hj hk h => hφ0.2.2 j hj hk h) (by simpa using hc2)]))) (hr' := (rI_ (by rw [merge_diff h12.1 h12.2 ha hb (fun j hj hk h => hφ0.2.2 j hj hk h) (by simpa using hc2)]))) (hr'' := (rI_ (by rw [merge_diff h12.1 h12.2 ha hb (fun j hj hk h => hφ0.2.2 j hj hk h) (by simpa using hc2)])))
          · try simp at hc2
            refine awp_skip ?_
            show AWp cx _ _ _
            refine rg ?_
            refine qv m_mv ?_
            refine qv m_add ?_
            refine qv m_as ?_
            exact ⟨i + 1, ⟨by omega, by omega, fun j hj hk h => by
              rcases Nat.lt_or_ge j i with h1 | h1
              · exact hφ0.2.2 j hj hk h1
              · obtain rfl : j = i := by omega
                simpa using hc2⟩, (by simp only; omega), (tl [(14, 14), (19, 19)] (hF := by simp [FLe, svLe, lk, mkM, isLive, tauL, svLes_txs]) (hM := by simp [MLe, blkLe, svLe, svLes, lk, mkM, isLive, tauL, svLes_ints, svLes_self, isDvs, isDvs_map, isDvs_app, isDvs_take, isDvs_set, isDvs_repl, svLes_txs]))⟩
        · try simp at hc1
          refine awp_exit ?_
          show AWp cx _ _ _
          refine awp_seq ?_
          refine awp_seq ?_
          have hms := merge_same h12.1 h12.2 fun j hj hk => hφ0.2.2 j hj hk (by omega)
          refine rg ?_
          refine qv m_mv ?_
          refine qv (m_lenR il30) ?_
          refine qv m_mv ?_
          refine qv (m_lenR il30) ?_
          refine qv m_gtr ?_
          show AWp cx _ _ _
          refine cd (fun hc3 => ?_) (fun hc3 => ?_)
          · try simp at hc3
            have hlt : (readL 100 0 A).1.length < (readL 100 0 B).1.length := by omega
            refine awp_seq ?_
            refine rg ?_
            refine qv m_mv ?_
            refine qv m_mv ?_
            refine qv (m_lenR il30) ?_
            refine qv m_as ?_
            refine qv m_as ?_
            refine qv m_as ?_
            show AWp cx _ _ _
            refine awp_ret ?_
            exact x3 (hr := (rD_ (by rw [hms, if_pos hlt]))) (hr' := (rI_ (by rw [hms, if_pos hlt]))) (hr'' := (rI_ (by rw [hms, if_pos hlt])))
          · try simp at hc3
            have hlt : ¬ (readL 100 0 A).1.length < (readL 100 0 B).1.length := by omega
            refine awp_skip ?_
            show AWp cx _ _ _
            refine awp_seq ?_
            refine rg ?_
            refine qv m_mv ?_
            refine qv m_mv ?_
            refine qv (m_lenR il30) ?_
            refine qv m_as ?_
            refine qv m_as ?_
            refine qv m_as ?_
            show AWp cx _ _ _
            refine awp_ret ?_
            exact x3 (hr := (rD_ (by rw [hms, if_neg hlt]))) (hr' := (rI_ (by rw [hms, if_neg hlt]))) (hr'' := (rI_ (by rw [hms, if_neg hlt])))
      · try simp at hg32
        refine qk ?_
        refine qk ?_
        refine qk ?_
        refine qk ?_
        refine qv m_pk ?_
        show AWp cx _ _ _
        refine cdF (hb := by first | rfl | simp | simp_all) (ht := ?_)
        refine awp_exit ?_
        show AWp cx _ _ _
        refine awp_seq ?_
        refine awp_seq ?_
        have hms := merge_same h12.1 h12.2 fun j hj hk => hφ0.2.2 j hj hk (by omega)
        refine rg ?_
        refine qv m_mv ?_
        refine qv (m_lenR il30) ?_
        refine qv m_mv ?_
        refine qv (m_lenR il30) ?_
        refine qv m_gtr ?_
        show AWp cx _ _ _
        refine cd (fun hc3 => ?_) (fun hc3 => ?_)
        · try simp at hc3
          have hlt : (readL 100 0 A).1.length < (readL 100 0 B).1.length := by omega
          refine awp_seq ?_
          refine rg ?_
          refine qv m_mv ?_
          refine qv m_mv ?_
          refine qv (m_lenR il30) ?_
          refine qv m_as ?_
          refine qv m_as ?_
          refine qv m_as ?_
          show AWp cx _ _ _
          refine awp_ret ?_
          exact x3 (hr := (rD_ (by rw [hms, if_pos hlt]))) (hr' := (rI_ (by rw [hms, if_pos hlt]))) (hr'' := (rI_ (by rw [hms, if_pos hlt])))
        · try simp at hc3
          have hlt : ¬ (readL 100 0 A).1.length < (readL 100 0 B).1.length := by omega
          refine awp_skip ?_
          show AWp cx _ _ _
          refine awp_seq ?_
          refine rg ?_
          refine qv m_mv ?_
          refine qv m_mv ?_
          refine qv (m_lenR il30) ?_
          refine qv m_as ?_
          refine qv m_as ?_
          refine qv m_as ?_
          show AWp cx _ _ _
          refine awp_ret ?_
          exact x3 (hr := (rD_ (by rw [hms, if_neg hlt]))) (hr' := (rI_ (by rw [hms, if_neg hlt]))) (hr'' := (rI_ (by rw [hms, if_neg hlt])))
end Go.Ab.Tryz
set_option linter.all false
namespace Go.Proofs
open Go.Shelf Go.RowKit
set_option maxHeartbeats 2000000 in
set_option maxRecDepth 100000 in
theorem Tryz.Bcopy_used (b : Nat) (w : World) (h0 : w.cell? ⟨b, 0, none⟩ = some (.pointer (some ⟨b, 0, none⟩))) :
    Calls Tryz.prog 161 #[.pointer (some ⟨b, 0, none⟩)] w fun e w' => e = .returned (.tuple #[]) ∧ w' = w := by
  obtain ⟨j, hj, _⟩ := Option.map_eq_some_iff.1 (Tryz.Builder_Extra_169).sizeBuilder
  have mixed : Tryz.prog.follows .mixedOrders = true := by kernel_rfl
  have X := Tryz.Builder_Extra_169
  have t72 := Tryz.underlying164; have a72 := Tryz.isAgg164; have z72 := Tryz.sizeOf164; have v72 := Tryz.zeroValue164; have u72 := run_underlying Tryz.underlying164
  have t70 := Tryz.underlying161; have a70 := Tryz.isAgg161; have z70 := Tryz.sizeOf161; have v70 := Tryz.zeroValue161; have u70 := run_underlying Tryz.underlying161
  have t9 := Tryz.underlying9; have a9 := Tryz.isAgg9; have z9 := Tryz.sizeOf9; have v9 := Tryz.zeroValue9; have u9 := run_underlying Tryz.underlying9
  have t4 := Tryz.underlying4; have a4 := Tryz.isAgg4; have z4 := Tryz.sizeOf4; have v4 := Tryz.zeroValue4; have u4 := run_underlying Tryz.underlying4
  have t164 := Tryz.underlying174; have a164 := Tryz.isAgg174; have z164 := Tryz.sizeOf174; have v164 := Tryz.zeroValue174; have u164 := run_underlying Tryz.underlying174
  go_enter Tryz.func161, Tryz.ntmps161
  go_wp2
  rw [Lib.run_neq_ptr_same w _ Tryz.underlying161 hj]
  go_wp2
  go_end0
  exact ⟨rfl, rfl⟩
set_option maxHeartbeats 2000000 in
set_option maxRecDepth 100000 in
theorem Tryz.Bcopy_fresh (b : Nat) (w : World) (h0 : w.cell? ⟨b, 0, none⟩ = some (.pointer none)) (hsh : w.shape? b = some (164, 2)) (hfz : w.frozen? ⟨b, 0, none⟩ = false) :
    Calls Tryz.prog 161 #[.pointer (some ⟨b, 0, none⟩)] w fun e w' => e = .returned (.tuple #[]) ∧ w' = w.setCell ⟨b, 0, none⟩ (.pointer (some ⟨b, 0, none⟩)) := by
  obtain ⟨j, hj, hjs⟩ := Option.map_eq_some_iff.1 (Tryz.Builder_Extra_169).sizeBuilder
  have mixed : Tryz.prog.follows .mixedOrders = true := by kernel_rfl
  have X := Tryz.Builder_Extra_169
  have t72 := Tryz.underlying164; have a72 := Tryz.isAgg164; have z72 := Tryz.sizeOf164; have v72 := Tryz.zeroValue164; have u72 := run_underlying Tryz.underlying164
  have t70 := Tryz.underlying161; have a70 := Tryz.isAgg161; have z70 := Tryz.sizeOf161; have v70 := Tryz.zeroValue161; have u70 := run_underlying Tryz.underlying161
  have t9 := Tryz.underlying9; have a9 := Tryz.isAgg9; have z9 := Tryz.sizeOf9; have v9 := Tryz.zeroValue9; have u9 := run_underlying Tryz.underlying9
  have t4 := Tryz.underlying4; have a4 := Tryz.isAgg4; have z4 := Tryz.sizeOf4; have v4 := Tryz.zeroValue4; have u4 := run_underlying Tryz.underlying4
  have t164 := Tryz.underlying174; have a164 := Tryz.isAgg174; have z164 := Tryz.sizeOf174; have v164 := Tryz.zeroValue174; have u164 := run_underlying Tryz.underlying174
  go_enter Tryz.func161, Tryz.ntmps161
  go_wp2
  rw [Lib.run_to_unsafe w ⟨b, 0, none⟩ Tryz.underlying161 Tryz.underlying174 hj (by rw [hjs]; decide) hsh (Nat.zero_lt_succ 1)]
  simp only [Result.andThen]
  rw [Oper.upon_value]
  go_wp2
  rw [run_callFunc_extern Tryz.func190 (by kernel_rfl) (by kernel_rfl) (by kernel_rfl) (e := Extern.AbiNoEscape.same) (by kernel_rfl)]
  rw [Lib.run_noEscape]
  simp only [Result.andThen]
  rw [Oper.upon_value]
  go_wp2
  rw [Lib.run_from_unsafe w ⟨b, 0, none⟩ Tryz.underlying174 Tryz.underlying161 hj hsh X.liesBuilder]
  simp only [Result.andThen]
  rw [Oper.upon_value]
  go_wp2
  go_end0
  exact ⟨rfl, rfl⟩
set_option maxHeartbeats 2000000 in
set_option maxRecDepth 100000 in
theorem Tryz.Bcopy (B b : Nat) (bs : List Value) (w : World) (h : Lib.IsBuilder 164 5 B b bs w) :
    Calls Tryz.prog 161 #[.pointer (some ⟨b, 0, none⟩)] w fun e w' => e = .returned (.tuple #[]) ∧ (Lib.BuilderAt 164 5 B b (.pointer (some ⟨b, 0, none⟩)) bs w' ∧ Below B w w') := by
  rcases h with h | h
  · refine (Tryz.Bcopy_fresh b w h.cell0 h.shape h.frozen0).mono ?_
    rintro e w' ⟨rfl, rfl⟩
    exact ⟨rfl, h.used _, (Below.refl B w).setCell (p := ⟨b, 0, none⟩) h.1 _⟩
  · refine (Tryz.Bcopy_used b w h.cell0).mono ?_
    rintro e w' ⟨rfl, rfl⟩
    exact ⟨rfl, h, Below.refl B _⟩
set_option maxHeartbeats 2000000 in
set_option maxRecDepth 100000 in
theorem Tryz.Bwrite (B b : Nat) (bs : List Value) (s : ByteArray) (w : World) (h : Lib.IsBuilder 164 5 B b bs w) (hlen : bs.length + s.size ≤ 140737488355328) (hBw : B ≤ w.heap.size) :
    Calls Tryz.prog 123 #[.pointer (some ⟨b, 0, none⟩), .string s] w fun e w' => e = .returned (.tuple #[.int .i64 s.size, .nilIface]) ∧ (Lib.BuilderAt 164 5 B b (.pointer (some ⟨b, 0, none⟩)) (bs ++ Lib.strCells s) w' ∧ Below B w w') := by
  obtain ⟨i0, hi, hz0, hz1, hz2⟩ := info_parts (Tryz.Builder_Extra_169).infoByte
  have mixed : Tryz.prog.follows .mixedOrders = true := by kernel_rfl
  have X := Tryz.Builder_Extra_169
  have t72 := Tryz.underlying164; have a72 := Tryz.isAgg164; have z72 := Tryz.sizeOf164; have v72 := Tryz.zeroValue164; have u72 := run_underlying Tryz.underlying164
  have t70 := Tryz.underlying161; have a70 := Tryz.isAgg161; have z70 := Tryz.sizeOf161; have v70 := Tryz.zeroValue161; have u70 := run_underlying Tryz.underlying161
  have t37 := Tryz.underlying162; have a37 := Tryz.isAgg162; have z37 := Tryz.sizeOf162; have v37 := Tryz.zeroValue162; have u37 := run_underlying Tryz.underlying162
  have t3 := Tryz.underlying3; have a3 := Tryz.isAgg3; have z3 := Tryz.sizeOf3; have v3 := Tryz.zeroValue3; have u3 := run_underlying Tryz.underlying3
  have t9 := Tryz.underlying9; have a9 := Tryz.isAgg9; have z9 := Tryz.sizeOf9; have v9 := Tryz.zeroValue9; have u9 := run_underlying Tryz.underlying9
  have t4 := Tryz.underlying4; have a4 := Tryz.isAgg4; have z4 := Tryz.sizeOf4; have v4 := Tryz.zeroValue4; have u4 := run_underlying Tryz.underlying4
  have t164 := Tryz.underlying174; have a164 := Tryz.isAgg174; have z164 := Tryz.sizeOf174; have v164 := Tryz.zeroValue174; have u164 := run_underlying Tryz.underlying174
  have t5 := Tryz.underlying5; have a5 := Tryz.isAgg5; have z5 := Tryz.sizeOf5; have v5 := Tryz.zeroValue5; have u5 := run_underlying Tryz.underlying5
  have e240 : ∀ args w, (callFunc 161 args).run Tryz.prog w = .ok (.enter 161 args) w := enters_of Tryz.func161 (by kernel_rfl) rfl
  go_enter Tryz.func123, Tryz.ntmps123
  go_wp2_with (go_at_fn 161; refine (Tryz.Bcopy B b bs _ h).mono ?_)
  rintro e w1 ⟨rfl, h1, hb1⟩
  obtain ⟨hB, v, hbk, hown, hne⟩ := h1
  have c0 : w1.cell? ⟨b, 0, none⟩ = some (.pointer (some ⟨b, 0, none⟩)) := by rw [Lib.cell_of_heap hbk]; rfl
  have c1 : w1.cell? ⟨b, 1, none⟩ = some v := by rw [Lib.cell_of_heap hbk]; rfl
  go_wp2_with (at_builtin; refine Lib.wpList_append_own_string _ rfl _ _ 162 9 rfl B 5 i0 Tryz.underlying162 Tryz.underlying9 hi hz0 hz1 hz2 _ _ _ rfl hown s rfl ?c3 ?c4 ?c5 ?_)
  case c3 => unfold maxLen; omega
  case c4 => omega
  case c5 => have := hb1.size; omega
  intro v' w2 hown' hgrow _
  have hlt : b < w1.heap.size := by
    rcases Nat.lt_or_ge b w1.heap.size with h' | h'
    · exact h'
    · simp [Array.getElem?_eq_none h'] at hbk
  have hb2 : w2.heap[b]? = some (.cells #[.pointer (some ⟨b, 0, none⟩), v] 164 (0, 0)) := by
    rw [hgrow.block b hlt (fun e => hne e.symm)]
    exact hbk
  have d0 : w2.cell? ⟨b, 0, none⟩ = some (.pointer (some ⟨b, 0, none⟩)) := by rw [Lib.cell_of_heap hb2]; rfl
  have d1 : w2.cell? ⟨b, 1, none⟩ = some v := by rw [Lib.cell_of_heap hb2]; rfl
  have f1 : w2.frozen? ⟨b, 1, none⟩ = false := Lib.frozen_of_heap hb2 1
  obtain ⟨ao, n', cap, rfl⟩ : ∃ ao n' cap, v' = .slice ao n' cap := by
    rcases hown'.2 with ⟨hv, _⟩ | ⟨g, cap, cur, hv, _⟩
    · exact ⟨_, _, _, hv⟩
    · exact ⟨_, _, _, hv⟩
  go_wp2
  go_ret2
  refine ⟨rfl, ?_, ?_⟩
  · exact Lib.BuilderAt.put (T := 164) (e := 5) hB hb2 (bs' := bs ++ Lib.strCells s) (by simpa [Lib.strCells_length] using hown') X.neB5
  · exact (hb1.grown hgrow (by have := hb1.size; omega) (fun k hk => (hown.lt k hk).1)).setCell (p := ⟨b, 1, none⟩) hB _
end Go.Proofs
set_option linter.all false
namespace Go.Ab.Tryz
open Go Go.Ab Go.Proofs Go.RowKit Go.Ab.Bog
theorem laid_below {w w' : World} (h : Laid w) (hb : Below w.heap.size w w') : Laid w' := h.keep fun g hk => hb.block g (h.lt hk)
theorem line_raw (s : Int) (T : Tx) (hT : T.length < 1000000) (w : World) (hl : Laid w) :
    Calls Tryz.prog 85 #[.int .i64 s, .string (bs T)] w fun e w' => e = .returned (.tuple #[.string (bs (lineL (sum0 s) T)), .int .i64 (sumL (sum0 s) T : Nat)]) ∧ Below w.heap.size w w' := by
  refine ((f85 s T hT).2 w #[.int .i64 s, .string (bs T)] hl ⟨rfl, fun j d hj => ?_⟩).mono fun e w' ⟨v, he, hb, hr⟩ => ?_
  · match j, hj with
    | 0, hj => cases hj; exact .int _ _
    | 1, hj => cases hj; exact .str _
  · obtain ⟨vs, obs, hvt, hv, _⟩ := hr
    subst he
    obtain ⟨v1, v2, rfl⟩ : ∃ v1 v2, vs = [v1, v2] := by
      rcases vs with _ | ⟨v1, _ | ⟨v2, _ | ⟨v3, vs⟩⟩⟩
      · cases obs <;> simp [R1Reps] at hv
      · rcases obs with _ | ⟨o1, _ | ⟨o2, obs⟩⟩ <;> simp [R1Reps] at hv
      · exact ⟨v1, v2, rfl⟩
      · rcases obs with _ | ⟨o1, _ | ⟨o2, _ | ⟨o3, obs⟩⟩⟩ <;> simp [R1Reps] at hv
    rcases obs with _ | ⟨o1, _ | ⟨o2, _ | ⟨o3, obs⟩⟩⟩
    · simp [R1Reps] at hv
    · simp [R1Reps] at hv
    · obtain ⟨h1, h2, _⟩ := hv
      have e1 := rep_str h1.2
      have e2 := rep_int h2.2
      subst e1; subst e2; subst hvt
      exact ⟨rfl, hb⟩
    · simp [R1Reps] at hv
theorem below_less {A B : Nat} {w w' : World} (h : Below B w w') (hA : A ≤ B) : Below A w w' := ⟨h.os, h.tape, h.output, h.size, fun k hk => h.block k (by omega)⟩
theorem builder_below {T e : TypeId} {B b : Nat} {bs : List Value} {w w' : World} (h : Lib.IsBuilder T e B b bs w) (hb : Below w.heap.size w w') : Lib.IsBuilder T e B b bs w' := by
  have go : ∀ p, Lib.BuilderAt T e B b p bs w → Lib.BuilderAt T e B b p bs w' := by
    rintro p ⟨hB, v, hk, hown, hne⟩
    have hlt : b < w.heap.size := (Array.getElem?_eq_some_iff.1 hk).1
    refine ⟨hB, v, by rw [hb.block b hlt]; exact hk, ⟨hown.1, hown.2.imp id ?_⟩, hne⟩
    rintro ⟨g, cap, cur, e1, e2, e3, e4⟩
    exact ⟨g, cap, cur, e1, e2, by rw [hb.block g (Array.getElem?_eq_some_iff.1 e3).1]; exact e3, e4⟩
  exact h.imp (go _) (go _)
theorem hidJ {p : Prop} (h : p) : Hid p := h
theorem en81 : EnterP Tryz.prog 81 := ⟨_, Tryz.func81, rfl, rfl⟩
set_option maxHeartbeats 4000000 in
set_option maxRecDepth 100000 in
theorem write_raw (L : List Tx) (hF : Few L) (ao : Option Addr) (cap : Nat) (w : World) (hl : Laid w) (hc : ∀ (i : Nat) (hi : i < L.length), ∃ b o, ao = some ⟨b, o, none⟩ ∧ b < w.heap.size ∧ w.cell? ⟨b, o + i, none⟩ = some (.string (bs L[i]))) :
    Calls Tryz.prog 81 #[.slice ao L.length cap] w fun e w' => e = .returned (.string (bs (bookL 0 L))) ∧ Below w.heap.size w w' := by
  have mixed : Tryz.prog.follows .mixedOrders = true := by kernel_rfl
  have e85 : ∀ args w, (callFunc 85 args).run Tryz.prog w = .ok (.enter 85 args) w := enters_of Tryz.func85 (by kernel_rfl) rfl
  have e123 : ∀ args w, (callFunc 123 args).run Tryz.prog w = .ok (.enter 123 args) w := enters_of Tryz.func123 (by kernel_rfl) rfl
  have e124 : ∀ args w, (callFunc 124 args).run Tryz.prog w = .ok (.enter 124 args) w := enters_of Tryz.func124 (by kernel_rfl) rfl
  have t164 := Tryz.underlying164; have a164 := Tryz.isAgg164; have z164 := Tryz.sizeOf164; have v164 := Tryz.zeroValue164; have u164 := run_underlying Tryz.underlying164
  have t30 := Tryz.underlying30; have a30 := Tryz.isAgg30; have z30 := Tryz.sizeOf30; have v30 := Tryz.zeroValue30; have u30 := run_underlying Tryz.underlying30
  have t9 := Tryz.underlying9; have a9 := Tryz.isAgg9; have z9 := Tryz.sizeOf9; have v9 := Tryz.zeroValue9; have u9 := run_underlying Tryz.underlying9
  have t3 := Tryz.underlying3; have a3 := Tryz.isAgg3; have z3 := Tryz.sizeOf3; have v3 := Tryz.zeroValue3; have u3 := run_underlying Tryz.underlying3
  have t4 := Tryz.underlying4; have a4 := Tryz.isAgg4; have z4 := Tryz.sizeOf4; have v4 := Tryz.zeroValue4; have u4 := run_underlying Tryz.underlying4
  go_enter Tryz.func81, Tryz.ntmps81
  go_wp2_with fail
  go_loopw [4, 11] (fun s i wr => ∃ k : Nat, k ≤ L.length ∧ i = .int .i64 k ∧ s = .int .i64 (sumE 0 (L.take k) : Nat) ∧ Hid (Lib.IsBuilder 164 5 w.heap.size w.heap.size (Lib.byteCells (bookL 0 (L.take k))) wr) ∧ Hid (Below w.heap.size w wr)) (fun _ i _ => L.length - (intOf i).toNat)
  case atStart => exact ⟨0, Nat.zero_le _, rfl, rfl, Lib.fresh_isBuilder 164 5 w, (Below.refl w.heap.size w).alloc (Nat.le_refl _) _⟩
  case round =>
    obtain ⟨k, hk', rfl, rfl, HB, HW⟩ := hrel
    by_cases hkr : k < L.length
    · obtain ⟨b, o, hao, hbb, hcell⟩ := hc k hkr
      subst hao
      have hcy : wr.cell? ⟨b, o + k, none⟩ = some (.string (bs L[k])) := by
        rw [HW.out.cell (p := ⟨b, o + k, none⟩) hbb]; exact hcell
      have hT := hF.2 k hkr
      have hL := hF.1
      have hse := sumE_lt (s := 0) (by decide) (L.take k)
      have hs0 := sum0_small hse
      have hbl := book_len hF k (by omega)
      have hll := line_len (s := sumE 0 (L.take k)) (T := L[k]) hse
      go_wp2_with fail
      refine (line_raw (sumE 0 (L.take k) : Nat) L[k] hT wr (laid_below hl HW.out)).mono ?_
      rintro e w2 ⟨rfl, hb2⟩
      rw [hs0]
      have hBw : w.heap.size ≤ wr.heap.size := HW.out.size
      have HW2 := hidJ (HW.out.trans (below_less hb2 hBw))
      have HB2 := hidJ (builder_below HB.out hb2)
      clear hb2
      have hBw2 : w.heap.size ≤ w2.heap.size := HW2.out.size
      go_wp2_with fail
      refine (Tryz.Bwrite w.heap.size w.heap.size _ (bs (lineL (sumE 0 (L.take k)) L[k])) w2 HB2.out (by rw [Lib.byteCells_length, bs_size]; omega) hBw2).mono ?_
      rintro e w3 ⟨rfl, h3, hb3⟩
      have hnext : Lib.byteCells (bookL 0 (L.take k)) ++ Lib.strCells (bs (lineL (sumE 0 (L.take k)) L[k])) = Lib.byteCells (bookL 0 (L.take (k + 1))) := by
        rw [Lib.strCells_eq, ← Lib.byteCells_append, bookL_snoc hkr]
      rw [hnext] at h3
      have H3 := hidJ (Or.inr h3 : Lib.IsBuilder 164 5 w.heap.size w.heap.size _ w3)
      have HW3 := hidJ (HW2.out.trans hb3)
      have hsn := sumE_snoc (s := 0) hkr
      clear h3 hb3 hnext
      go_wp2
      exact ⟨⟨k + 1, by omega, by go_num, by rw [hsn], H3, HW3⟩, by simp [intOf]; omega⟩
    · have hke : k = L.length := by omega
      subst hke
      have hB' := HB.out
      rw [List.take_length] at hB'
      have hBw : w.heap.size ≤ wr.heap.size := HW.out.size
      go_wp2_with fail
      refine (Tryz.Builder_String_any w.heap.size w.heap.size _ wr hB' hBw).mono ?_
      rintro e w5 ⟨rfl, hb5⟩
      have Hb5 := hidJ (HW.out.trans hb5)
      clear hb5 hB'
      go_wp2
      go_ret
      exact ⟨rfl, Hb5.out⟩
theorem f81 (L : List Tx) (hF : Few L) : ACallsF Tryz.prog 81 [txs L] (.one (.dv (dTx (bookL 0 L)))) := by
  refine ⟨en81, fun w vs hl ha => ?_⟩
  have fin : ∀ ao cap, (∀ (i : Nat) (hi : i < L.length), ∃ b o, ao = some ⟨b, o, none⟩ ∧ b < w.heap.size ∧ w.cell? ⟨b, o + i, none⟩ = some (.string (bs L[i]))) → Calls Tryz.prog 81 #[.slice ao L.length cap] w fun e w' => ∃ v, e = .returned v ∧ Below w.heap.size w w' ∧ ResRep w.heap.size w' (fun b => b < w.heap.size) (.one (.dv (dTx (bookL 0 L)))) v := fun ao cap hc =>
    (write_raw L hF ao cap w hl hc).mono fun e w' ⟨he, hb⟩ => ⟨_, he, hb, res_dv (.str _)⟩
  obtain ⟨hs, hv⟩ := ha
  have h0 := hv 0 _ rfl
  obtain ⟨v, rfl⟩ : ∃ v, vs = #[v] := by
    cases vs with
    | mk l =>
      simp at hs
      match l, hs with
      | [v], _ => exact ⟨v, rfl⟩
  simp only [Array.getD_eq_getD_getElem?] at h0
  have h0' : RepD w (fun _ => False) (.list (L.map dTx)) v := h0
  clear h0
  generalize hL : (L.map dTx) = D at h0'
  have hlen : D.length = L.length := by rw [← hL]; simp
  cases h0' with
  | listNil a cap =>
    have : L = [] := by
      cases L with
      | nil => rfl
      | cons a l => simp at hL
    subst this
    exact fin a cap fun i hi => absurd hi (Nat.not_lt_zero i)
  | list _ b off cap esz u h1 h2 h3 h4 h5 h6 =>
    rw [hlen]
    refine fin _ cap fun i hi => ⟨b, off, rfl, h2, ?_⟩
    have hf : flat D = D := by rw [← hL]; exact flat_one fun _ => rfl
    have hi2 : (flat D)[i]? = some (dTx L[i]) := by rw [hf, ← hL]; simp [hi]
    rw [h5 i _ hi2]
    exact congrArg some (rep_str (h6 i _ hi2))
end Go.Ab.Tryz
set_option linter.all false
namespace Go.Ab.Tryz
open Go Go.Ab Go.Proofs Go.Ab.Moss Go.Ab.Bog
open Go.Ab.Heap (ata ata_get ata_set)
def longB (L : List Tx) : Bool := L.any (fun T => decide (400 < T.length)) || decide (300 < L.length)
theorem long_at {L : List Tx} {i : Nat} (hi : i < L.length) (h : 400 < L[i].length) : longB L = true := by
  unfold longB
  rw [List.any_eq_true.2 ⟨_, List.getElem_mem hi, by simpa using h⟩]; rfl
theorem long_no {L : List Tx} (h : ∀ i (hi : i < L.length), L[i].length ≤ 400) : longB L = decide (300 < L.length) := by
  unfold longB
  have : L.any (fun T => decide (400 < T.length)) = false := by
    rw [List.any_eq_false]
    intro T hT
    obtain ⟨i, hi, rfl⟩ := List.getElem_of_mem hT
    have := h i hi
    simp; omega
  rw [this, Bool.false_or]
theorem long_few {L : List Tx} (h : longB L = false) : Few L ∧ L.length ≤ 300 ∧ ∀ i (hi : i < L.length), L[i].length ≤ 400 := by
  unfold longB at h
  rw [Bool.or_eq_false_iff, List.any_eq_false, decide_eq_false_iff_not] at h
  have h1 : ∀ i (hi : i < L.length), L[i].length ≤ 400 := fun i hi => by have := h.1 _ (List.getElem_mem hi); simp at this; omega
  exact ⟨⟨by omega, fun i hi => by have := h1 i hi; omega⟩, by omega, h1⟩
theorem f41 (L : List Tx) (hF : Few L) : ACallsF Tryz.prog 41 [txs L] (.many [.dv (dTx (wrT L)), .dv (i64 (wrE L))]) := by
  have hL := hF.1
  refine callsF_of Tryz.func41 rfl rfl (by rw [Tryz.ntmps41]; simp) fun cx hP hn hg => ?_
  rw [Tryz.ntmps41] at hn
  rw [startF_lk, none_mkM]
  simp only [List.nil_append, List.append_nil, List.cons_append, zipSV, Nat.reduceAdd]
  refine awp_seq ?_
  refine rg ?_
  refine qv m_as ?_
  refine qv m_as ?_
  show AWp cx _ _ _
  refine awp_seq ?_
  refine awp_seq ?_
  refine rg ?_
  refine qv m_mv ?_
  refine qv (m_len il30) ?_
  refine qv m_gtr ?_
  show AWp cx _ _ _
  refine cd (fun hc0 => ?_) (fun hc0 => ?_)
  · try simp at hc0
    have hbg : 100 < L.length := by omega
    have hw := wrE_big hbg
    refine awp_seq ?_
    refine rg ?_
    refine qv m_as ?_
    refine qv m_as ?_
    show AWp cx _ _ _
    refine awp_ret ?_
    exact x2 (hr := (rD_ (by rw [wrT_no (by rw [hw]; decide)]))) (hr' := (rI_ (by rw [hw])))
  · try simp at hc0
    have hbg : ¬ 100 < L.length := by omega
    refine awp_skip ?_
    show AWp cx _ _ _
    refine awp_seq ?_
    refine awp_seq ?_
    refine rg ?_
    refine qv m_mv ?_
    refine qv (m_len il30) ?_
    refine qv m_mv ?_
    show AWp cx _ _ _
    refine awp_block ?_
    refine awp_loop (ι := Nat) (fun i => ⟨lk [(0, .dv (.list ((L).map dTx))), (9, .dv (.list ((L).map dTx))), (10, .dv (i64 ((L.length : Int)))), (11, .dv (i64 (i : Nat)))], mkM []⟩) (fun i => i ≤ L.length ∧ ∀ j (hj : j < L.length), j < i → isTx L[j] = true) (fun i => L.length - i) 0 (by simp) (tl []) ?_
    intro i hφ0
    refine awp_seq ?_
    refine rg ?_
    refine qv m_lss ?_
    show AWp cx _ _ _
    refine awp_seq ?_
    refine cd (fun hc1 => ?_) (fun hc1 => ?_)
    · try simp at hc1
      refine awp_skip ?_
      show AWp cx _ _ _
      refine awp_seq ?_
      refine awp_block ?_
      refine awp_seq ?_
      refine rg ?_
      have hi : i < L.length := by omega
      have hx : L[i]? = some L[i] := List.getElem?_eq_getElem hi
      have hfi := hF.2 i hi
      first | refine qv (m_ixN el30 sz9) ?_ | refine qv (m_ix el30 sz9) ?_
      refine qv (m_ld sz9 ag9) ?_
      refine qv m_as ?_
      show AWp cx _ _ _
      refine awp_seq ?_
      refine rg ?_
      refine qv m_mv ?_
      refine qqF (f84 L[i] hfi) ?_
      refine qv m_not ?_
      show AWp cx _ _ _
      refine cd (fun hc2 => ?_) (fun hc2 => ?_)
      · try simp at hc2
        have hw := wrE_bad hbg hi (by simpa using hc2)
        refine awp_seq ?_
        refine rg ?_
        refine qv m_as ?_
        refine qv m_as ?_
        show AWp cx _ _ _
        refine awp_ret ?_
        exact x2 (hr := (rD_ (by rw [wrT_no (by rw [hw]; decide)]))) (hr' := (rI_ (by rw [hw])))
      · try simp at hc2
        refine awp_skip ?_
        show AWp cx _ _ _
        refine rg ?_
        refine qv m_add ?_
        refine qv m_mv ?_
        exact ⟨i + 1, ⟨hi, fun j hj h => by
          rcases Nat.lt_or_ge j i with h1 | h1
          · exact hφ0.2 j hj h1
          · obtain rfl : j = i := by omega
            simpa using hc2⟩, (by simp only; omega), (tl [])⟩
    · try simp at hc1
      have hw := wrE_ok hbg fun j hj => hφ0.2 j hj (by omega)
      refine awp_exit ?_
      show AWp cx _ _ _
      refine awp_seq ?_
      refine rg ?_
      refine qv m_mv ?_
      refine qqF (f81 L hF) ?_
      refine qv m_as ?_
      refine qv m_as ?_
      show AWp cx _ _ _
      refine awp_ret ?_
      exact x2 (hr := (rD_ (by rw [wrT_yes hw]))) (hr' := (rI_ (by rw [hw])))
theorem f19 (L : List Tx) (hl : L.length ≤ 9223372036854775807) : ACallsF Tryz.prog 19 [txs L] (.one (.dv (.bool (longB L)))) := by
  refine callsF_of Tryz.func19 rfl rfl (by rw [Tryz.ntmps19]; simp) fun cx hP hn hg => ?_
  rw [Tryz.ntmps19] at hn
  rw [startF_lk, none_mkM]
  simp only [List.nil_append, List.append_nil, List.cons_append, zipSV, Nat.reduceAdd]
  refine awp_seq ?_
  refine rg ?_
  refine qv m_as ?_
  show AWp cx _ _ _
  refine awp_seq ?_
  refine awp_seq ?_
  refine rg ?_
  refine qv m_as ?_
  show AWp cx _ _ _
  refine awp_block ?_
  refine awp_loop (ι := Nat) (fun i => ⟨lk [(0, .dv (.list ((L).map dTx))), (3, .dv (i64 (i : Nat)))], mkM []⟩) (fun i => i ≤ L.length ∧ ∀ j (hj : j < L.length), j < i → L[j].length ≤ 400) (fun i => L.length - i) 0 (by simp) (tl []) ?_
  intro i hφ0
  refine awp_seq ?_
  refine awp_seq ?_
  refine rg ?_
  refine qv m_mv ?_
  refine qv m_mv ?_
  refine qv (m_len il30) ?_
  refine qv m_lss ?_
  show AWp cx _ _ _
  refine cd (fun hc0 => ?_) (fun hc0 => ?_)
  · try simp at hc0
    refine awp_skip ?_
    show AWp cx _ _ _
    refine awp_seq ?_
    refine awp_block ?_
    refine awp_seq ?_
    refine rg ?_
    have hi : i < L.length := by omega
    have hx : L[i]? = some L[i] := List.getElem?_eq_getElem hi
    refine qv m_mv ?_
    refine qv m_mv ?_
    first | refine qv (m_ixN el30 sz9) ?_ | refine qv (m_ix el30 sz9) ?_
    refine qv (m_ld sz9 ag9) ?_
    refine qv (m_slen is9) ?_
    refine qv m_gtr ?_
    show AWp cx _ _ _
    refine cd (fun hc1 => ?_) (fun hc1 => ?_)
    · try simp at hc1
      refine awp_seq ?_
      refine rg ?_
      refine qv m_as ?_
      show AWp cx _ _ _
      refine awp_ret ?_
      exact x1 (hr := (rB_ (by rw [long_at hi (by omega)])))
    · try simp at hc1
      refine awp_skip ?_
      show AWp cx _ _ _
      refine rg ?_
      refine qv m_mv ?_
      refine qv m_add ?_
      refine qv m_as ?_
      exact ⟨i + 1, ⟨hi, fun j hj h => by
        rcases Nat.lt_or_ge j i with h1 | h1
        · exact hφ0.2 j hj h1
        · obtain rfl : j = i := by omega
          omega⟩, (by simp only; omega), (tl [])⟩
  · try simp at hc0
    refine awp_exit ?_
    show AWp cx _ _ _
    refine awp_seq ?_
    refine rg ?_
    refine qv m_mv ?_
    refine qv (m_len il30) ?_
    refine qv m_gtr ?_
    refine qv m_as ?_
    show AWp cx _ _ _
    refine awp_ret ?_
    exact x1 (hr := (rB_ (by rw [long_no fun j hj => hφ0.2 j hj (by omega)]; first | rfl | (rw [Bool.eq_iff_iff]; simp <;> omega))))
end Go.Ab.Tryz
set_option linter.all false
namespace Go.Ab
open Go.RowKit
section
variable {cx : Cx} {S : St} {ops : Array Oper} {o : Oper} {rest : List Oper} {K : St → Prop} {l : List (Nat × SV)} {m : List (Nat × Nat × Option Blk)}
theorem told_sim {a : Act} {w : World} (hg : cx.Good) (h : Sim cx S a w) {d : Nat} {x : DV} (hD : Lasting S.M (S.F d) x) : Sim cx ⟨fun i => if i = d then .dv x else S.F i, S.M⟩ a w := by
  obtain ⟨μ, h⟩ := h
  refine ⟨μ, h.blk, fun i => ?_, h.place, h.uniq, h.anc, h.below, h.size, h.defers⟩
  by_cases hi : i = d
  · subst hi
    simp only [if_true]
    have := frzd_rep hg h hD _ (h.slot i)
    simpa only [SVRep] using this
  · simp only [if_neg hi]
    exact h.slot i
theorem ch_told (t d : Nat) {g : Nat} {b : Blk} {x : DV} (k : Chain cx ops (o :: rest) ⟨lk ((d, .dv x) :: l), mkM ((t, g, some { b with st := 1 }) :: m)⟩ K) (h0 : mkM m t = (g, some b) := by (simp only [mkM, reduceIte, Nat.reduceEqDiff] <;> rfl)) (h1 : OwS b.st ∨ b.st = 1 := by (first | exact .inl (.inl rfl) | exact .inr rfl | exact .inl (.inr (Nat.le_of_ble_eq_true rfl))))
    (hD : Lasting (mkM ((t, g, some { b with st := 1 }) :: m)) (lk l d) x) (hgd : o.guard = none := by rfl) : Chain cx ops (o :: rest) ⟨lk l, mkM m⟩ K := by
  obtain ⟨S', hs, hk⟩ := k
  refine ⟨S', ?_, hk⟩
  unfold GStep at hs ⊢
  rw [hgd] at hs ⊢
  simp only at hs ⊢
  have hl := Le.freeze (cx := cx) (S := ⟨lk l, mkM m⟩) h0 h1
  rw [upd_mkM] at hl
  exact .sem fun hg a w h => Step.does hg (told_sim hg (hl a w h) (d := d) (x := x) hD) hs
end
end Go.Ab
set_option linter.all false
namespace Go.Ab.Tryz
open Go Go.Ab Go.Proofs Go.Ab.Moss Go.Ab.Bog
open Go.Ab.Heap (ata ata_get ata_set)
open H (rowB data_rowsB)
theorem intsM_inj : ∀ {a b : List Int}, a.map (DV.int .i64) = b.map (DV.int .i64) → a = b
  | [], [], _ => rfl
  | [], _ :: _, h => by simp at h
  | _ :: _, [], h => by simp at h
  | x :: a, y :: b, h => by
    simp only [List.map_cons, List.cons.injEq, DV.int.injEq, true_and] at h
    rw [h.1, intsM_inj h.2]
theorem svLes_rows {τ : Nat → Option Nat} {M M' : Nat → Nat × Option Blk} : ∀ {L L' : List (List Int)}, svLes τ M M' (L.map fun r => .dv (ints r)) (L'.map fun r => .dv (ints r)) ↔ L = L'
  | [], [] => by simp [svLes]
  | [], _ :: _ => by simp [svLes]
  | _ :: _, [] => by simp [svLes]
  | a :: L, b :: L' => by
    simp only [List.map_cons, svLes, svLe, List.cons.injEq]
    rw [svLes_rows (L := L) (L' := L')]
    refine and_congr_left fun _ => ⟨fun h => ?_, fun h => by rw [h]⟩
    have h2 : a.map (DV.int .i64) = b.map (DV.int .i64) := by simpa [ints] using h
    exact intsM_inj h2
theorem rows_snoc {L : List (List Int)} {v : List Int} : (L.map fun r => SV.dv (ints r)) ++ [SV.dv (ints v)] = (L ++ [v]).map fun r => .dv (ints r) := by simp
theorem f96 (b : List (List Int)) (hb : b.length < 1000) (hr : ∀ i (hi : i < b.length), b[i].length < 1000000) : ACalls Tryz.prog 96 [.list (b.map ints)] (.one (.dv (.list (b.map ints)))) := by
  refine callsA_of Tryz.func96 rfl rfl (by rw [Tryz.ntmps96]; simp) fun cx hP hn hg => ?_
  rw [Tryz.ntmps96] at hn
  rw [startF_lk, none_mkM]
  simp only [List.nil_append, List.append_nil, List.cons_append, zipSV, Nat.reduceAdd]
  refine awp_seq ?_
  refine rg ?_
  refine qv m_as ?_
  show AWp cx _ _ _
  refine awp_seq ?_
  refine rg ?_
  refine qv m_as ?_
  show AWp cx _ _ _
  refine awp_seq ?_
  refine awp_seq ?_
  refine rg ?_
  refine qv m_mv ?_
  refine qv (m_len il22) ?_
  refine qv m_mv ?_
  show AWp cx _ _ _
  refine awp_block ?_
  refine awp_loop (ι := Nat) (fun i => ⟨lk [(3, .sl 3 0 0 i), (6, .dv (.list ((b).map ints))), (7, .dv (i64 ((b.length : Int)))), (8, .dv (i64 (i : Nat)))], mkM [(3, 0, some (rowB (b.take i)))]⟩) (fun i => i ≤ b.length) (fun i => b.length - i) 0 (by simp) (tl [] (hF := by simp [FLe, svLe, lk, mkM, isLive, tauL, svLes_rows]) (hM := by simp [MLe, blkLe, svLe, svLes, lk, mkM, isLive, tauL, svLes_ints, svLes_self, isDvs, isDvs_map, isDvs_app, isDvs_take, isDvs_set, isDvs_repl, svLes_rows])) ?_
  intro i hφ0
  refine awp_seq ?_
  refine rg ?_
  refine qv m_lss ?_
  show AWp cx _ _ _
  refine awp_seq ?_
  refine cd (fun hc0 => ?_) (fun hc0 => ?_)
  · try simp at hc0
    refine awp_skip ?_
    show AWp cx _ _ _
    refine awp_seq ?_
    refine awp_block ?_
    refine awp_seq ?_
    refine rg ?_
    have hi : i < b.length := by omega
    have hx : b[i]? = some b[i] := List.getElem?_eq_getElem hi
    have hri := hr i hi
    have hts : b.take (i + 1) = b.take i ++ [b[i]] := by rw [List.take_succ, hx]; rfl
    have htl : (b.take i).length = i := by simp; omega
    first | refine qv (m_ixN el22 sz25) ?_ | refine qv (m_ix el22 sz25) ?_
    refine qv (m_ld sz25 ag25) ?_
    refine qv m_as ?_
    show AWp cx _ _ _
    refine rg ?_
    refine qv m_mv ?_
    refine qv m_mv ?_
    refine qqF (f97 b[i] hri) ?_
    refine ch_told 14 14 (x := ints b[i]) ?_ (hD := (data_ints (L := b[i]) (by simp only [mkM, reduceIte, Nat.reduceEqDiff] <;> rfl) rfl (by first | rfl | omega) rfl rfl (fun _ => trivial)))
    refine qr (m_bsl el22 ze25 sz25) ?_
    refine qa1 (m_app1 el22 el22 ze25 sz25 by25 (hc := rows_snoc)) ?_
    refine qv m_as ?_
    show AWp cx _ _ _
    refine rg ?_
    refine qv m_add ?_
    refine qv m_mv ?_
    exact ⟨i + 1, hi, (by simp only; omega), (tl [(3, 16)] (hF := by simp [FLe, svLe, lk, mkM, isLive, tauL, svLes_rows]) (hM := by simp [MLe, blkLe, svLe, svLes, lk, mkM, isLive, tauL, svLes_ints, svLes_self, isDvs, isDvs_map, isDvs_app, isDvs_take, isDvs_set, isDvs_repl, svLes_rows]))⟩
  · try simp at hc0
    refine awp_exit ?_
    show AWp cx _ _ _
    refine awp_seq ?_
    refine rg ?_
    refine qv m_mv ?_
    refine qv m_as ?_
    show AWp cx _ _ _
    refine awp_ret ?_
    obtain rfl : i = b.length := by omega
    exact x1 (hr := rDt_ (data_rowsB (L := b) (by simp only [mkM, reduceIte, Nat.reduceEqDiff, List.take_length] <;> rfl) trivial rfl (fun _ => trivial)))
end Go.Ab.Tryz
