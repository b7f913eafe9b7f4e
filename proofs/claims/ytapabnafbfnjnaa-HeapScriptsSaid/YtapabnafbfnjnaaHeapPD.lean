/- Heap12, Heap13, Heap8. -/
import Derived.Test.YtapabnafbfnjnaaHeapPC
import Derived.Test.YtapabnafbfnjnaaHeapPA
import Derived.Test.YtapabnafbfnjnaaAbI
import Derived.Test.YtapabnafbfnjnaaHeapFacts
import Derived.Test.YtapabnafbfnjnaaHeapPT
set_option linter.all false
set_option linter.all false
namespace Go.Ab.Try
open Go Go.Ab Go.Proofs Go.Ab.Heap
theorem close_cut {L : List Int} {i : Nat} (hi : i < L.length) : (closeL L i (i + 1) (L.length - (i + 1))).take (L.length - 1) ++ List.replicate 1 0 ++ (closeL L i (i + 1) (L.length - (i + 1))).drop (L.length - 1 + 1) = cutL L i ++ [0] := by
  have h1 : closeL L i (i + 1) (L.length - (i + 1)) = cutL L i ++ L.drop (L.length - 1) := by
    unfold closeL cutL
    rw [show i + (L.length - (i + 1)) = L.length - 1 by omega, List.take_of_length_le (i := L.length - (i + 1)) (by simp)]
  have h2 := cutL_len hi
  rw [h1, List.take_append_of_le_length (by omega), List.take_of_length_le (by omega), List.drop_eq_nil_of_le (by simp; omega), List.append_nil]; rfl
theorem close_last {L : List Int} {i : Nat} (hi : i + 1 = L.length) : L.take i ++ List.replicate 1 0 ++ L.drop (i + 1) = cutL L i ++ [0] := by
  unfold cutL
  rw [List.drop_eq_nil_of_le (by omega), List.append_nil, List.append_nil]; rfl
theorem sq_first {n : Nat} {R : List (List Int)} (s : Sq (n + 1) R) {k : Nat} (hk : k < n + 1) : (rowA R 0)[k]? = some (lmat R 0 k) := ata_get (by rw [s.row 0 (by omega)]; exact hk)
theorem drop_get {n : Nat} {R : List (List Int)} (s : Sq (n + 1) R) {q : Nat} (hq : q < n) : (R.drop 1)[q]? = some (rowA R (q + 1)) := by
  rw [List.getElem?_drop, Nat.add_comm]
  exact rowA_get (by rw [s.len]; omega)
theorem expQ_skip {n : Nat} {R : List (List Int)} {q : Nat} (h : lmat R 0 q = 0) : expQ n R q = expQ n R (q + 1) := by rw [expQ_succ, h]; simp
theorem sgn_neg (k : Nat) : - sgn k = sgn (k + 1) := (sgn_succ k).symm
theorem minQ_cells {R : List (List Int)} {k q : Nat} : (rowR (minQ R k (q + 1))).cells = (rowR (minQ R k q)).cells ++ [.dv (ints (cutL (rowA R (q + 1)) k))] := by rw [minQ_succ]; simp [rowR]
abbrev Det97 (n : Nat) : Prop := ∀ R, Sq n R → ACallsF Try.prog 97 [.list (R.map ints)] (.one (.dv (i64 (det n (lmat R)))))
theorem f100 (L : List Int) (i : Nat) (hi : i < L.length) (hl : L.length < 1000) : ACallsG Try.prog 100 [.sl 100000 0 0 L.length, .dv (i64 (i : Int)), .dv (i64 ((i : Int) + 1))] (mkB [(100000, lentI 0 L)]) ⟨[.sl 100000 0 0 (L.length - 1)], mkB [(100000, lentI 0 (cutL L i ++ [0]))]⟩ := by
  refine callsG_of Try.func100 rfl rfl (by rw [Try.ntmps100]; simp) fun cx hP hn hg => ?_
  rw [Try.ntmps100] at hn
  refine startG ?_
  rcases Nat.lt_or_ge (i + 1) L.length with hlt | hge
  · skip
    refine awp_seq ?_
    refine rg ?_
    refine qv m_as ?_
    show AWp cx _ _ _
    refine awp_seq ?_
    refine rg ?_
    refine qv m_mv ?_
    refine qv m_mv ?_
    refine qv m_mv ?_
    refine qv m_mv ?_
    refine qv (m_lenR il23) ?_
    refine q3c el23 sz3 ?_
    show AWp cx _ _ _
    refine awp_seq ?_
    refine awp_seq ?_
    refine rg ?_
    refine qv m_mv ?_
    refine qv m_mv ?_
    refine qv m_eql ?_
    show AWp cx _ _ _
    refine cdF (hb := (by simp; omega)) (ht := ?_)
    refine awp_skip ?_
    show AWp cx _ _ _
    refine awp_seq ?_
    refine rg ?_
    refine qv m_mv ?_
    refine qv (m_lenR il23) ?_
    refine qv m_as ?_
    show AWp cx _ _ _
    refine awp_seq ?_
    refine rd mixed ?_
    refine zv m_mv ?_
    refine zv m_mv ?_
    first | refine zv (m_cutRn el23 sz3) ?_ | refine zv (m_cutR el23 sz3) ?_ | refine zv (m_cutR0 el23 sz3) ?_
    refine zv m_mv ?_
    refine zv m_mv ?_
    first | refine zv (m_cutRn el23 sz3) ?_ | refine zv (m_cutR el23 sz3) ?_ | refine zv (m_cutR0 el23 sz3) ?_
    have hto : i + ((L.length : Int) - ((i : Int) + 1)).toNat = L.length - 1 := by omega
    have htq : ((L.length : Int) - ((i : Int) + 1)).toNat = L.length - (i + 1) := by omega
    have hcc := close_cut hi
    have hcl : (closeL L i (i + 1) (L.length - (i + 1))).length = L.length := by unfold closeL; simp; omega
    refine zcl (q := L.length - (i + 1)) el23 sz3 ?_ (hy := by (simp only [St.look, St.ev, lk, mkM, blkOf, svOf, svOfCell, reduceIte, Nat.reduceAdd, Nat.reduceEqDiff, Nat.reduceMul, htq] <;> rfl))
    refine zv m_as ?_
    refine ⟨by rfl, ?_⟩
    show AWp cx _ _ _
    refine awp_seq ?_
    refine rg ?_
    rw [show i + (L.length - (i + 1)) = L.length - 1 by omega]
    refine qv m_mv ?_
    refine qv m_mv ?_
    refine qv (m_lenR il23) ?_
    refine qv m_mv ?_
    refine qcut (L.length - 1) L.length el23 sz3 ?_
    rw [show L.length - (L.length - 1) = 1 by omega]
    refine qcl el23 ze3 ?_
    show AWp cx _ _ _
    refine awp_seq ?_
    refine rg ?_
    refine qv m_mv ?_
    refine qv m_as ?_
    show AWp cx _ _ _
    refine awp_ret ?_
    exact xg [(100000, 100000)]
  · skip
    refine awp_seq ?_
    refine rg ?_
    refine qv m_as ?_
    show AWp cx _ _ _
    refine awp_seq ?_
    refine rg ?_
    refine qv m_mv ?_
    refine qv m_mv ?_
    refine qv m_mv ?_
    refine qv m_mv ?_
    refine qv (m_lenR il23) ?_
    refine q3c el23 sz3 ?_
    show AWp cx _ _ _
    refine awp_seq ?_
    refine awp_seq ?_
    refine rg ?_
    refine qv m_mv ?_
    refine qv m_mv ?_
    refine qv m_eql ?_
    show AWp cx _ _ _
    refine cdF (hb := (by simp; omega)) (ht := ?_)
    refine awp_skip ?_
    show AWp cx _ _ _
    refine awp_seq ?_
    refine rg ?_
    refine qv m_mv ?_
    refine qv (m_lenR il23) ?_
    refine qv m_as ?_
    show AWp cx _ _ _
    refine awp_seq ?_
    refine rd mixed ?_
    refine zv m_mv ?_
    refine zv m_mv ?_
    first | refine zv (m_cutRn el23 sz3) ?_ | refine zv (m_cutR el23 sz3) ?_ | refine zv (m_cutR0 el23 sz3) ?_
    refine zv m_mv ?_
    refine zv m_mv ?_
    obtain hie : i + 1 = L.length := by omega
    rw [show ((i : Int) + 1) = (L.length : Int) by omega]
    first | refine zv (m_cutRn el23 sz3) ?_ | refine zv (m_cutR el23 sz3) ?_ | refine zv (m_cutR0 el23 sz3) ?_
    have hcc := close_last hie
    refine zcl0 el23 sz3 ?_
    refine zv m_as ?_
    refine ⟨by rfl, ?_⟩
    show AWp cx _ _ _
    refine awp_seq ?_
    refine rg ?_
    refine qv m_mv ?_
    refine qv m_mv ?_
    refine qv (m_lenR il23) ?_
    refine qv m_mv ?_
    refine qcut i L.length el23 sz3 ?_
    rw [show L.length - i = 1 by omega]
    refine qcl el23 ze3 ?_
    show AWp cx _ _ _
    refine awp_seq ?_
    refine rg ?_
    refine qv m_mv ?_
    refine qv m_as ?_
    show AWp cx _ _ _
    refine awp_ret ?_
    rw [show L.length - 1 = i by omega]
    exact xg [(100000, 100000)]
theorem f97z : Det97 0 := fun R s => by
  have hR := s.len
  refine callsF_of Try.func97 rfl rfl (by rw [Try.ntmps97]; simp) fun cx hP hn hg => ?_
  rw [Try.ntmps97] at hn
  rw [startF_lk, none_mkM]
  simp only [List.nil_append, List.append_nil, List.cons_append, zipSV, Nat.reduceAdd]
  refine awp_seq ?_
  refine rg ?_
  refine qv m_as ?_
  show AWp cx _ _ _
  refine awp_seq ?_
  refine awp_seq ?_
  refine rg ?_
  refine qv m_mv ?_
  refine qv (m_len il22) ?_
  refine qv m_eql ?_
  show AWp cx _ _ _
  refine cdT (hb := (by simp [hR])) (ht := ?_)
  refine awp_seq ?_
  refine rg ?_
  refine qv m_as ?_
  show AWp cx _ _ _
  refine awp_ret ?_
  exact x1 (hr := (rI_))
set_option maxHeartbeats 4000000 in
theorem f97s (n : Nat) (hN : n ≤ 4) (rec : Det97 n) : Det97 (n + 1) := fun R s => by
  have hR := s.len
  have hr0 := s.row 0 (by omega)
  have hg0 : R[0]? = some (rowA R 0) := rowA_get (by omega)
  have hdr : (R.drop (1 : Int).toNat).take ((R.length : Int) - 1).toNat = R.drop 1 := List.take_of_length_le (by simp)
  have hdl : (R.drop 1).length = n := by simp [hR]
  refine callsF_of Try.func97 rfl rfl (by rw [Try.ntmps97]; simp) fun cx hP hn hg => ?_
  rw [Try.ntmps97] at hn
  rw [startF_lk, none_mkM]
  simp only [List.nil_append, List.append_nil, List.cons_append, zipSV, Nat.reduceAdd]
  refine awp_seq ?_
  refine rg ?_
  refine qv m_as ?_
  show AWp cx _ _ _
  refine awp_seq ?_
  refine awp_seq ?_
  refine rg ?_
  refine qv m_mv ?_
  refine qv (m_len il22) ?_
  refine qv m_eql ?_
  show AWp cx _ _ _
  refine cdF (hb := (by simp [hR]; omega)) (ht := ?_)
  refine awp_skip ?_
  show AWp cx _ _ _
  refine awp_seq ?_
  refine rg ?_
  refine qv m_as ?_
  refine qv m_as ?_
  show AWp cx _ _ _
  refine awp_seq ?_
  refine awp_seq ?_
  refine rg ?_
  refine qv m_mv ?_
  first | refine qv (m_ixN el22 sz23) ?_ | refine qv (m_ix el22 sz23) ?_
  refine qv (m_ld sz23 ag23) ?_
  refine qv (m_len il23) ?_
  refine qv m_mv ?_
  show AWp cx _ _ _
  refine awp_block ?_
  refine awp_loop (ι := Nat) (fun i => ⟨lk [(0, .dv (.list ((R).map ints))), (3, .dv (i64 (expQ n R i))), (4, .dv (i64 (sgn i))), (15, .dv (ints (rowA R 0))), (16, .dv (i64 (((rowA R 0).length : Int)))), (17, .dv (i64 (i : Nat)))], mkM []⟩) (fun i => i ≤ n + 1) (fun i => n + 1 - i) 0 (by simp) (tl [] (hF := by simp [FLe, svLe, lk, mkM, isLive, tauL, expQ, sm, sgn]) (hM := by simp [MLe, blkLe, svLe, svLes, lk, mkM, isLive, tauL, svLes_ints, svLes_self, isDvs, isDvs_map, isDvs_app, isDvs_take, isDvs_set, isDvs_repl, expQ, sm, sgn])) ?_
  intro i hφ0
  refine awp_seq ?_
  refine rg ?_
  refine qv m_lss ?_
  show AWp cx _ _ _
  refine awp_seq ?_
  refine cd (fun hc1 => ?_) (fun hc1 => ?_)
  · try simp at hc1
    refine awp_skip ?_
    show AWp cx _ _ _
    refine awp_seq ?_
    refine awp_block ?_
    refine awp_seq ?_
    have hi : i < n + 1 := by omega
    have hgi := sq_first s hi
    obtain ⟨tb1, tb2, tb3, tb4⟩ := s.term hN hi
    have hsg := sgn_neg i
    have hs2 := sgn_two i
    have hpt := s.part hN (q := i) (by omega)
    have hpt2 := s.part hN (q := i + 1) (by omega)
    have hex := expQ_succ (n := n) (R := R) (q := i)
    obtain ⟨hms, hme⟩ := s.min hi
    refine rg ?_
    refine qv m_mv ?_
    first | refine qv (m_ixN el23 sz3) ?_ | refine qv (m_ix el23 sz3) ?_
    refine qv (m_ld sz3 ag3) ?_
    refine qv m_as ?_
    refine qv m_as ?_
    show AWp cx _ _ _
    refine awp_seq ?_
    refine awp_seq ?_
    refine rg ?_
    refine qv m_mv ?_
    refine qv m_neq ?_
    show AWp cx _ _ _
    refine cd (fun hc2 => ?_) (fun hc2 => ?_)
    · try simp at hc2
      refine awp_seq ?_
      refine rg ?_
      refine qv m_as ?_
      show AWp cx _ _ _
      refine awp_seq ?_
      refine awp_seq ?_
      refine rg ?_
      refine qv m_mv ?_
      refine qv (m_cut el22 sz23 (hL := hdr)) ?_
      refine qv (m_len il22) ?_
      refine qv m_mv ?_
      show AWp cx _ _ _
      refine awp_block ?_
      refine awp_loop (ι := Nat) (fun q => ⟨lk [(0, .dv (.list ((R).map ints))), (3, .dv (i64 (expQ n R i))), (4, .dv (i64 (sgn i))), (5, .dv (i64 (i : Nat))), (6, .dv (i64 (lmat R 0 i))), (7, .sl 7 0 0 q), (15, .dv (ints (rowA R 0))), (16, .dv (i64 (((rowA R 0).length : Int)))), (17, .dv (i64 (i : Nat))), (25, .dv (.list (((R.drop 1)).map ints))), (26, .dv (i64 ((((R.drop 1)).length : Int)))), (27, .dv (i64 (q : Nat)))], mkM [(7, 0, some (rowR (minQ R i q)))]⟩) (fun q => q ≤ n) (fun q => n - q) 0 (by simp) (tl [] (hF := by simp [FLe, svLe, lk, mkM, isLive, tauL, minQ]) (hM := by simp [MLe, blkLe, svLe, svLes, lk, mkM, isLive, tauL, svLes_ints, svLes_self, isDvs, isDvs_map, isDvs_app, isDvs_take, isDvs_set, isDvs_repl, minQ])) ?_
      intro q hφ1
      refine awp_seq ?_
      refine rg ?_
      refine qv m_lss ?_
      show AWp cx _ _ _
      refine awp_seq ?_
      refine cd (fun hc3 => ?_) (fun hc3 => ?_)
      · try simp at hc3
        refine awp_skip ?_
        show AWp cx _ _ _
        refine awp_seq ?_
        refine awp_block ?_
        refine awp_seq ?_
        have hq : q < n := by omega
        have hml := minQ_len (R := R) (k := i) (q := q)
        have hgq := drop_get s hq
        have hrq := s.row (q + 1) (by omega)
        have hcl := cutL_len (r := rowA R (q + 1)) (k := i) (by omega)
        refine rg ?_
        first | refine qv (m_ixN el22 sz23) ?_ | refine qv (m_ix el22 sz23) ?_
        refine qv (m_ld sz23 ag23) ?_
        refine qv m_as ?_
        show AWp cx _ _ _
        refine rg ?_
        refine qv m_mv ?_
        refine qv m_mv ?_
        refine qqF (f80 (rowA R (q + 1)) (by omega)) ?_
        refine qv m_mv ?_
        refine qv m_mv ?_
        refine qv m_add ?_
        refine qqG (f100 (rowA R (q + 1)) i (by omega) (by omega)) [] [(100000, 33)] [33] ?_
        refine qr (m_bsl el22 ze23 sz23) ?_
        refine qa1 (m_app1 el22 el22 ze23 sz23 by23) ?_
        refine qv m_as ?_
        show AWp cx _ _ _
        refine awp_frz 33 ?_
        refine awp_sinkB 39 (cs := (rowR (minQ R i (q + 1))).cells) (by simp only [mkM, reduceIte, Nat.reduceEqDiff] <;> rfl) ?_ hg ?_
        · rw [minQ_cells]
          exact sinkC_app (sinkC_refl _) ⟨.inr ⟨_, rfl, data_intsP (L := cutL (rowA R (q + 1)) i) (zs := [0]) (by simp only [mkM, reduceIte, Nat.reduceEqDiff] <;> rfl) rfl (by omega) rfl rfl (fun _ => trivial)⟩, trivial⟩
        refine rg ?_
        refine qv m_add ?_
        refine qv m_mv ?_
        exact ⟨q + 1, (by omega), (by simp only; omega), (tl [(7, 39)])⟩
      · try simp at hc3
        obtain rfl : n = q := by omega
        have hdt := det_congr (n := n) (M := lmat (minQ R i n)) (N := mnr (lmat R) i) hme
        have hes : expQ n R i + sgn i * lmat R 0 i * det n (lmat (minQ R i n)) = expQ n R (i + 1) := by rw [hex, hdt]
        refine awp_exit ?_
        show AWp cx _ _ _
        refine rg ?_
        refine qv m_mv ?_
        refine qv m_mv ?_
        refine qv m_mv ?_
        refine qv m_mul ?_
        refine qv m_mv ?_
        refine qqF (rec (minQ R i n) hms) ?_ (ha := (args_cons (data_rows (L := minQ R i n) (by simp only [mkM, reduceIte, Nat.reduceEqDiff] <;> rfl) trivial minQ_len (fun _ => trivial)) args_nil))
        refine qv m_mul ?_
        refine qv m_add ?_
        refine qv m_as ?_
        show AWp cx _ _ _
        refine rg ?_
        refine qv m_mv ?_
        refine qv m_neg ?_
        refine qv m_as ?_
        show AWp cx _ _ _
        refine rg ?_
        refine qv m_add ?_
        refine qv m_mv ?_
        exact ⟨i + 1, (by omega), (by simp only; omega), (tl [] (hF := by simp [FLe, svLe, lk, mkM, isLive, tauL, hes, hsg]) (hM := by simp [MLe, blkLe, svLe, svLes, lk, mkM, isLive, tauL, svLes_ints, svLes_self, isDvs, isDvs_map, isDvs_app, isDvs_take, isDvs_set, isDvs_repl, hes, hsg]))⟩
    · try simp at hc2
      have hes := expQ_skip (n := n) (show lmat R 0 i = 0 by simpa using hc2)
      refine awp_skip ?_
      show AWp cx _ _ _
      refine rg ?_
      refine qv m_mv ?_
      refine qv m_neg ?_
      refine qv m_as ?_
      show AWp cx _ _ _
      refine rg ?_
      refine qv m_add ?_
      refine qv m_mv ?_
      exact ⟨i + 1, (by omega), (by simp only; omega), (tl [] (hF := by simp [FLe, svLe, lk, mkM, isLive, tauL, hes, hsg]) (hM := by simp [MLe, blkLe, svLe, svLes, lk, mkM, isLive, tauL, svLes_ints, svLes_self, isDvs, isDvs_map, isDvs_app, isDvs_take, isDvs_set, isDvs_repl, hes, hsg]))⟩
  · try simp at hc1
    obtain rfl : i = n + 1 := by omega
    refine awp_exit ?_
    show AWp cx _ _ _
    refine awp_seq ?_
    refine rg ?_
    refine qv m_mv ?_
    refine qv m_as ?_
    show AWp cx _ _ _
    refine awp_ret ?_
    exact x1 (hr := (rI_ (by rw [expQ_full])))
end Go.Ab.Try
set_option linter.all false
namespace Go.Ab.Try
open Go Go.Ab Go.Proofs Go.Ab.Heap
theorem f97n : ∀ n, n ≤ 5 → Det97 n
  | 0, _ => f97z
  | n + 1, h => f97s n (by omega) (f97n n (by omega))
theorem f97 (n : Nat) (hn : n ≤ 5) (R : List (List Int)) (s : Sq n R) : ACallsF Try.prog 97 [.list (R.map ints)] (.one (.dv (i64 (det n (lmat R))))) := f97n n hn R s
abbrev Det72 (n : Nat) : Prop := ∀ R, Sq n R → ACallsF Try.prog 72 [.list (R.map ints)] (.one (.dv (i64 (det n (lmat R)))))
def ngR (h : Hp) (i q : Nat) : List Int := (List.range q).map fun k => - lnk h i k
theorem ngR_len {h : Hp} {i q : Nat} : (ngR h i q).length = q := by simp [ngR]
theorem ngR_succ {h : Hp} {i q : Nat} : ngR h i (q + 1) = ngR h i q ++ [- lnk h i q] := by unfold ngR; rw [List.range_succ]; simp
theorem ngR_full {h : Hp} {i : Nat} (hi : i < h.ground.length) : (ngR h i h.ground.length).set i (h.sp.lim i) = mrow h i := by
  unfold mrow
  refine map_set (fun j hj hne => ?_) fun _ => ?_
  · unfold hM; rw [if_neg hne]
  · unfold hM; rw [if_pos rfl]
def matQ (h : Hp) (q : Nat) : List (List Int) := (List.range q).map (mrow h)
theorem matQ_len {h : Hp} {q : Nat} : (matQ h q).length = q := by simp [matQ]
theorem matQ_cells {h : Hp} {q : Nat} : (rowR (matQ h (q + 1))).cells = (rowR (matQ h q)).cells ++ [.dv (ints (mrow h q))] := by unfold matQ; rw [List.range_succ]; simp [rowR]
theorem f72z : Det72 0 := fun R s => by
  have hR := s.len
  refine callsF_of Try.func72 rfl rfl (by rw [Try.ntmps72]; simp) fun cx hP hn hg => ?_
  rw [Try.ntmps72] at hn
  rw [startF_lk, none_mkM]
  simp only [List.nil_append, List.append_nil, List.cons_append, zipSV, Nat.reduceAdd]
  refine awp_seq ?_
  refine rg ?_
  refine qv m_as ?_
  show AWp cx _ _ _
  refine awp_seq ?_
  refine awp_seq ?_
  refine rg ?_
  refine qv m_mv ?_
  refine qv (m_len il22) ?_
  refine qv m_eql ?_
  show AWp cx _ _ _
  refine cdT (hb := (by simp [hR])) (ht := ?_)
  refine awp_seq ?_
  refine rg ?_
  refine qv m_as ?_
  show AWp cx _ _ _
  refine awp_ret ?_
  exact x1 (hr := (rI_))
set_option maxHeartbeats 4000000 in
theorem f72s (n : Nat) (hN : n ≤ 4) (rec : Det72 n) : Det72 (n + 1) := fun R s => by
  have hR := s.len
  have hr0 := s.row 0 (by omega)
  have hg0 : R[0]? = some (rowA R 0) := rowA_get (by omega)
  refine callsF_of Try.func72 rfl rfl (by rw [Try.ntmps72]; simp) fun cx hP hn hg => ?_
  rw [Try.ntmps72] at hn
  rw [startF_lk, none_mkM]
  simp only [List.nil_append, List.append_nil, List.cons_append, zipSV, Nat.reduceAdd]
  refine awp_seq ?_
  refine rg ?_
  refine qv m_as ?_
  show AWp cx _ _ _
  refine awp_seq ?_
  refine awp_seq ?_
  refine rg ?_
  refine qv m_mv ?_
  refine qv (m_len il22) ?_
  refine qv m_eql ?_
  show AWp cx _ _ _
  refine cdF (hb := (by simp [hR]; omega)) (ht := ?_)
  refine awp_skip ?_
  show AWp cx _ _ _
  refine awp_seq ?_
  refine rg ?_
  refine qv m_as ?_
  refine qv m_as ?_
  show AWp cx _ _ _
  refine awp_seq ?_
  refine awp_seq ?_
  refine rg ?_
  refine qv m_as ?_
  show AWp cx _ _ _
  refine awp_block ?_
  refine awp_loop (ι := Nat) (fun i => ⟨lk [(0, .dv (.list ((R).map ints))), (3, .dv (i64 (expQ n R i))), (4, .dv (i64 (sgn i))), (5, .dv (i64 (i : Nat)))], mkM []⟩) (fun i => i ≤ n + 1) (fun i => n + 1 - i) 0 (by simp) (tl [] (hF := by simp [FLe, svLe, lk, mkM, isLive, tauL, expQ, sm, sgn]) (hM := by simp [MLe, blkLe, svLe, svLes, lk, mkM, isLive, tauL, svLes_ints, svLes_self, isDvs, isDvs_map, isDvs_app, isDvs_take, isDvs_set, isDvs_repl, expQ, sm, sgn])) ?_
  intro i hφ0
  refine awp_seq ?_
  refine awp_seq ?_
  refine rg ?_
  refine qv m_mv ?_
  refine qv m_mv ?_
  refine qv (m_len il22) ?_
  refine qv m_lss ?_
  show AWp cx _ _ _
  refine cd (fun hc1 => ?_) (fun hc1 => ?_)
  · try simp at hc1
    have hi : i < n + 1 := by omega
    have hgi := sq_first s hi
    obtain ⟨tb1, tb2, tb3, tb4⟩ := s.term hN hi
    have hsg := sgn_neg i
    have hs2 := sgn_two i
    have hpt := s.part hN (q := i) (by omega)
    have hpt2 := s.part hN (q := i + 1) (by omega)
    have hex := expQ_succ (n := n) (R := R) (q := i)
    obtain ⟨hms, hme⟩ := s.min hi
    refine awp_skip ?_
    show AWp cx _ _ _
    refine awp_seq ?_
    refine awp_block ?_
    refine awp_seq ?_
    refine rg ?_
    refine qv m_as ?_
    show AWp cx _ _ _
    refine awp_seq ?_
    refine awp_seq ?_
    refine rg ?_
    refine qv m_as ?_
    show AWp cx _ _ _
    refine awp_block ?_
    refine awp_loop (ι := Nat) (fun q => ⟨lk [(0, .dv (.list ((R).map ints))), (3, .dv (i64 (expQ n R i))), (4, .dv (i64 (sgn i))), (5, .dv (i64 (i : Nat))), (6, .sl 6 0 0 q), (7, .dv (i64 ((q : Nat) + 1)))], mkM [(6, 0, some (rowR (minQ R i q)))]⟩) (fun q => q ≤ n) (fun q => n - q) 0 (by simp) (tl [] (hF := by simp [FLe, svLe, lk, mkM, isLive, tauL, minQ]) (hM := by simp [MLe, blkLe, svLe, svLes, lk, mkM, isLive, tauL, svLes_ints, svLes_self, isDvs, isDvs_map, isDvs_app, isDvs_take, isDvs_set, isDvs_repl, minQ])) ?_
    intro q hφ1
    refine awp_seq ?_
    refine awp_seq ?_
    refine rg ?_
    refine qv m_mv ?_
    refine qv m_mv ?_
    refine qv (m_len il22) ?_
    refine qv m_lss ?_
    show AWp cx _ _ _
    refine cd (fun hc2 => ?_) (fun hc2 => ?_)
    · try simp at hc2
      have hq : q < n := by omega
      have hml := minQ_len (R := R) (k := i) (q := q)
      have hgq : R[q + 1]? = some (rowA R (q + 1)) := rowA_get (by omega)
      have hrq := s.row (q + 1) (by omega)
      have hcl := cutL_len (r := rowA R (q + 1)) (k := i) (by omega)
      have hd1 : ((rowA R (q + 1)).drop (0 : Int).toNat).take ((i : Int) - 0).toNat = (rowA R (q + 1)).take i := by simp
      have hd2 : ((rowA R (q + 1)).drop ((i : Int) + 1).toNat).take (((rowA R (q + 1)).length : Int) - ((i : Int) + 1)).toNat = (rowA R (q + 1)).drop (i + 1) := by
        rw [show ((i : Int) + 1).toNat = i + 1 by omega]
        exact List.take_of_length_le (by simp; omega)
      refine awp_skip ?_
      show AWp cx _ _ _
      refine awp_seq ?_
      refine awp_block ?_
      refine rd mixed ?_
      refine zv m_mv ?_
      refine zr (m_bsl el23 ze3 sz3) ?_
      refine zv m_mv ?_
      refine zv m_mv ?_
      first | refine zv (m_ixN el22 sz23) ?_ | refine zv (m_ix el22 sz23) ?_
      refine zv (m_ld sz23 ag23) ?_
      refine zv m_mv ?_
      refine zv (m_cut el23 sz3 (hL := hd1)) ?_
      refine za1 (m_app1 el23 el23 ze3 sz3 by3) ?_
      refine zv m_mv ?_
      refine zv m_mv ?_
      first | refine zv (m_ixN el22 sz23) ?_ | refine zv (m_ix el22 sz23) ?_
      refine zv (m_ld sz23 ag23) ?_
      refine zv m_mv ?_
      refine zv m_add ?_
      refine zv (m_cut el23 sz3 (hL := hd2)) ?_
      refine za1 (m_app1 el23 el23 ze3 sz3 by3) ?_
      refine zr (m_bsl el22 ze23 sz23) ?_
      refine za1 (m_app1 el22 el22 ze23 sz23 by23) ?_
      refine zv m_as ?_
      refine ⟨by rfl, ?_⟩
      show AWp cx _ _ _
      refine awp_frz 39 ?_
      refine awp_sinkB 41 (cs := (rowR (minQ R i (q + 1))).cells) (by simp only [mkM, reduceIte, Nat.reduceEqDiff] <;> rfl) ?_ hg ?_
      · rw [minQ_cells]
        exact sinkC_app (sinkC_refl _) ⟨.inr ⟨_, rfl, data_ints (L := cutL (rowA R (q + 1)) i) (by simp only [mkM, reduceIte, Nat.reduceEqDiff] <;> rfl) rfl (by omega) rfl (by unfold cutL; rw [List.map_append]; rfl) (fun _ => trivial)⟩, trivial⟩
      refine rg ?_
      refine qv m_mv ?_
      refine qv m_add ?_
      refine qv m_as ?_
      exact ⟨q + 1, (by omega), (by simp only; omega), (tl [(6, 41)])⟩
    · try simp at hc2
      obtain rfl : n = q := by omega
      have hdt := det_congr (n := n) (M := lmat (minQ R i n)) (N := mnr (lmat R) i) hme
      have hes : expQ n R i + sgn i * lmat R 0 i * det n (lmat (minQ R i n)) = expQ n R (i + 1) := by rw [hex, hdt]
      refine awp_exit ?_
      show AWp cx _ _ _
      refine awp_seq ?_
      refine rd mixed ?_
      refine zv m_mv ?_
      refine zv m_mv ?_
      refine zv m_mv ?_
      first | refine zv (m_ixN el22 sz23) ?_ | refine zv (m_ix el22 sz23) ?_
      refine zv (m_ld sz23 ag23) ?_
      refine zv m_mv ?_
      first | refine zv (m_ixN el23 sz3) ?_ | refine zv (m_ix el23 sz3) ?_
      refine zv (m_ld sz3 ag3) ?_
      refine zv m_mul ?_
      refine zv m_mv ?_
      refine zqF (R := [6]) (rec (minQ R i n) hms) ?_ (ha := (args_cons (data_rows (L := minQ R i n) (by first | (simp [rst, mkM]; done) | (simp [rst, mkM] <;> rfl)) trivial minQ_len (fun _ => trivial)) args_nil))
      refine zv m_mul ?_
      refine zv m_add ?_
      refine zv m_as ?_
      refine ⟨by rfl, ?_⟩
      show AWp cx _ _ _
      refine rg ?_
      refine qv m_mv ?_
      refine qv m_neg ?_
      refine qv m_as ?_
      show AWp cx _ _ _
      refine rg ?_
      refine qv m_mv ?_
      refine qv m_add ?_
      refine qv m_as ?_
      exact ⟨i + 1, (by omega), (by simp only; omega), (tl [] (hF := by simp [FLe, svLe, lk, mkM, isLive, tauL, hes, hsg]) (hM := by simp [MLe, blkLe, svLe, svLes, lk, mkM, isLive, tauL, svLes_ints, svLes_self, isDvs, isDvs_map, isDvs_app, isDvs_take, isDvs_set, isDvs_repl, hes, hsg]))⟩
  · try simp at hc1
    obtain rfl : i = n + 1 := by omega
    refine awp_exit ?_
    show AWp cx _ _ _
    refine awp_seq ?_
    refine rg ?_
    refine qv m_mv ?_
    refine qv m_as ?_
    show AWp cx _ _ _
    refine awp_ret ?_
    exact x1 (hr := (rI_ (by rw [expQ_full])))
theorem f72n : ∀ n, n ≤ 5 → Det72 n
  | 0, _ => f72z
  | n + 1, h => f72s n (by omega) (f72n n (by omega))
theorem f72 (n : Nat) (hn : n ≤ 5) (R : List (List Int)) (s : Sq n R) : ACallsF Try.prog 72 [.list (R.map ints)] (.one (.dv (i64 (det n (lmat R))))) := f72n n hn R s
set_option maxHeartbeats 4000000 in
theorem f73 (h : Hp) (v : VH h) : ACalls Try.prog 73 [dHp h] (.one (.dv (.list ((matL h).map ints)))) := by
  have h5 := v.n5
  refine callsA_of Try.func73 rfl rfl (by rw [Try.ntmps73]; simp) fun cx hP hn hg => ?_
  rw [Try.ntmps73] at hn
  rw [startF_lk, none_mkM]
  simp only [List.nil_append, List.append_nil, List.cons_append, zipSV, Nat.reduceAdd]
  refine awp_seq ?_
  refine rg ?_
  refine qp m_box ?_
  refine qv m_as ?_
  show AWp cx _ _ _
  refine awp_seq ?_
  refine rg ?_
  refine qv m_as ?_
  show AWp cx _ _ _
  refine awp_seq ?_
  refine awp_seq ?_
  refine rg ?_
  refine qv m_as ?_
  show AWp cx _ _ _
  refine awp_block ?_
  refine awp_loop (ι := Nat) (fun i => ⟨lk [(1, .pt 1 0 0), (3, .sl 3 0 0 i), (4, .dv (i64 (i : Nat)))], mkM [(1, 0, some ⟨[.dv (.list ((h.links).map ints)), .dv (ints (h.ground))], 0, 25, 0, false⟩), (3, 0, some (rowR (matQ h i)))]⟩) (fun i => i ≤ h.ground.length) (fun i => h.ground.length - i) 0 (by simp) (tl [(1, 1)] (hF := by simp [FLe, svLe, lk, mkM, isLive, tauL, matQ]) (hM := by simp [MLe, blkLe, svLe, svLes, lk, mkM, isLive, tauL, svLes_ints, svLes_self, isDvs, isDvs_map, isDvs_app, isDvs_take, isDvs_set, isDvs_repl, matQ])) ?_
  intro i hφ0
  refine awp_seq ?_
  refine awp_seq ?_
  refine rg ?_
  refine qv m_mv ?_
  refine qv (m_fdp fd25_1) ?_
  refine qv (m_ldp sz23 ag23) ?_
  refine qv (m_len il23) ?_
  refine qv m_lss ?_
  show AWp cx _ _ _
  refine cd (fun hc0 => ?_) (fun hc0 => ?_)
  · try simp at hc0
    have hi : i < h.ground.length := by omega
    have hgl := v.get hi
    have hrl := v.row i hi
    have hml := matQ_len (h := h) (q := i)
    refine awp_skip ?_
    show AWp cx _ _ _
    refine awp_seq ?_
    refine awp_block ?_
    refine awp_seq ?_
    refine rg ?_
    refine qv m_as ?_
    show AWp cx _ _ _
    refine awp_seq ?_
    refine awp_seq ?_
    refine rg ?_
    refine qv m_as ?_
    show AWp cx _ _ _
    refine awp_block ?_
    refine awp_loop (ι := Nat) (fun q => ⟨lk [(1, .pt 1 0 0), (3, .sl 3 0 0 i), (4, .dv (i64 (i : Nat))), (5, .sl 5 0 0 q), (6, .dv (i64 (q : Nat)))], mkM [(1, 0, some ⟨[.dv (.list ((h.links).map ints)), .dv (ints (h.ground))], 0, 25, 0, false⟩), (3, 0, some (rowR (matQ h i))), (5, 0, some (rowI (ngR h i q)))]⟩) (fun q => q ≤ h.ground.length) (fun q => h.ground.length - q) 0 (by simp) (tl [(1, 1), (3, 3)] (hF := by simp [FLe, svLe, lk, mkM, isLive, tauL, ngR]) (hM := by simp [MLe, blkLe, svLe, svLes, lk, mkM, isLive, tauL, svLes_ints, svLes_self, isDvs, isDvs_map, isDvs_app, isDvs_take, isDvs_set, isDvs_repl, ngR])) ?_
    intro q hφ1
    refine awp_seq ?_
    refine awp_seq ?_
    refine rg ?_
    refine qv m_mv ?_
    refine qv (m_fdp fd25_1) ?_
    refine qv (m_ldp sz23 ag23) ?_
    refine qv (m_len il23) ?_
    refine qv m_lss ?_
    show AWp cx _ _ _
    refine cd (fun hc1 => ?_) (fun hc1 => ?_)
    · try simp at hc1
      have hq : q < h.ground.length := by omega
      have hl2 := v.get2 hi hq
      have hlb := v.lb i q hi hq
      have hnl := ngR_len (h := h) (i := i) (q := q)
      refine awp_skip ?_
      show AWp cx _ _ _
      refine awp_seq ?_
      refine awp_block ?_
      refine rg ?_
      refine qv m_mv ?_
      refine qv (m_fdp fd25_0) ?_
      refine qv (m_ldp sz22 ag22) ?_
      refine qv m_mv ?_
      first | refine qv (m_ixN el22 sz23) ?_ | refine qv (m_ix el22 sz23) ?_
      refine qv (m_ld sz23 ag23) ?_
      refine qv m_mv ?_
      first | refine qv (m_ixN el23 sz3) ?_ | refine qv (m_ix el23 sz3) ?_
      refine qv (m_ld sz3 ag3) ?_
      refine qv m_neg ?_
      refine qr (m_bsl el23 ze3 sz3) ?_
      refine qa1 (m_app1 el23 el23 ze3 sz3 by3) ?_
      refine qv m_as ?_
      show AWp cx _ _ _
      refine rg ?_
      refine qv m_mv ?_
      refine qv m_add ?_
      refine qv m_as ?_
      exact ⟨q + 1, hq, (by simp only; omega), (tl [(1, 1), (3, 3), (5, 32)] (hF := by simp [FLe, svLe, lk, mkM, isLive, tauL, ngR_succ]) (hM := by simp [MLe, blkLe, svLe, svLes, lk, mkM, isLive, tauL, svLes_ints, svLes_self, isDvs, isDvs_map, isDvs_app, isDvs_take, isDvs_set, isDvs_repl, ngR_succ]))⟩
    · try simp at hc1
      obtain rfl : q = h.ground.length := by omega
      have hnl := ngR_len (h := h) (i := i) (q := h.ground.length)
      have hfu := ngR_full hi
      have hmw := mrow_len (h := h) (i := i)
      refine awp_exit ?_
      show AWp cx _ _ _
      refine awp_seq ?_
      refine rg ?_
      refine qv m_mv ?_
      refine qv m_mv ?_
      refine qv (m_ldpa sz25 ag25) ?_
      refine qv m_mv ?_
      refine qqF (f79 h v i hi) ?_
      refine qv (m_ixR el23 sz3) ?_
      first | refine qs (m_stI sz3) ?_ | refine qs (m_st sz3) ?_
      show AWp cx _ _ _
      refine rg ?_
      refine qv m_mv ?_
      refine qv m_mv ?_
      refine qr (m_bsl el22 ze23 sz23) ?_
      refine qa1 (m_app1 el22 el22 ze23 sz23 by23) ?_
      refine qv m_as ?_
      show AWp cx _ _ _
      refine awp_frz 5 ?_
      refine awp_sinkB 42 (cs := (rowR (matQ h (i + 1))).cells) (by simp only [mkM, reduceIte, Nat.reduceEqDiff] <;> rfl) ?_ hg ?_
      · rw [matQ_cells]
        exact sinkC_app (sinkC_refl _) ⟨.inr ⟨_, rfl, data_ints (L := mrow h i) (by simp only [mkM, reduceIte, Nat.reduceEqDiff, hfu] <;> rfl) rfl (by omega) rfl rfl (fun _ => trivial)⟩, trivial⟩
      refine rg ?_
      refine qv m_mv ?_
      refine qv m_add ?_
      refine qv m_as ?_
      exact ⟨i + 1, hi, (by simp only; omega), (tl [(1, 1), (3, 42)])⟩
  · try simp at hc0
    obtain rfl : i = h.ground.length := by omega
    refine awp_exit ?_
    show AWp cx _ _ _
    refine awp_seq ?_
    refine rg ?_
    refine qv m_mv ?_
    refine qv m_as ?_
    show AWp cx _ _ _
    refine awp_ret ?_
    exact x1 (hr := rDt_ (data_rows (L := matL h) (by simp only [mkM, reduceIte, Nat.reduceEqDiff] <;> rfl) trivial matL_len (fun _ => trivial)))
end Go.Ab.Try
set_option linter.all false
namespace Go.Ab.Try
open Go Go.Ab Go.Proofs Go.Ab.Heap
def ngQ (h : Hp) (i q : Nat) : List Int := (List.range h.ground.length).map fun k => if k < q then - lnk h i k else lnk h i k
theorem ngQ_len {h : Hp} {i q : Nat} : (ngQ h i q).length = h.ground.length := by simp [ngQ]
theorem ngQ_at {h : Hp} {i q j : Nat} (hj : j < h.ground.length) : ata (ngQ h i q) j = if j < q then - lnk h i j else lnk h i j := ata_mk hj
theorem ngQ_zero {h : Hp} (v : VH h) {i : Nat} (hi : i < h.ground.length) : lrow h i = ngQ h i 0 := by
  refine list_ext (v.row i hi) fun j _ => ?_
  rw [if_neg (Nat.not_lt_zero j)]; rfl
theorem ngQ_succ {h : Hp} {i q : Nat} (hq : q < h.ground.length) : (ngQ h i q).set q (- ata (ngQ h i q) q) = ngQ h i (q + 1) := by
  refine map_set (fun j _ hne => ?_) fun _ => ?_
  · by_cases h1 : j < q
    · rw [if_pos h1, if_pos (show j < q + 1 by omega)]
    · rw [if_neg h1, if_neg (show ¬ j < q + 1 by omega)]
  · rw [ngQ_at hq, if_neg (Nat.lt_irrefl q), if_pos (Nat.lt_succ_self q)]
theorem ngQ_full {h : Hp} {i : Nat} (hi : i < h.ground.length) : (ngQ h i h.ground.length).set i (h.sp.lim i) = mrow h i := by
  unfold mrow
  refine map_set (fun j hj hne => ?_) fun _ => ?_
  · unfold hM; rw [if_pos hj, if_neg hne]
  · unfold hM; rw [if_pos rfl]
theorem tdiv_bd {x d B : Int} (h1 : -B ≤ x) (h2 : x ≤ B) : -B ≤ x.tdiv d ∧ x.tdiv d ≤ B := by
  have h : (x.tdiv d).natAbs ≤ x.natAbs := by rw [Int.natAbs_tdiv]; exact Nat.div_le_self _ _
  omega
def scrQ (h : Hp) (a b : List Int) (q : Nat) : List Int := (List.range q).map fun c => (scrD h a b c).tdiv (cntD h)
theorem scrQ_len {h : Hp} {a b : List Int} {q : Nat} : (scrQ h a b q).length = q := by simp [scrQ]
theorem scrQ_succ {h : Hp} {a b : List Int} {q : Nat} : scrQ h a b (q + 1) = scrQ h a b q ++ [(scrD h a b q).tdiv (cntD h)] := by unfold scrQ; rw [List.range_succ]; simp
def allD (h : Hp) (a b : List Int) : Bool := (List.range h.ground.length).all fun c => (scrD h a b c).tmod (cntD h) == 0
def scrR (h : Hp) (a b : List Int) : List Int × Bool := if allD h a b then (scrQ h a b h.ground.length, true) else ([], false)
theorem scr_no {h : Hp} {a b : List Int} {c : Nat} (hc : c < h.ground.length) (e : ¬ (scrD h a b c).tmod (cntD h) = 0) : scrR h a b = ([], false) := by
  have : allD h a b = false := by
    unfold allD
    rw [List.all_eq_false]
    exact ⟨c, by simpa using hc, by simpa using e⟩
  unfold scrR; rw [this]; rfl
theorem scr_yes {h : Hp} {a b : List Int} (e : ∀ c, c < h.ground.length → (scrD h a b c).tmod (cntD h) = 0) : scrR h a b = (scrQ h a b h.ground.length, true) := by
  have : allD h a b = true := by
    unfold allD
    rw [List.all_eq_true]
    exact fun c hc => by simpa using e c (by simpa using hc)
  unfold scrR; rw [this]; rfl
theorem scrD_bd {h : Hp} (v : VH h) {a b : List Int} {c : Nat} (hc : c < h.ground.length) (hab : ∀ i, i < h.ground.length → (0 ≤ ata a i ∧ ata a i ≤ 30) ∧ 0 ≤ ata b i ∧ ata b i ≤ 30) : -3000000000 ≤ scrD h a b c ∧ scrD h a b c ≤ 3000000000 := by
  have := (cmat_sq v hc hab).det v.n5
  rwa [cmat_det hc] at this
def countR (h : Hp) : Int × Int := if validate h ≠ 0 then (0, validate h) else (cntD h, 0)
theorem count_ok {h : Hp} (e : validate h = 0) : countR h = (cntD h, 0) := by unfold countR; rw [if_neg (by simp [e])]
def scriptR (h : Hp) (a b : List Int) : List Int × Bool × Int := if checkE h [a, b] ≠ 0 then ([], false, checkE h [a, b]) else ((scrR h a b).1, (scrR h a b).2, 0)
theorem script_bad {h : Hp} {a b : List Int} (e : checkE h [a, b] ≠ 0) : scriptR h a b = ([], false, checkE h [a, b]) := by unfold scriptR; rw [if_pos e]
theorem script_ok {h : Hp} {a b : List Int} (e : checkE h [a, b] = 0) : scriptR h a b = ((scrR h a b).1, (scrR h a b).2, 0) := by unfold scriptR; rw [if_neg (by simp [e])]
theorem hab_of {h : Hp} {a b : List Int} (x : Hpg30 h a) (y : Hpg30 h b) : ∀ i, i < h.ground.length → (0 ≤ ata a i ∧ ata a i ≤ 30) ∧ 0 ≤ ata b i ∧ ata b i ≤ 30 := fun i hi => ⟨x.bd i hi, y.bd i hi⟩
def cmQ (h : Hp) (a b : List Int) (c q : Nat) : List (List Int) := (List.range q).map (crow h a b c)
theorem cmQ_len {h : Hp} {a b : List Int} {c q : Nat} : (cmQ h a b c q).length = q := by simp [cmQ]
theorem cmQ_cells {h : Hp} {a b : List Int} {c q : Nat} : (rowR (cmQ h a b c (q + 1))).cells = (rowR (cmQ h a b c q)).cells ++ [.dv (ints (crow h a b c q))] := by unfold cmQ; rw [List.range_succ]; simp [rowR]
theorem matL_get {h : Hp} {i : Nat} (hi : i < h.ground.length) : (matL h)[i]? = some (mrow h i) := by unfold matL; simp [hi]
theorem scrR_row {h : Hp} {a b : List Int} : (scrR h a b).1.length ≤ h.ground.length := by unfold scrR; split <;> simp [scrQ]
end Go.Ab.Try
