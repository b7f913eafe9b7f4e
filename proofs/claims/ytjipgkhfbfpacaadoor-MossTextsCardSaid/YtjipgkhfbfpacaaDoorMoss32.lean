/- The functions of the moss laws, part 32. The walks are written by wip/gen/gw.py. -/
import Derived.Test.YtjipgkhfbfpacaaDoorMoss31
import Derived.Test.YtjipgkhfbfpacaaDoorMossFacts
import Derived.Test.YtjipgkhfbfpacaaDoorMossD
set_option linter.all false
namespace Go.Ab.Tryd
open Go Go.Ab Go.Proofs Go.Ab.Moss
theorem if80 : isIfaceP Tryd.prog 80 = true := by kernel_rfl
abbrev cutH (T : Tx) : Tx := (Lib.cut T [10]).1
abbrev cutR (T : Tx) : Tx := (Lib.cut T [10]).2.1
theorem f89t (T : Tx) (hs : T.length ≤ 2000) : ACallsF Tryd.prog 89 [.str (bs T), .str (bs [10])] (.many [.dv (.str (bs (cutH T))), .dv (.str (bs (cutR T))), .dv (.bool (Lib.cut T [10]).2.2)]) := f89s (bs T) (bs [10]) (by rw [bs_size]; omega)
theorem cutH_len (T : Tx) : (cutH T).length ≤ T.length := by
  unfold cutH Lib.cut
  split
  · simp; omega
  · simp
theorem cutR_len (T : Tx) : (cutR T).length ≤ T.length := by
  unfold cutR Lib.cut
  split
  · simp
  · simp
theorem f90t (H : Tx) (hs : H.length ≤ 2000) : ACallsF Tryd.prog 90 [.str (bs H), .str (bs [32])] (.one (.dv (.list ((spl (bs H) (bs [32])).map DV.str)))) := f90s (bs H) (bs [32]) (by rw [bs_size]; omega) (by decide)
theorem spl_split (H : Tx) : (spl (bs H) (bs [32])).map (·.data.toList) = Lib.split H [32] := spl_data (bs H) (bs [32])
theorem splitB_mem (sep : ByteArray) (x : ByteArray) : ∀ (k : Nat) (s : ByteArray), x ∈ Lib.splitB sep 0 k s → x.size ≤ s.size
  | 0, s, h => by
    rw [Lib.splitB_zero] at h
    simp only [List.mem_singleton] at h
    rw [h]; exact Nat.le_refl _
  | k + 1, s, h => by
    unfold Lib.splitB at h
    split at h
    · simp only [List.mem_singleton] at h
      rw [h]; exact Nat.le_refl _
    · rcases List.mem_cons.1 h with rfl | h
      · rw [ByteArray.size_extract]; omega
      · have := splitB_mem sep x k _ h
        rw [ByteArray.size_extract] at this; omega
theorem spl_mem {H : Tx} {x : ByteArray} (h : x ∈ spl (bs H) (bs [32])) : x.size ≤ H.length := by
  have := splitB_mem _ x _ _ h
  rwa [bs_size] at this
def errB (s : ByteArray) : Bool := match Lib.atoiAll s.data.toList with | .ok _ => false | _ => true
def valB (s : ByteArray) : Int := (atoiD s.data.toList).1
theorem errB_he (s : ByteArray) : ((atoiD s.data.toList).2 = .nilIface ∧ errB s = false) ∨ (∃ q z, (atoiD s.data.toList).2 = .iface q z) ∧ errB s = true := by
  unfold atoiD errB
  cases Lib.atoiAll s.data.toList with
  | ok v => exact .inl ⟨rfl, rfl⟩
  | range => exact .inr ⟨⟨_, _, rfl⟩, rfl⟩
  | _ => exact .inr ⟨⟨_, _, rfl⟩, rfl⟩
theorem numL_ok : ∀ {l : List ByteArray}, (∀ s ∈ l, errB s = false) → numL (l.map (·.data.toList)) = some (l.map valB)
  | [], _ => rfl
  | s :: l, h => by
    have h1 := h s (by simp)
    have ih := numL_ok fun q hq => h q (List.mem_cons_of_mem _ hq)
    unfold errB at h1
    simp only [List.map_cons, numL]
    cases he : Lib.atoiAll s.data.toList with
    | ok v => simp only [ih, Option.map_some]; unfold valB atoiD; rw [he]
    | range => rw [he] at h1; cases h1
    | _ => rw [he] at h1; cases h1
theorem numL_bad : ∀ {l : List ByteArray}, (∃ s ∈ l, errB s = true) → numL (l.map (·.data.toList)) = none
  | [], ⟨s, h, _⟩ => by simp at h
  | s :: l, ⟨q, hq, hb⟩ => by
    simp only [List.map_cons, numL]
    cases he : Lib.atoiAll s.data.toList with
    | ok v =>
      rcases List.mem_cons.1 hq with rfl | h2
      · unfold errB at hb; rw [he] at hb; cases hb
      · simp only; rw [numL_bad ⟨q, h2, hb⟩]; rfl
    | range => rfl
    | _ => rfl
theorem prog_len {T : Tx} (h : (spl (bs (cutH T)) (bs [32])).length ≠ 4) : progP T = none := by
  unfold progP
  have e := congrArg List.length (spl_split (cutH T))
  rw [List.length_map] at e
  rw [if_pos (by rw [← e]; exact h)]
theorem prog_words {T : Tx} {w0 x y z : ByteArray} (h : spl (bs (cutH T)) (bs [32]) = [w0, x, y, z]) : progP T = match numL ([x, y, z].map (·.data.toList)) with | some [a, b, d] => putP T (cutR T) ⟨a, b, d⟩ | _ => none := by
  unfold progP
  have e := spl_split (cutH T)
  rw [h] at e
  rw [← e, if_neg (by simp)]
  rfl
theorem prog_bad {T : Tx} {w0 x y z : ByteArray} (h : spl (bs (cutH T)) (bs [32]) = [w0, x, y, z]) (hb : ∃ s ∈ [x, y, z], errB s = true) : progP T = none := by
  rw [prog_words h, numL_bad hb]
theorem prog_ok {T : Tx} {w0 x y z : ByteArray} (h : spl (bs (cutH T)) (bs [32]) = [w0, x, y, z]) (hb : ∀ s ∈ [x, y, z], errB s = false) : progP T = putP T (cutR T) ⟨valB x, valB y, valB z⟩ := by
  rw [prog_words h, numL_ok hb]; rfl
def numP (l : List ByteArray) : List Int := l.map valB
theorem data_pt1 {M : Nat → Nat × Option Blk} {t g : Nat} {b : Blk} {d : DV} (h : M t = (g, some b)) (hs : b.st = 1) (hc : b.cells = [.dv d]) : Data (fun st => st = 1) (fun _ => True) M (.pt t g 0) (.cptr [d]) := by
  refine .pt t g 0 b [d] (fun _ => .dv d) h hs (fun j c hj => ?_) (fun j c hj => ?_)
  · match j, hj with
    | 0, hj => rw [hc]; rfl
  · match j, hj with
    | 0, hj => simp only [List.getElem?_cons_zero, Option.some.injEq] at hj; subst hj; exact .dv _ trivial
theorem numP_zero (l : List ByteArray) : numP (l.take 0) = [] := by simp [numP]
theorem numP_nil : numP [] = [] := rfl
theorem numP_len (l : List ByteArray) : (numP l).length = l.length := by simp [numP]
theorem numP_snoc (l : List ByteArray) (s : ByteArray) : numP (l ++ [s]) = numP l ++ [(atoiD s.data.toList).1] := by simp [numP, valB]
theorem put_no {T R : Tx} {m : Mw} (h : ¬ (validB m = true ∧ (R.length : Int) = m.rows * (m.cols + 1))) : putP T R m = none := by unfold putP; rw [if_neg h]
theorem put_ok {T R : Tx} {n : Mn} (ok : n.Ok) (h : (R.length : Int) = (n.r : Int) * ((n.c : Int) + 1)) : putP T R n.w = if fmtL n (wq n.c R (n.r * n.c)) = T then some (n, wq n.c R (n.r * n.c)) else none := by
  unfold putP
  rw [if_pos ⟨n_valid ok, h⟩]
  simp only [Int.toNat_natCast]
set_option maxRecDepth 100000 in
set_option maxHeartbeats 8000000 in
theorem f54 (T : Tx) (hT : T.length ≤ 2000) : ACallsF Tryd.prog 54 [.str (bs T)] (.many [.dv (dMw (pRes (progP T)).1), .dv (i64 (pRes (progP T)).2.1), .dv (i64 (pRes (progP T)).2.2)]) := by
  have hH := cutH_len T
  have hR := cutR_len T
  refine callsR_of (ds := [dMw (pRes (progP T)).1, i64 (pRes (progP T)).2.1, i64 (pRes (progP T)).2.2]) Tryd.func54 rfl rfl (by rw [Tryd.ntmps54]; simp) fun cx hP hn hg hrn hdq hfin => ?_
  rw [Tryd.ntmps54] at hn
  rw [startF_lk, none_mkM]
  simp only [List.nil_append, List.append_nil, List.cons_append, zipSV, Nat.reduceAdd]
  refine awp_seq ?_
  refine rg ?_
  refine qp (m_al ze23) ?_
  refine qv m_as ?_
  refine qv m_as ?_
  show AWp cx _ _ _
  refine awp_seq ?_
  refine rg ?_
  refine qv m_mv ?_
  refine qqF (f89t T hT) ?_
  refine qv m_mv ?_
  refine qv m_ext ?_
  refine qv m_ext ?_
  refine qv m_ext ?_
  refine qp (m_al ze9) ?_
  refine qv m_as ?_
  refine qs (m_st sz9) ?_
  refine qv m_as ?_
  show AWp cx _ _ _
  refine awp_seq ?_
  refine rg ?_
  refine qv m_mv ?_
  refine qqF (f90t (cutH T) (by omega)) ?_
  refine qv m_as ?_
  show AWp cx _ _ _
  refine awp_seq ?_
  refine awp_seq ?_
  refine rg ?_
  refine qv m_mv ?_
  refine qv (m_len il77) ?_
  refine qv m_neq ?_
  show AWp cx _ _ _
  refine cd (fun hc0 => ?_) (fun hc0 => ?_)
  · skip
    have hne : progP T = none := prog_len (by have := hc0; simp at this; omega)
    refine awp_seq ?_
    refine rg ?_
    refine qv (m_bld pl23 ze23) ?_
    refine qs (m_st sz23) ?_
    refine qv m_as ?_
    refine qv m_as ?_
    show AWp cx _ _ _
    refine awp_ret ?_
    rw [hne]
    exact x3c (rv := [.cell 2 23, .tmp 3, .tmp 4]) (.inr rfl) (by simp only [resSV, loadSV, St.look, St.ev, lk, mkM, blkOf, svOf, svOfCell, sz23, ag23, reduceIte, Nat.reduceEqDiff]; rfl) (.agg _ (by intro c hc; simp at hc; rcases hc with rfl | rfl | rfl <;> exact .int _ _)) (.int _ _) (.int _ _)
  · skip
    obtain ⟨w0, x, y, z, hW⟩ : ∃ w0 x y z, spl (bs (cutH T)) (bs [32]) = [w0, x, y, z] := by
      have h4 : (spl (bs (cutH T)) (bs [32])).length = 4 := by have := hc0; simp at this; omega
      match hq : spl (bs (cutH T)) (bs [32]), h4 with
      | [w0, x, y, z], _ => exact ⟨w0, x, y, z, rfl⟩
    clear hc0
    rw [hW]
    obtain ⟨ws, hws⟩ : ∃ ws : List ByteArray, ws = [x, y, z] := ⟨_, rfl⟩
    have hwl : ws.length = 3 := by rw [hws]; rfl
    refine awp_skip ?_
    show AWp cx _ _ _
    refine awp_seq ?_
    refine rg ?_
    refine qv m_as ?_
    show AWp cx _ _ _
    refine awp_seq ?_
    refine awp_seq ?_
    refine rg ?_
    refine qv m_mv ?_
    refine qv (m_cut3 el77 sz9 (L' := ws) (hL := by rw [hws]; rfl)) ?_
    refine qv (m_len il77) ?_
    refine qv m_mv ?_
    show AWp cx _ _ _
    refine awp_block ?_
    refine awp_loop (ι := Nat) (fun i => ⟨lk [(0, .dv (.str (bs T))), (2, .pt 2 0 0), (6, .pt 6 0 0), (9, .sl 9 0 0 ((numP (ws.take i)).length)), (31, .dv (.list ((ws).map DV.str))), (32, .dv (i64 ((ws.length : Int)))), (33, .dv (i64 (i : Nat)))], mkM [(2, 0, some ⟨[.dv (i64 0), .dv (i64 0), .dv (i64 0)], 0, 23, 0, false⟩), (6, 0, some ⟨[.dv (.str (bs (cutR T)))], 0, 9, 0, false⟩), (9, 0, some (rowI (numP (ws.take i))))]⟩) (fun i => i ≤ 3 ∧ ∀ s ∈ ws.take i, errB s = false) (fun i => 3 - i) 0 (by simp) (tl [(2, 2), (6, 6)] (hF := by simp [FLe, svLe, lk, mkM, isLive, tauL, numP_zero, numP_nil]) (hM := by simp [MLe, blkLe, svLe, svLes, lk, mkM, isLive, tauL, svLes_ints, svLes_self, isDvs, isDvs_map, isDvs_app, isDvs_take, isDvs_set, isDvs_repl, numP_zero, numP_nil])) ?_
    intro i hφ0
    obtain ⟨hi1, hi2⟩ := hφ0
    refine awp_seq ?_
    refine rg ?_
    refine qv m_lss ?_
    show AWp cx _ _ _
    refine awp_seq ?_
    refine cd (fun hc1 => ?_) (fun hc1 => ?_)
    · try simp at hc1
      have hi3 : i < 3 := by omega
      obtain ⟨s, hs⟩ : ∃ s, ws[i]? = some s := ⟨_, List.getElem?_eq_getElem (by omega)⟩
      have htk : ws.take (i + 1) = ws.take i ++ [s] := take_snoc hs
      have hnp : numP (ws.take (i + 1)) = numP (ws.take i) ++ [(atoiD s.data.toList).1] := by rw [htk, numP_snoc]
      have hsm : s ∈ [x, y, z] := by rw [← hws]; exact List.mem_of_getElem? hs
      have hnl : (numP (ws.take i)).length ≤ 3 := by rw [numP_len]; simp; omega
      refine awp_skip ?_
      show AWp cx _ _ _
      refine awp_seq ?_
      refine awp_block ?_
      refine awp_seq ?_
      refine rg ?_
      first | refine qv (m_ixN el77 sz9) ?_ | refine qv (m_ix el77 sz9) ?_
      refine qv (m_ld sz9 ag9) ?_
      refine qv m_as ?_
      show AWp cx _ _ _
      refine awp_seq ?_
      refine rg ?_
      refine qv m_mv ?_
      refine qqF (f91s s (by have := spl_mem (H := cutH T) (x := s) (by rw [hW]; exact List.mem_cons_of_mem _ hsm); omega)) ?_
      refine qv m_mv ?_
      refine qv m_ext ?_
      refine qv m_ext ?_
      refine qv m_as ?_
      refine qv m_as ?_
      show AWp cx _ _ _
      refine awp_seq ?_
      refine awp_seq ?_
      refine rg ?_
      refine qv m_mv ?_
      refine qnif (errB s) if80 (errB_he s) ?_
      show AWp cx _ _ _
      refine cd (fun hc2 => ?_) (fun hc2 => ?_)
      · skip
        have hne : progP T = none := prog_bad hW ⟨s, hsm, hc2⟩
        refine awp_seq ?_
        refine rg ?_
        refine qv (m_bld pl23 ze23) ?_
        refine qs (m_st sz23) ?_
        refine qv m_as ?_
        refine qv m_as ?_
        show AWp cx _ _ _
        refine awp_ret ?_
        rw [hne]
        exact x3c (rv := [.cell 2 23, .tmp 3, .tmp 4]) (.inr rfl) (by simp only [resSV, loadSV, St.look, St.ev, lk, mkM, blkOf, svOf, svOfCell, sz23, ag23, reduceIte, Nat.reduceEqDiff]; rfl) (.agg _ (by intro c hc; simp at hc; rcases hc with rfl | rfl | rfl <;> exact .int _ _)) (.int _ _) (.int _ _)
      · skip
        refine awp_skip ?_
        show AWp cx _ _ _
        refine rg ?_
        refine qv m_mv ?_
        refine qv m_mv ?_
        refine qr (m_bsl el32 ze3 sz3) ?_
        refine qa1 (m_app1 el32 el32 ze3 sz3 by3) ?_
        refine qv m_as ?_
        show AWp cx _ _ _
        refine rg ?_
        refine qv m_add ?_
        refine qv m_mv ?_
        exact ⟨i + 1, ⟨by omega, fun s hs => by
          rw [htk] at hs
          rcases List.mem_append.1 hs with h2 | h2
          · exact hi2 s h2
          · simp only [List.mem_singleton] at h2; subst h2; exact hc2⟩, (by simp only; omega), (tl [(2, 2), (6, 6), (9, 48)] (hF := by simp [FLe, svLe, lk, mkM, isLive, tauL, hnp]) (hM := by simp [MLe, blkLe, svLe, svLes, lk, mkM, isLive, tauL, svLes_ints, svLes_self, isDvs, isDvs_map, isDvs_app, isDvs_take, isDvs_set, isDvs_repl, hnp]))⟩
    · try simp at hc1
      refine awp_exit ?_
      show AWp cx _ _ _
      refine awp_seq ?_
      obtain rfl : i = 3 := by omega
      subst hws
      have hall : ∀ s ∈ [x, y, z], errB s = false := hi2
      have hPr := prog_ok hW hall
      obtain ⟨m, hm1, hm2, hm3⟩ : ∃ m : Mw, valB x = m.rows ∧ valB y = m.cols ∧ valB z = m.need := ⟨⟨_, _, _⟩, rfl, rfl, rfl⟩
      rw [hm1, hm2, hm3] at hPr
      simp only [numP, List.take_succ_cons, List.take_zero, List.map_cons, List.map_nil, hm1, hm2, hm3]
      refine rd mixed ?_
      refine zv m_mv ?_
      refine zv (m_ixR el32 sz3) ?_
      first | refine zv (m_ldI sz3 ag3) ?_ | refine zv (m_ldp sz3 ag3) ?_
      refine zv m_mv ?_
      refine zv (m_ixR el32 sz3) ?_
      first | refine zv (m_ldI sz3 ag3) ?_ | refine zv (m_ldp sz3 ag3) ?_
      refine zv m_mv ?_
      refine zv (m_ixR el32 sz3) ?_
      first | refine zv (m_ldI sz3 ag3) ?_ | refine zv (m_ldp sz3 ag3) ?_
      refine zv (m_bld pl23 ze23) ?_
      refine zp (m_al ze23) ?_
      refine zs (m_st sz23) ?_
      refine ⟨by rfl, ?_⟩
      show AWp cx _ _ _
      refine awp_seq ?_
      refine awp_seq ?_
      refine rg ?_
      refine qv (m_ldpa sz23 ag23) ?_
      refine qqF (f24 m) ?_
      refine qv m_neq ?_
      refine qx m_mv (fun hg63 => ?_) (fun hg63 => ?_)
      · try simp at hg63
        refine qk ?_
        refine qk ?_
        refine qk ?_
        refine qk ?_
        refine qk ?_
        refine qk ?_
        refine qk ?_
        refine qk ?_
        refine qk ?_
        refine qv m_pk ?_
        show AWp cx _ _ _
        refine cdT (hb := by first | rfl | simp | simp_all) (ht := ?_)
        refine awp_seq ?_
        refine rg ?_
        refine qv (m_bld pl23 ze23) ?_
        refine qs (m_st sz23) ?_
        refine qv m_as ?_
        refine qv m_as ?_
        show AWp cx _ _ _
        refine awp_ret ?_
        first
          | rw [hne]
          | rw [show progP T = none from by rw [hPr]; exact put_no fun h => by simp [valid, h.1] at hg63]
        exact x3c (rv := [.cell 2 23, .tmp 3, .tmp 4]) (.inr rfl) (by simp only [resSV, loadSV, St.look, St.ev, lk, mkM, blkOf, svOf, svOfCell, sz23, ag23, reduceIte, Nat.reduceEqDiff]; rfl) (.agg _ (by intro c hc; simp at hc; rcases hc with rfl | rfl | rfl <;> exact .int _ _)) (.int _ _) (.int _ _)
      · try simp at hg63
        have hv : validB m = true := by simpa [valid] using hg63
        obtain ⟨n, ok, rfl⟩ := valid_n hv
        have hN := ok.N2
        have hr2 := ok.r2
        have hcc2 := ok.c2
        have hmb1 : (n.r : Int) * ((n.c : Int) + 1) ≤ 6 * 7 := Int.mul_le_mul (by omega) (by omega) (by omega) (by omega)
        have hmb0 : 0 ≤ (n.r : Int) * ((n.c : Int) + 1) := Int.mul_nonneg (by omega) (by omega)
        refine qv (m_ldp sz9 ag9) ?_
        refine qv (m_slen is9) ?_
        refine qv (m_fdp fd23_0) ?_
        refine qv (m_ldp sz3 ag3) ?_
        refine qv (m_fdp fd23_1) ?_
        refine qv (m_ldp sz3 ag3) ?_
        refine qv m_add ?_
        refine qv m_mul ?_
        refine qv m_neq ?_
        refine qv m_pk ?_
        show AWp cx _ _ _
        refine cd (fun hc3 => ?_) (fun hc3 => ?_)
        · skip
          have hne : progP T = none := by
            rw [hPr]
            exact put_no fun h => by simp [h.2] at hc3
          refine awp_seq ?_
          refine rg ?_
          refine qv (m_bld pl23 ze23) ?_
          refine qs (m_st sz23) ?_
          refine qv m_as ?_
          refine qv m_as ?_
          show AWp cx _ _ _
          refine awp_ret ?_
          first
            | rw [hne]
            | rw [show progP T = none from by rw [hPr]; exact put_no fun h => by simp [valid, h.1] at hg63]
          exact x3c (rv := [.cell 2 23, .tmp 3, .tmp 4]) (.inr rfl) (by simp only [resSV, loadSV, St.look, St.ev, lk, mkM, blkOf, svOf, svOfCell, sz23, ag23, reduceIte, Nat.reduceEqDiff]; rfl) (.agg _ (by intro c hc; simp at hc; rcases hc with rfl | rfl | rfl <;> exact .int _ _)) (.int _ _) (.int _ _)
        · skip
          have hlenI : ((cutR T).length : Int) = (n.r : Int) * ((n.c : Int) + 1) := by simpa using hc3
          have hlen : (cutR T).length = n.r * (n.c + 1) := by exact_mod_cast hlenI
          have hPu := put_ok (T := T) ok hlenI
          refine awp_skip ?_
          show AWp cx _ _ _
          refine awp_seq ?_
          refine rg ?_
          refine qp (m_al ze3) ?_
          refine qs (m_st sz3) ?_
          show AWp cx _ _ _
          refine awp_seq_seq_rf ?_
          refine rg ?_
          refine qv (m_ldpa sz23 ag23) ?_
          refine qqA (f92 n) ?_
          show RfOk cx _ _ _ _
          refine rgf hg hrn hdq hfin hP hn (sq_seq ok) (l := [(0, .dv (.str (bs T))), (2, .pt 2 0 0), (6, .pt 6 0 0), (14, .pt 14 0 0), (15, .pt 15 0 0), (76, .dv (.fn 103 [] [.cptr [i64 (n.r : Int), i64 (n.c : Int), i64 (n.nd : Int)]]))]) (fun k => [(2, 0, some ⟨[.dv (i64 0), .dv (i64 0), .dv (i64 0)], 0, 23, 0, false⟩), (6, 0, some ⟨[.dv (.str (bs (cutR T)))], 0, 9, 0, false⟩), (14, 0, some ⟨[.dv (i64 (n.r : Int)), .dv (i64 (n.c : Int)), .dv (i64 (n.nd : Int))], 0, 23, 0, false⟩), (15, 0, some ⟨[.dv (i64 ((wq n.c (cutR T) k : Nat) : Int))], 0, 3, 0, false⟩)]) (tl [(2, 2), (6, 6), (14, 14), (15, 15)] (hF := by simp [FLe, svLe, lk, mkM, isLive, tauL, wq]) (hM := by simp [MLe, blkLe, svLe, svLes, lk, mkM, isLive, tauL, svLes_ints, svLes_self, isDvs, isDvs_map, isDvs_app, isDvs_take, isDvs_set, isDvs_repl, wq])) (fun k x hx => ?_) fun cx2 hP2 hn2 hg2 => ?_
          · obtain ⟨hk, rfl⟩ := sq_get hx
            refine roundL (P := Tryd.prog) (N := 98) [(2, 2), (6, 6), (14, 14), (15, 15)] [(2, ⟨[.dv (i64 0), .dv (i64 0), .dv (i64 0)], 0, 23, 5, false⟩), (6, ⟨[.dv (.str (bs (cutR T)))], 0, 9, 9, false⟩), (14, ⟨[.dv (i64 (n.r : Int)), .dv (i64 (n.c : Int)), .dv (i64 (n.nd : Int))], 0, 23, 17, false⟩), (15, ⟨[.dv (i64 ((wq n.c (cutR T) k : Nat) : Int))], 0, 3, 18, false⟩)] [(2, ⟨[.dv (i64 0), .dv (i64 0), .dv (i64 0)], 0, 23, 5, false⟩), (6, ⟨[.dv (.str (bs (cutR T)))], 0, 9, 9, false⟩), (14, ⟨[.dv (i64 (n.r : Int)), .dv (i64 (n.c : Int)), .dv (i64 (n.nd : Int))], 0, 23, 17, false⟩), (15, ⟨[.dv (i64 ((wq n.c (cutR T) (k + 1) : Nat) : Int))], 0, 3, 18, false⟩)] [2, 6, 14, 15] [(0, .dv (.str (bs T))), (2, .pt 2 0 0), (6, .pt 6 0 0), (14, .pt 14 0 0), (15, .pt 15 0 0), (76, .dv (.fn 103 [] [.cptr [i64 (n.r : Int), i64 (n.c : Int), i64 (n.nd : Int)]]))] (hle := (tl [(2, 2), (6, 6), (14, 14), (15, 15)] (hF := by simp [FLe, svLe, lk, mkM, isLive, tauL, wq]) (hM := by simp [MLe, blkLe, svLe, svLes, lk, mkM, isLive, tauL, svLes_ints, svLes_self, isDvs, isDvs_map, isDvs_app, isDvs_take, isDvs_set, isDvs_repl, wq]))) (k := fun cx1 hP1 hn1 hg1 => ?_)
            show AWp cx1 _ _ ⟨lk [(78, .dv (.agg [i64 ((k / n.c : Nat) : Int), i64 ((k % n.c : Nat) : Int)])), (77, .dv (i64 ((k : Nat)))), (0, .dv (.str (bs T))), (2, .pt 2 0 0), (6, .pt 6 0 0), (14, .pt 14 0 0), (15, .pt 15 0 0), (76, .dv (.fn 103 [] [.cptr [i64 (n.r : Int), i64 (n.c : Int), i64 (n.nd : Int)]]))], mkM [(2, 0, some ⟨[.dv (i64 0), .dv (i64 0), .dv (i64 0)], 0, 23, 5, false⟩), (6, 0, some ⟨[.dv (.str (bs (cutR T)))], 0, 9, 9, false⟩), (14, 0, some ⟨[.dv (i64 (n.r : Int)), .dv (i64 (n.c : Int)), .dv (i64 (n.nd : Int))], 0, 23, 17, false⟩), (15, 0, some ⟨[.dv (i64 ((wq n.c (cutR T) k : Nat) : Int))], 0, 3, 18, false⟩)]⟩
            have hw36 : wq n.c (cutR T) k < 68719476736 := Nat.lt_of_lt_of_le (wq_lt n.c (cutR T) k) (Nat.pow_le_pow_right (n := 2) (by decide) (show k ≤ 36 by omega))
            have hkd : k / n.c ≤ k := Nat.div_le_self _ _
            have hkr := row_lt hk ok.c1
            have hil : k + k / n.c < (cutR T).length := by rw [hlen, Nat.mul_add]; omega
            obtain ⟨b, hb⟩ : ∃ b, (cutR T)[k + k / n.c]? = some b := ⟨_, List.getElem?_eq_getElem hil⟩
            have hgd : (cutR T).getD (k + k / n.c) 0 = b := by rw [List.getD_eq_getElem?_getD, hb]; rfl
            refine awp_seq ?_
            refine rg ?_
            refine qv m_as ?_
            show AWp cx1 _ _ _
            refine rg ?_
            refine qp (m_al ze86) ?_
            refine qs (m_st sz86) ?_
            refine asg fun cx1 hP1 hn1 hg1 => ?_
            refine awp_block ?_
            refine awp_seq ?_
            refine rg ?_
            first | refine qv (m_ldI sz9 ag9) ?_ | refine qv (m_ldp sz9 ag9) ?_
            refine qv m_mv ?_
            refine qv (m_ixA ar86 sz3) ?_
            refine qv (m_ldp sz3 ag3) ?_
            refine qv m_addN ?_
            refine qv (m_sAt (k + k / n.c) is9 hb) ?_
            refine qv m_eql ?_
            show AWp cx1 _ _ _
            refine cd (fun hc4 => ?_) (fun hc4 => ?_)
            · skip
              refine rd mixed ?_
              first | refine zv (m_ldI sz3 ag3) ?_ | refine zv (m_ldp sz3 ag3) ?_
              refine zv m_mv ?_
              refine zv (m_shlS k) ?_
              refine zv (m_orS (ha := hw36) (hb := two36 (by omega))) ?_
              first | refine zs (m_stI sz3) ?_ | refine zs (m_st sz3) ?_
              refine ⟨by rfl, ?_⟩
              have hq : wq n.c (cutR T) (k + 1) = wq n.c (cutR T) k ||| 2 ^ k := by simp only [wq]; rw [if_pos (by rw [hgd]; exact u8_35.1 hc4)]
              exact rend (tl [(2, 2), (6, 6), (14, 14), (15, 15)] (hF := by simp [FLe, svLe, lk, mkM, isLive, tauL, hq]) (hM := by simp [MLe, blkLe, svLe, svLes, lk, mkM, isLive, tauL, svLes_ints, svLes_self, isDvs, isDvs_map, isDvs_app, isDvs_take, isDvs_set, isDvs_repl, hq]))
            · skip
              refine awp_skip ?_
              have hq : wq n.c (cutR T) (k + 1) = wq n.c (cutR T) k := by simp only [wq]; rw [if_neg (by rw [hgd]; exact fun h => by rw [u8_35.2 h] at hc4; cases hc4)]
              exact rend (tl [(2, 2), (6, 6), (14, 14), (15, 15)] (hF := by simp [FLe, svLe, lk, mkM, isLive, tauL, hq]) (hM := by simp [MLe, blkLe, svLe, svLes, lk, mkM, isLive, tauL, svLes_ints, svLes_self, isDvs, isDvs_map, isDvs_app, isDvs_take, isDvs_set, isDvs_repl, hq]))
          · try rw [List.length_map, List.length_range]
            have hw36 : wq n.c (cutR T) (n.r * n.c) < 68719476736 := Nat.lt_of_lt_of_le (wq_lt n.c (cutR T) (n.r * n.c)) (Nat.pow_le_pow_right (n := 2) (by decide) hN)
            refine awp_seq ?_
            refine awp_seq ?_
            refine rg ?_
            refine qv (m_ldpa sz23 ag23) ?_
            refine qv (m_ldp sz3 ag3) ?_
            refine qqF (f87 n ok (wq n.c (cutR T) (n.r * n.c)) hw36) ?_
            refine qv m_mv ?_
            refine qv m_sne ?_
            show AWp cx2 _ _ _
            refine cd (fun hc5 => ?_) (fun hc5 => ?_)
            · skip
              refine awp_seq ?_
              refine rg ?_
              refine qv (m_bld pl23 ze23) ?_
              refine qs (m_st sz23) ?_
              refine qv m_as ?_
              refine qv m_as ?_
              show AWp cx2 _ _ _
              refine awp_ret ?_
              have hne : progP T = none := by rw [hPr, hPu, if_neg (by simpa using hc5)]
              rw [hne]
              exact xs3 (hs := (by simp only [resSV, loadSV, St.look, St.ev, lk, mkM, blkOf, svOf, svOfCell, sz23, ag23, reduceIte, Nat.reduceEqDiff]; rfl))
            · skip
              refine awp_skip ?_
              show AWp cx2 _ _ _
              refine awp_seq ?_
              refine awp_frz 15 ?_
              refine awp_sink 15 (d := .cptr [i64 (wq n.c (cutR T) (n.r * n.c) : Int)]) (data_pt1 (by simp only [mkM, reduceIte, Nat.reduceEqDiff] <;> rfl) rfl rfl) hg2 ?_
              refine rd mixed ?_
              refine zv (m_ldpa sz23 ag23) ?_
              refine zv (m_ld sz3 ag3) ?_
              refine zs (m_st sz23) ?_
              refine zv m_as ?_
              refine zv m_as ?_
              refine ⟨by rfl, ?_⟩
              show AWp cx2 _ _ _
              refine awp_ret ?_
              have hne : progP T = some (n, wq n.c (cutR T) (n.r * n.c)) := by rw [hPr, hPu, if_pos (by simpa using hc5)]
              rw [hne]
              exact xs3 (hs := (by simp only [resSV, loadSV, St.look, St.ev, lk, mkM, blkOf, svOf, svOfCell, sz23, ag23, reduceIte, Nat.reduceEqDiff]; rfl))
end Go.Ab.Tryd
