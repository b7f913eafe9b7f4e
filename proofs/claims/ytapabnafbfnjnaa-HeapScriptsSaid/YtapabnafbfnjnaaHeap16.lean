/- The functions of the heap laws, part 16. The walks are written by wip/gen/gw.py. -/
import Derived.Test.YtapabnafbfnjnaaHeapPC
import Derived.Test.YtapabnafbfnjnaaHeapPA
import Derived.Test.YtapabnafbfnjnaaHeapPT
import Derived.Test.YtapabnafbfnjnaaHeapFacts
import Derived.Test.YtapabnafbfnjnaaHeapPT
set_option linter.all false
namespace Go.Ab.Try
open Go Go.Ab Go.Proofs Go.Ab.Heap
def fullQ (h : Hp) (k : Int) (q : Nat) : List Int := (List.range q).map fun i => k * h.sp.lim i
theorem fullQ_len {h : Hp} {k : Int} {q : Nat} : (fullQ h k q).length = q := by simp [fullQ]
theorem fullQ_succ {h : Hp} {k : Int} {q : Nat} : fullQ h k (q + 1) = fullQ h k q ++ [k * h.sp.lim q] := by unfold fullQ; rw [List.range_succ]; simp
def difQ (h : Hp) (F C : List Int) (q : Nat) : List Int := (List.range h.ground.length).map fun i => ata F i - (if i < q then ata C i else 0)
theorem difQ_len {h : Hp} {F C : List Int} {q : Nat} : (difQ h F C q).length = h.ground.length := by simp [difQ]
theorem difQ_at {h : Hp} {F C : List Int} {q j : Nat} (hj : j < h.ground.length) : ata (difQ h F C q) j = ata F j - (if j < q then ata C j else 0) := ata_mk hj
theorem difQ_zero {h : Hp} {F C : List Int} (hl : F.length = h.ground.length) : F = difQ h F C 0 := by
  refine list_ext hl fun j _ => ?_
  rw [if_neg (Nat.not_lt_zero j)]; omega
theorem difQ_succ {h : Hp} {F C : List Int} {q : Nat} (hq : q < h.ground.length) : (difQ h F C q).set q (ata (difQ h F C q) q - ata C q) = difQ h F C (q + 1) := by
  refine map_set (fun j _ hne => ?_) fun _ => ?_
  · by_cases h1 : j < q
    · rw [if_pos h1, if_pos (show j < q + 1 by omega)]
    · rw [if_neg h1, if_neg (show ¬ j < q + 1 by omega)]
  · rw [difQ_at hq, if_neg (Nat.lt_irrefl q), if_pos (Nat.lt_succ_self q)]; omega
theorem difQ_full {h : Hp} {F C : List Int} : difQ h F C h.ground.length = (List.range h.ground.length).map fun i => ata F i - ata C i := by
  unfold difQ
  refine List.map_congr_left fun j hj => ?_
  rw [if_pos (show j < h.ground.length by simpa using hj)]
theorem full_fit {h : Hp} (v : VH h) {k : Int} (h0 : 0 ≤ k) (h4 : k ≤ 4) : Fit h (fullL h k) := ⟨fullL_hpg v h0, fun j hj => by
  rw [fullL_at hj]
  have h1 := v.lim1 hj
  have h2 := v.lim12 hj
  have := mul_abs (a := k) (b := h.sp.lim j) (A := 4) (B := 12) (by omega) h4 (by omega) h2
  omega⟩
theorem nothing_half {h : Hp} (v : VH h) : Half h (nothingL h) := ⟨nothing_hpg v, fun j hj => by have := nothing_big v hj; omega⟩
theorem last_len {h : Hp} {a : List Int} : (lastL h a).length = h.ground.length := stl_len
theorem nothing_len {h : Hp} : (nothingL h).length = h.ground.length := by simp [nothingL]
def nil0 (h : Hp) : List Int := List.replicate h.ground.length 0
theorem nil0_hpg (h : Hp) : Hpg h (nil0 h) := ⟨by simp [nil0], fun i hi => by unfold nil0; rw [ata_repl hi]; exact Int.le_refl _⟩
theorem nil0_half (h : Hp) : Half h (nil0 h) := ⟨nil0_hpg h, fun i hi => by unfold nil0; rw [ata_repl hi]; omega⟩
noncomputable def zeroL (h : Hp) : List Int := lastL h (nil0 h)
theorem nil0_alike (h : Hp) : h.sp.Alike (ata (nil0 h)) fun _ => 0 := alike_congr (fun _ _ => rfl) (fun i hi => by unfold nil0; exact ata_repl hi) (alike_refl (ata (nil0 h)))
theorem zero_alike {h : Hp} (v : VH h) : h.sp.Alike (ata (zeroL h)) fun _ => 0 := alike_trans (alike_symm (last_spec v (nil0_hpg h)).2.2) (nil0_alike h)
theorem zero_hpg {h : Hp} (v : VH h) : Hpg h (zeroL h) := (last_spec v (nil0_hpg h)).1
theorem zero_rec {h : Hp} (v : VH h) : Rec h (zeroL h) := (last_spec v (nil0_hpg h)).2.1
noncomputable def zeroR (h : Hp) : List Int × Int := if validate h ≠ 0 then ([], validate h) else (zeroL h, 0)
theorem zero_bad {h : Hp} (e : validate h ≠ 0) : zeroR h = ([], validate h) := by unfold zeroR; rw [if_pos e]
theorem zero_ok {h : Hp} (e : validate h = 0) : zeroR h = (zeroL h, 0) := by unfold zeroR; rw [if_neg (by simp [e])]
noncomputable def lastR (h : Hp) (a : List Int) : List Int × Int := if checkE h [a] ≠ 0 then ([], checkE h [a]) else (lastL h a, 0)
theorem last_bad {h : Hp} {a : List Int} (e : checkE h [a] ≠ 0) : lastR h a = ([], checkE h [a]) := by unfold lastR; rw [if_pos e]
theorem last_ok {h : Hp} {a : List Int} (e : checkE h [a] = 0) : lastR h a = (lastL h a, 0) := by unfold lastR; rw [if_neg (by simp [e])]
noncomputable def alikeR (h : Hp) (a b : List Int) : Bool × Int := if checkE h [a, b] ≠ 0 then (false, checkE h [a, b]) else (lastL h a == lastL h b, 0)
theorem alike_bad {h : Hp} {a b : List Int} (e : checkE h [a, b] ≠ 0) : alikeR h a b = (false, checkE h [a, b]) := by unfold alikeR; rw [if_pos e]
theorem alike_ok {h : Hp} {a b : List Int} (e : checkE h [a, b] = 0) : alikeR h a b = (lastL h a == lastL h b, 0) := by unfold alikeR; rw [if_neg (by simp [e])]
theorem f99 (h : Hp) (v : VH h) (k : Int) (h0 : 0 ≤ k) (h4 : k ≤ 4) : ACallsF Try.prog 99 [dHp h, i64 k] (.one (rI (fullL h k))) := by
  have h5 := v.n5
  refine callsF_of Try.func99 rfl rfl (by rw [Try.ntmps99]; simp) fun cx hP hn hg => ?_
  rw [Try.ntmps99] at hn
  rw [startF_lk, none_mkM]
  simp only [List.nil_append, List.append_nil, List.cons_append, zipSV, Nat.reduceAdd]
  refine awp_seq ?_
  refine rg ?_
  refine qp m_box ?_
  refine qv m_as ?_
  show AWp cx _ _ _
  refine awp_seq ?_
  refine rg ?_
  refine qv m_as ?_
  show AWp cx _ _ _
  refine awp_seq ?_
  refine awp_seq ?_
  refine rg ?_
  refine qv (m_fdp fd25_1) ?_
  refine qv (m_ldp sz23 ag23) ?_
  refine qv (m_len il23) ?_
  refine qv m_mv ?_
  show AWp cx _ _ _
  refine awp_block ?_
  refine awp_loop (ι := Nat) (fun q => ⟨lk [(1, .dv (i64 (k))), (2, .pt 2 0 0), (5, .sl 5 0 0 q), (9, .dv (i64 ((h.ground.length : Int)))), (10, .dv (i64 (q : Nat)))], mkM [(2, 0, some ⟨[.dv (.list ((h.links).map ints)), .dv (ints (h.ground))], 0, 25, 0, false⟩), (5, 0, some (rowI (fullQ h k q)))]⟩) (fun q => q ≤ h.ground.length) (fun q => h.ground.length - q) 0 (by simp) (tl [(2, 2)] (hF := by simp [FLe, svLe, lk, mkM, isLive, tauL, fullQ]) (hM := by simp [MLe, blkLe, svLe, svLes, lk, mkM, isLive, tauL, svLes_ints, svLes_self, isDvs, isDvs_map, isDvs_app, isDvs_take, isDvs_set, isDvs_repl, fullQ])) ?_
  intro q hφ0
  refine awp_seq ?_
  refine rg ?_
  refine qv m_lss ?_
  show AWp cx _ _ _
  refine awp_seq ?_
  refine cd (fun hc0 => ?_) (fun hc0 => ?_)
  · try simp at hc0
    refine awp_skip ?_
    show AWp cx _ _ _
    refine awp_seq ?_
    refine awp_block ?_
    refine awp_seq ?_
    have hq : q < h.ground.length := by omega
    have hql := fullQ_len (h := h) (k := k) (q := q)
    have hl1 := v.lim1 hq
    have hl2 := v.lim12 hq
    have hkb := mul_abs (a := k) (b := h.sp.lim q) (A := 4) (B := 12) (by omega) h4 (by omega) hl2
    refine rg ?_
    refine qv m_mv ?_
    refine qv m_as ?_
    show AWp cx _ _ _
    refine rg ?_
    refine qv m_mv ?_
    refine qv m_mv ?_
    refine qv (m_ldpa sz25 ag25) ?_
    refine qv m_mv ?_
    refine qqF (f60 h v q hq) ?_
    refine qv m_mul ?_
    refine qr (m_bsl el23 ze3 sz3) ?_
    refine qa1 (m_app1 el23 el23 ze3 sz3 by3) ?_
    refine qv m_as ?_
    show AWp cx _ _ _
    refine rg ?_
    refine qv m_add ?_
    refine qv m_mv ?_
    exact ⟨q + 1, hq, (by simp only; omega), (tl [(2, 2), (5, 20)] (hF := by simp [FLe, svLe, lk, mkM, isLive, tauL, fullQ_succ]) (hM := by simp [MLe, blkLe, svLe, svLes, lk, mkM, isLive, tauL, svLes_ints, svLes_self, isDvs, isDvs_map, isDvs_app, isDvs_take, isDvs_set, isDvs_repl, fullQ_succ]))⟩
  · try simp at hc0
    obtain rfl : q = h.ground.length := by omega
    refine awp_exit ?_
    show AWp cx _ _ _
    refine awp_seq ?_
    refine rg ?_
    refine qv m_mv ?_
    refine qv m_as ?_
    show AWp cx _ _ _
    refine awp_ret ?_
    exact x1 (hr := (rR_ (hl := by simp [fullL])))
set_option maxHeartbeats 4000000 in
theorem f92 (h : Hp) (v : VH h) : ACallsF Try.prog 92 [dHp h] (.one (rI (nothingL h))) := by
  have h5 := v.n5
  have hf := full_fit v (k := 4) (by omega) (by omega)
  have hfl := hf.hpg.len
  have hsb := stl_bds v hf
  refine callsF_of Try.func92 rfl rfl (by rw [Try.ntmps92]; simp) fun cx hP hn hg => ?_
  rw [Try.ntmps92] at hn
  rw [startF_lk, none_mkM]
  simp only [List.nil_append, List.append_nil, List.cons_append, zipSV, Nat.reduceAdd]
  refine awp_seq ?_
  refine rg ?_
  refine qp m_box ?_
  refine qv m_as ?_
  show AWp cx _ _ _
  refine awp_seq ?_
  refine rg ?_
  refine qv (m_ldpa sz25 ag25) ?_
  refine qqF (f99 h v 4 (by omega) (by omega)) ?_
  refine qv m_as ?_
  show AWp cx _ _ _
  refine awp_seq ?_
  refine rg ?_
  refine qv (m_ldpa sz25 ag25) ?_
  refine qv m_mv ?_
  refine qqF (f66 h v (fullL h 4) hf) ?_ (ha := (args_cons data_dv (args_cons (data_ints (L := fullL h 4) (by simp only [mkM, reduceIte, Nat.reduceEqDiff] <;> rfl) trivial (by first | rfl | omega | (simp; done) | (simp; omega)) rfl rfl (fun _ => trivial)) args_nil))) (hS := (res_rr (d2 := 1012) rfl (by (simp only [mkM, reduceIte, Nat.reduceEqDiff] <;> rfl)) (by (simp only [mkM, reduceIte, Nat.reduceEqDiff] <;> rfl))))
  refine qv m_mv ?_
  refine qv m_ext ?_
  refine qv m_ext ?_
  refine qv m_as ?_
  refine qv m_as ?_
  show AWp cx _ _ _
  refine awp_seq ?_
  refine awp_seq ?_
  refine rg ?_
  refine qv m_mv ?_
  refine qv (m_lenR il23) ?_
  refine qv m_mv ?_
  show AWp cx _ _ _
  refine awp_block ?_
  have hz := difQ_zero (C := stl h (fullL h 4)) hfl
  have hsl := stl_len (h := h) (a := fullL h 4)
  refine awp_loop (ι := Nat) (fun q => ⟨lk [(3, .sl 3 0 0 h.ground.length), (4, .sl 4 0 0 h.ground.length), (16, .dv (i64 (((fullL h 4).length : Nat)))), (17, .dv (i64 (q : Nat)))], mkM [(3, 0, some (rowI (difQ h (fullL h 4) (stl h (fullL h 4)) q))), (4, 0, some (rowI (stl h (fullL h 4))))]⟩) (fun q => q ≤ h.ground.length) (fun q => h.ground.length - q) 0 (by simp) (tl [(3, 8), (4, 12)] (hF := by simp [FLe, svLe, lk, mkM, isLive, tauL, ← hz, hfl, hsl]) (hM := by simp [MLe, blkLe, svLe, svLes, lk, mkM, isLive, tauL, svLes_ints, svLes_self, isDvs, isDvs_map, isDvs_app, isDvs_take, isDvs_set, isDvs_repl, ← hz, hfl, hsl])) ?_
  intro q hφ0
  refine awp_seq ?_
  refine rg ?_
  refine qv m_lss ?_
  show AWp cx _ _ _
  refine awp_seq ?_
  refine cd (fun hc0 => ?_) (fun hc0 => ?_)
  · try simp at hc0
    refine awp_skip ?_
    show AWp cx _ _ _
    refine awp_seq ?_
    refine awp_block ?_
    refine awp_seq ?_
    refine rg ?_
    refine qv m_mv ?_
    refine qv m_as ?_
    show AWp cx _ _ _
    have hq : q < h.ground.length := by omega
    have hgq := ata_get (a := difQ h (fullL h 4) (stl h (fullL h 4)) q) (i := q) (by rw [difQ_len]; exact hq)
    have hkl := difQ_len (h := h) (F := (fullL h 4)) (C := (stl h (fullL h 4))) (q := q)
    have hgc := ata_get (a := (stl h (fullL h 4))) (i := q) (by rw [stl_len]; exact hq)
    have hsc := difQ_succ (F := (fullL h 4)) (C := (stl h (fullL h 4))) hq
    have hat := difQ_at (F := (fullL h 4)) (C := (stl h (fullL h 4))) (q := q) hq
    rw [if_neg (Nat.lt_irrefl q)] at hat
    have h1 := hf.hpg.nn q hq
    have h2 := hf.bd q hq
    have h3 := hsb.1 q hq
    refine rd mixed ?_
    refine zv m_mv ?_
    refine zv m_mv ?_
    refine zv (m_ixR el23 sz3) ?_
    refine zv (m_ldI sz3 ag3 (hq := hgq)) ?_
    refine zv m_mv ?_
    refine zv m_mv ?_
    refine zv (m_ixR el23 sz3) ?_
    refine zv (m_ldI sz3 ag3 (hq := hgc)) ?_
    refine zv m_sub ?_
    refine zv (m_ixR el23 sz3) ?_
    first | refine zs (m_stI sz3) ?_ | refine zs (m_st sz3) ?_
    refine ⟨by rfl, ?_⟩
    show AWp cx _ _ _
    refine rg ?_
    refine qv m_add ?_
    refine qv m_mv ?_
    exact ⟨q + 1, hq, (by simp only; omega), (tl [(3, 3), (4, 4)] (hF := by simp [FLe, svLe, lk, mkM, isLive, tauL, hsc, difQ_len, stl_len]) (hM := by simp [MLe, blkLe, svLe, svLes, lk, mkM, isLive, tauL, svLes_ints, svLes_self, isDvs, isDvs_map, isDvs_app, isDvs_take, isDvs_set, isDvs_repl, hsc, difQ_len, stl_len]))⟩
  · try simp at hc0
    obtain rfl : q = h.ground.length := by omega
    have hdf := difQ_full (h := h) (F := fullL h 4) (C := stl h (fullL h 4))
    refine awp_exit ?_
    show AWp cx _ _ _
    refine awp_seq ?_
    refine rg ?_
    refine qv m_mv ?_
    refine qv m_as ?_
    show AWp cx _ _ _
    refine awp_ret ?_
    exact x1 (hr := (rR_ hdf (hl := by rw [difQ_len])))
theorem f62 (h : Hp) (v : VH h) (a : List Int) (x : Half h a) : ACallsF Try.prog 62 [dHp h, ints a] (.one (rI (lastL h a))) := by
  have hnl := nothing_len (h := h)
  refine callsF_of Try.func62 rfl rfl (by rw [Try.ntmps62]; simp) fun cx hP hn hg => ?_
  rw [Try.ntmps62] at hn
  rw [startF_lk, none_mkM]
  simp only [List.nil_append, List.append_nil, List.cons_append, zipSV, Nat.reduceAdd]
  refine awp_seq ?_
  refine rg ?_
  refine qp m_box ?_
  refine qv m_as ?_
  show AWp cx _ _ _
  refine awp_seq ?_
  refine rd mixed ?_
  refine zv (m_ldpa sz25 ag25) ?_
  refine zv m_mv ?_
  refine zv (m_ldpa sz25 ag25) ?_
  refine zqF (R := []) (f92 h v) ?_
  refine zqF (R := [8]) (f75 h v a (nothingL h) x (nothing_half v)) ?_ (ha := (args_cons data_dv (args_cons data_dv (args_cons (data_ints (L := nothingL h) (by first | (simp [rst, mkM]; done) | (simp [rst, mkM] <;> rfl)) trivial rfl rfl rfl (fun _ => trivial)) args_nil))))
  refine zv m_as ?_
  refine ⟨by rfl, ?_⟩
  show AWp cx _ _ _
  refine awp_ret ?_
  exact x1 (hr := (rR_ (hl := by rw [last_len, stl_len])))
theorem f22 (h : Hp) (a : List Int) : ACallsF Try.prog 22 [dHp h, ints a] (.many [rI (lastR h a).1, .dv (i64 (lastR h a).2)]) := by
  refine callsF_of Try.func22 rfl rfl (by rw [Try.ntmps22]; simp) fun cx hP hn hg => ?_
  rw [Try.ntmps22] at hn
  rw [startF_lk, none_mkM]
  simp only [List.nil_append, List.append_nil, List.cons_append, zipSV, Nat.reduceAdd]
  refine awp_seq ?_
  refine rg ?_
  refine qp m_box ?_
  refine qv m_as ?_
  refine qv m_as ?_
  show AWp cx _ _ _
  refine awp_seq ?_
  refine awp_seq ?_
  refine rg ?_
  refine qv (m_ldpa sz25 ag25) ?_
  refine qv m_mv ?_
  refine qr (m_bsl el22 ze23 sz23) ?_
  refine qqF (f61 h [a] (by simp)) ?_ (ha := (args_cons data_dv (args_cons (data_rows (L := [a]) (by simp only [mkM, reduceIte, Nat.reduceEqDiff] <;> rfl) trivial rfl (fun _ => trivial)) args_nil)))
  refine qv m_as ?_
  show AWp cx _ _ _
  refine awp_seq ?_
  refine rg ?_
  refine qv m_mv ?_
  refine qv m_neq ?_
  show AWp cx _ _ _
  refine cd (fun hc0 => ?_) (fun hc0 => ?_)
  · skip
    have he0 : checkE h [a] ≠ 0 := by simpa using hc0
    refine awp_seq ?_
    refine rg ?_
    refine qv m_mv ?_
    refine qv m_as ?_
    refine qv m_as ?_
    show AWp cx _ _ _
    refine awp_ret ?_
    exact x2 (hr := (rN_ (by rw [last_bad he0]))) (hr' := (rI_ (by rw [last_bad he0])))
  · skip
    have he0 : checkE h [a] = 0 := by simpa using hc0
    obtain ⟨v, h30⟩ := check1 he0
    have h5 := v.n5
    have hal := h30.len
    have f := Fit.of30 h30
    refine awp_skip ?_
    show AWp cx _ _ _
    refine awp_seq ?_
    refine rg ?_
    refine qv (m_ldpa sz25 ag25) ?_
    refine qv m_mv ?_
    refine qqF (f62 h v a (Half.of30 h30)) ?_
    refine qv m_as ?_
    refine qv m_as ?_
    show AWp cx _ _ _
    refine awp_ret ?_
    exact x2 (hr := (rR_ (by rw [last_ok he0]) (hl := by rw [last_len]))) (hr' := (rI_ (by rw [last_ok he0])))
theorem f23 (h : Hp) (a b : List Int) : ACallsF Try.prog 23 [dHp h, ints a, ints b] (.many [.dv (.bool (alikeR h a b).1), .dv (i64 (alikeR h a b).2)]) := by
  refine callsF_of Try.func23 rfl rfl (by rw [Try.ntmps23]; simp) fun cx hP hn hg => ?_
  rw [Try.ntmps23] at hn
  rw [startF_lk, none_mkM]
  simp only [List.nil_append, List.append_nil, List.cons_append, zipSV, Nat.reduceAdd]
  refine awp_seq ?_
  refine rg ?_
  refine qp m_box ?_
  refine qv m_as ?_
  refine qv m_as ?_
  show AWp cx _ _ _
  refine awp_seq ?_
  refine awp_seq ?_
  refine rg ?_
  refine qv (m_ldpa sz25 ag25) ?_
  refine qv m_mv ?_
  refine qv m_mv ?_
  refine qr (m_bsl el22 ze23 sz23) ?_
  refine qqF (f61 h [a, b] (by simp)) ?_ (ha := (args_cons data_dv (args_cons (data_rows (L := [a, b]) (by simp only [mkM, reduceIte, Nat.reduceEqDiff] <;> rfl) trivial rfl (fun _ => trivial)) args_nil)))
  refine qv m_as ?_
  show AWp cx _ _ _
  refine awp_seq ?_
  refine rg ?_
  refine qv m_mv ?_
  refine qv m_neq ?_
  show AWp cx _ _ _
  refine cd (fun hc0 => ?_) (fun hc0 => ?_)
  · skip
    have he0 : checkE h [a, b] ≠ 0 := by simpa using hc0
    refine awp_seq ?_
    refine rg ?_
    refine qv m_mv ?_
    refine qv m_as ?_
    refine qv m_as ?_
    show AWp cx _ _ _
    refine awp_ret ?_
    exact x2 (hr := (rB_ (by rw [alike_bad he0]))) (hr' := (rI_ (by rw [alike_bad he0])))
  · skip
    have he0 : checkE h [a, b] = 0 := by simpa using hc0
    obtain ⟨v, h30, h30b⟩ := check2 he0
    have h5 := v.n5
    have hal := h30.len
    have hbl := h30b.len
    have ll1 := last_len (h := h) (a := a)
    have ll2 := last_len (h := h) (a := b)
    refine awp_skip ?_
    show AWp cx _ _ _
    refine awp_seq ?_
    refine rd mixed ?_
    refine zv (m_ldpa sz25 ag25) ?_
    refine zv m_mv ?_
    refine zqF (R := []) (f62 h v a (Half.of30 h30)) ?_
    refine zv (m_ldpa sz25 ag25) ?_
    refine zv m_mv ?_
    refine zqF (R := []) (f62 h v b (Half.of30 h30b)) ?_
    refine zqF (R := [19, 22]) (f63 (lastL h a) (lastL h b) (by omega)) ?_ (ha := (args_cons (data_ints (L := lastL h a) (by first | (simp [rst, mkM]; done) | (simp [rst, mkM] <;> rfl)) trivial rfl rfl rfl (fun _ => trivial)) (args_cons (data_ints (L := lastL h b) (by first | (simp [rst, mkM]; done) | (simp [rst, mkM] <;> rfl)) trivial rfl rfl rfl (fun _ => trivial)) args_nil)))
    refine zv m_as ?_
    refine zv m_as ?_
    refine ⟨by rfl, ?_⟩
    show AWp cx _ _ _
    refine awp_ret ?_
    exact x2 (hr := (rB_ (by rw [alike_ok he0]))) (hr' := (rI_ (by rw [alike_ok he0])))
theorem f32 (h : Hp) : ACallsF Try.prog 32 [dHp h] (.many [rI (zeroR h).1, .dv (i64 (zeroR h).2)]) := by
  refine callsF_of Try.func32 rfl rfl (by rw [Try.ntmps32]; simp) fun cx hP hn hg => ?_
  rw [Try.ntmps32] at hn
  rw [startF_lk, none_mkM]
  simp only [List.nil_append, List.append_nil, List.cons_append, zipSV, Nat.reduceAdd]
  refine awp_seq ?_
  refine rg ?_
  refine qp m_box ?_
  refine qv m_as ?_
  refine qv m_as ?_
  show AWp cx _ _ _
  refine awp_seq ?_
  refine awp_seq ?_
  refine rg ?_
  refine qv (m_ldpa sz25 ag25) ?_
  refine qqF (f24 h) ?_
  refine qv m_as ?_
  show AWp cx _ _ _
  refine awp_seq ?_
  refine rg ?_
  refine qv m_mv ?_
  refine qv m_neq ?_
  show AWp cx _ _ _
  refine cd (fun hc0 => ?_) (fun hc0 => ?_)
  · skip
    have he0 : validate h ≠ 0 := by simpa using hc0
    refine awp_seq ?_
    refine rg ?_
    refine qv m_mv ?_
    refine qv m_as ?_
    refine qv m_as ?_
    show AWp cx _ _ _
    refine awp_ret ?_
    exact x2 (hr := (rN_ (by rw [zero_bad he0]))) (hr' := (rI_ (by rw [zero_bad he0])))
  · skip
    have he0 : validate h = 0 := by simpa using hc0
    have v := vh_of he0
    have h5 := v.n5
    have hzl := last_len (h := h) (a := nil0 h)
    refine awp_skip ?_
    show AWp cx _ _ _
    refine awp_seq ?_
    refine rd mixed ?_
    refine zv (m_ldpa sz25 ag25) ?_
    refine zv (m_fdp fd25_1) ?_
    refine zv (m_ldp sz23 ag23) ?_
    refine zv (m_len il23) ?_
    refine zr (m_mkI el23 ze3 sz3 by3) ?_
    refine zqF (R := [14]) (f62 h v (nil0 h) (nil0_half h)) ?_ (ha := (args_cons data_dv (args_cons (data_ints (L := nil0 h) (by first | (simp [rst, mkM]; done) | (simp [rst, mkM] <;> rfl)) trivial (by simp [nil0]) rfl (by simp [nil0]) (fun _ => trivial)) args_nil)))
    refine zv m_as ?_
    refine zv m_as ?_
    refine ⟨by rfl, ?_⟩
    show AWp cx _ _ _
    refine awp_ret ?_
    exact x2 (hr := (rR_ (by rw [zero_ok he0]))) (hr' := (rI_ (by rw [zero_ok he0])))
end Go.Ab.Try
