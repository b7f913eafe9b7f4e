/- The functions of the heap laws, part 17. The walks are written by wip/gen/gw.py. -/
import Derived.Test.YtapabnafbfnjnaaHeapPC
import Derived.Test.YtapabnafbfnjnaaHeapPA
import Derived.Test.YtapabnafbfnjnaaHeapPT
import Derived.Test.YtapabnafbfnjnaaAbH
import Derived.Test.YtapabnafbfnjnaaHeapFacts
import Derived.Test.YtapabnafbfnjnaaHeapPT
set_option linter.all false
namespace Go.Ab.Try
open Go Go.Ab Go.Proofs Go.Ab.Heap

theorem src_row {t g n : Nat} {k : IntKind} {e : TypeId} {L : List Int} (hn : n = L.length) : srcSV 1 (.sl t g 0 n, some (rowK k e L)) = some (n, L.map fun q => .dv (.int k q)) := by
  subst hn
  have h1 : (((rowK k e L).cells.drop (0 * 1)).take (L.length * 1)) = L.map fun q => SV.dv (.int k q) := by
    show ((L.map fun q => SV.dv (.int k q)).drop (0 * 1)).take (L.length * 1) = _
    rw [Nat.zero_mul, List.drop_zero, Nat.mul_one, List.take_of_length_le (by simp)]
  have h2 : ((rowK k e L).cells.length) = L.length := by
    show (L.map fun q => SV.dv (.int k q)).length = _
    simp
  simp only [srcSV]
  rw [h1, if_pos]
  refine ⟨trivial, by rw [h2]; omega, ?_⟩
  rw [List.all_eq_true]
  intro c hc
  obtain ⟨q, _, rfl⟩ := List.mem_map.1 hc
  rfl
theorem src_rowT {t g n : Nat} {e : TypeId} {L : List Bool} (hn : n = L.length) : srcSV 1 (.sl t g 0 n, some (rowT e L)) = some (n, L.map fun q => .dv (.bool q)) := by
  subst hn
  have h1 : (((rowT e L).cells.drop (0 * 1)).take (L.length * 1)) = L.map fun q => SV.dv (.bool q) := by
    show ((L.map fun q => SV.dv (.bool q)).drop (0 * 1)).take (L.length * 1) = _
    rw [Nat.zero_mul, List.drop_zero, Nat.mul_one, List.take_of_length_le (by simp)]
  have h2 : ((rowT e L).cells.length) = L.length := by
    show (L.map fun q => SV.dv (.bool q)).length = _
    simp
  simp only [srcSV]
  rw [h1, h2, if_pos]
  refine ⟨trivial, by omega, ?_⟩
  rw [List.all_eq_true]
  intro c hc
  obtain ⟨q, _, rfl⟩ := List.mem_map.1 hc
  rfl
def outI (l : List Nat) : List Int := l.map fun (i : Nat) => (i : Int)
theorem outI_len {l : List Nat} : (outI l).length = l.length := by simp [outI]
theorem outI_nil : outI [] = [] := rfl
theorem outI_app {a b : List Nat} : outI (a ++ b) = outI a ++ outI b := by simp [outI]
theorem outI_one {x : Nat} : outI [x] = [(x : Int)] := rfl
theorem outI_get {l : List Nat} {q x : Nat} (h : l[q]? = some x) : (outI l)[q]? = some (x : Int) := by simp [outI, h]
def outB (h : Hp) (out : List Nat) : List Bool := (List.range h.ground.length).map (inB out)
theorem outB_len {h : Hp} {out : List Nat} : (outB h out).length = h.ground.length := by simp [outB]
theorem outB_get {h : Hp} {out : List Nat} {i : Nat} (hi : i < h.ground.length) : (outB h out)[i]? = some (inB out i) := by simp [outB, hi]
theorem outB_nil {h : Hp} : outB h [] = List.replicate h.ground.length false := by
  unfold outB
  apply List.ext_getElem
  · simp
  · intro i h1 h2; simp [inB]
theorem outB_set {h : Hp} {out : List Nat} {x : Nat} (hx : x < h.ground.length) : (outB h out).set x true = outB h (out ++ [x]) := by
  apply List.ext_getElem
  · simp [outB]
  · intro j h1 h2
    rw [List.getElem_set]
    simp only [outB, List.getElem_map, List.getElem_range, inB_app]
    by_cases e : x = j
    · subst e; rw [if_pos rfl]; simp [inB]
    · rw [if_neg e]; simp [inB, Ne.symm e]
theorem outB_two {h : Hp} {a b : List Nat} {p : Nat} (hp : p < h.ground.length) : (outB h (a ++ b)).set p true = outB h (a ++ (b ++ [p])) := by rw [outB_set hp, List.append_assoc]
/-- Those that burn next, among the first p. -/
def nbQ (h : Hp) (a : List Int) (out : List Nat) (p : Nat) : List Nat := (List.range p).filter fun i => !inB out i && burnsAt h a (inB out) i
theorem nbQ_full {h : Hp} {a : List Int} {out : List Nat} : nbQ h a out h.ground.length = nextB h a (inB out) := rfl
theorem nbQ_zero {h : Hp} {a : List Int} {out : List Nat} : nbQ h a out 0 = [] := rfl
theorem nbQ_yes {h : Hp} {a : List Int} {out : List Nat} {p : Nat} (h1 : inB out p = false) (h2 : burnsAt h a (inB out) p = true) : nbQ h a out (p + 1) = nbQ h a out p ++ [p] := by
  unfold nbQ; rw [List.range_succ, List.filter_append]; simp [h1, h2]
theorem nbQ_no {h : Hp} {a : List Int} {out : List Nat} {p : Nat} (h1 : inB out p = true ∨ burnsAt h a (inB out) p = false) : nbQ h a out p = nbQ h a out (p + 1) := by
  unfold nbQ; rw [List.range_succ, List.filter_append]
  rcases h1 with h1 | h1 <;> simp [h1]
theorem nbQ_len {h : Hp} {a : List Int} {out : List Nat} {p : Nat} : (nbQ h a out p).length ≤ p := by
  unfold nbQ; exact Nat.le_trans (List.length_filter_le _ _) (by simp)
theorem nbQ_lt {h : Hp} {a : List Int} {out : List Nat} {p x : Nat} (hx : x ∈ nbQ h a out p) : x < p := by
  unfold nbQ at hx; simp at hx; exact hx.1
/-- What a heap leans on. -/
def lean (h : Hp) (out : List Nat) (p k : Nat) : Int := sm (fun k => if inB out k then 0 else lnk h p k) k
theorem lean_yes {h : Hp} {out : List Nat} {p k : Nat} (e : inB out k = true) : lean h out p k = lean h out p (k + 1) := by
  show _ = lean h out p k + (if inB out k then 0 else lnk h p k)
  rw [if_pos e]; omega
theorem lean_no {h : Hp} {out : List Nat} {p k : Nat} (e : inB out k = false) : lean h out p (k + 1) = lean h out p k + lnk h p k := by
  show lean h out p k + (if inB out k then 0 else lnk h p k) = _
  rw [if_neg (by simp [e])]
theorem lean_bd {h : Hp} (v : VH h) {out : List Nat} {p k : Nat} (hp : p < h.ground.length) (hk : k ≤ h.ground.length) : 0 ≤ lean h out p k ∧ lean h out p k ≤ 10 := by
  have h5 := v.n5
  have h1 := sm_nonneg (f := fun k => if inB out k then 0 else lnk h p k) (n := k) fun j hj => by
    have := (v.lb p j hp (by omega)).1
    (try dsimp only); split <;> omega
  have h2 := sm_le (f := fun k => if inB out k then 0 else lnk h p k) (g := fun _ => 2) (n := k) fun j hj => by
    have := (v.lb p j hp (by omega)).2
    (try dsimp only); split <;> omega
  rw [sm_const] at h2
  unfold lean; omega
theorem burnsAt_iff {h : Hp} {a : List Int} {out : List Nat} {p : Nat} : burnsAt h a (inB out) p = true ↔ lean h out p h.ground.length ≤ ata a p := by unfold burnsAt lean; rw [decide_eq_true_eq]
theorem bst_len {h : Hp} {a : List Int} {out : List Nat} (b : Bst h a out) : out.length ≤ h.ground.length := by have := b.cnt; omega
theorem next_len {h : Hp} {a : List Int} {out : List Nat} (b : Bst h a out) : out.length + (nextB h a (inB out)).length ≤ h.ground.length := by
  have h1 := b.cnt
  have h2 := frees_step h a out
  omega
def burnR (h : Hp) (a : List Int) : List Int × Int := if checkE h [a] ≠ 0 then ([], checkE h [a]) else (burnL h a, 0)
theorem burn_bad {h : Hp} {a : List Int} (e : checkE h [a] ≠ 0) : burnR h a = ([], checkE h [a]) := by unfold burnR; rw [if_pos e]
theorem burn_ok {h : Hp} {a : List Int} (e : checkE h [a] = 0) : burnR h a = (burnL h a, 0) := by unfold burnR; rw [if_neg (by simp [e])]
/-- Does a heaping last? -/
def lastsD (h : Hp) (a : List Int) : Bool := calmD h a && decide ((burnL h a).length = h.ground.length)
theorem lastsD_iff {h : Hp} (v : VH h) {a : List Int} : lastsD h a = true ↔ Rec h a := by
  unfold lastsD Rec
  rw [Bool.and_eq_true, calmD_iff, decide_eq_true_eq, burnL_len, burn_all v]
theorem lasts_calm {h : Hp} {a : List Int} (e : calmD h a = false) : lastsD h a = false := by unfold lastsD; rw [e]; rfl
def lastsR (h : Hp) (a : List Int) : Bool × Int := if checkE h [a] ≠ 0 then (false, checkE h [a]) else (lastsD h a, 0)
theorem lasts_bad {h : Hp} {a : List Int} (e : checkE h [a] ≠ 0) : lastsR h a = (false, checkE h [a]) := by unfold lastsR; rw [if_pos e]
theorem lasts_ok {h : Hp} {a : List Int} (e : checkE h [a] = 0) : lastsR h a = (lastsD h a, 0) := by unfold lastsR; rw [if_neg (by simp [e])]


set_option maxHeartbeats 8000000 in
theorem f68 (h : Hp) (v : VH h) (a : List Int) (x : Hpg30 h a) : ACallsF Try.prog 68 [dHp h, ints a] (.one (rI (burnL h a))) := by
  have h5 := v.n5
  have hal := x.len
  refine callsF_of Try.func68 rfl rfl (by rw [Try.ntmps68]; simp) fun cx hP hn hg => ?_
  rw [Try.ntmps68] at hn
  rw [startF_lk, none_mkM]
  simp only [List.nil_append, List.append_nil, List.cons_append, zipSV, Nat.reduceAdd]
  refine awp_seq ?_
  refine rg ?_
  refine qp m_box ?_
  refine qv m_as ?_
  show AWp cx _ _ _
  refine awp_seq ?_
  refine rg ?_
  refine qv m_mv ?_
  refine qv (m_len il23) ?_
  refine qr (m_mkB el72 ze4 sz4 by4) ?_
  refine qv m_as ?_
  show AWp cx _ _ _
  refine awp_seq ?_
  refine rg ?_
  refine qv m_as ?_
  show AWp cx _ _ _
  refine awp_block ?_
  refine awp_loop (ι := List Nat) (fun out => ⟨lk [(1, .dv (ints (a))), (2, .pt 2 0 0), (5, .sl 5 0 0 h.ground.length), (6, .sl 6 0 0 out.length)], mkM [(2, 0, some ⟨[.dv (.list ((h.links).map ints)), .dv (ints (h.ground))], 0, 25, 0, false⟩), (5, 0, some (rowT 4 (outB h out))), (6, 0, some (rowI (outI out)))]⟩) (fun out => Bst h a out) (fun out => h.ground.length - out.length) [] (Bst.start h a) (tl [(2, 2), (5, 16)] (hF := by simp [FLe, svLe, lk, mkM, isLive, tauL, outI_nil, outB_nil, hal]) (hM := by simp [MLe, blkLe, svLe, svLes, lk, mkM, isLive, tauL, svLes_ints, svLes_self, isDvs, isDvs_map, isDvs_app, isDvs_take, isDvs_set, isDvs_repl, outI_nil, outB_nil, hal])) ?_
  intro out hφ0
  have hbl := bst_len hφ0
  have hol := outI_len (l := out)
  have hob := outB_len (h := h) (out := out)
  refine awp_block ?_
  refine awp_seq ?_
  refine rg ?_
  refine qv m_as ?_
  show AWp cx _ _ _
  refine awp_seq ?_
  refine awp_seq ?_
  refine rg ?_
  refine qv m_mv ?_
  refine qv (m_len il23) ?_
  refine qv m_mv ?_
  show AWp cx _ _ _
  refine awp_block ?_
  refine awp_loop (ι := Nat) (fun p => ⟨lk [(1, .dv (ints (a))), (2, .pt 2 0 0), (5, .sl 5 0 0 h.ground.length), (6, .sl 6 0 0 out.length), (7, .sl 7 0 0 ((outI (nbQ h a out p)).length)), (17, .dv (ints (a))), (18, .dv (i64 ((a.length : Int)))), (19, .dv (i64 (p : Nat)))], mkM [(2, 0, some ⟨[.dv (.list ((h.links).map ints)), .dv (ints (h.ground))], 0, 25, 0, false⟩), (5, 0, some (rowT 4 (outB h out))), (6, 0, some (rowI (outI out))), (7, 0, some (rowI (outI (nbQ h a out p))))]⟩) (fun p => p ≤ h.ground.length) (fun p => h.ground.length - p) 0 (by simp) (tl [(2, 2), (5, 5), (6, 6)] (hF := by simp [FLe, svLe, lk, mkM, isLive, tauL, nbQ_zero, outI_nil]) (hM := by simp [MLe, blkLe, svLe, svLes, lk, mkM, isLive, tauL, svLes_ints, svLes_self, isDvs, isDvs_map, isDvs_app, isDvs_take, isDvs_set, isDvs_repl, nbQ_zero, outI_nil])) ?_
  intro p hφ1
  refine awp_seq ?_
  refine rg ?_
  refine qv m_lss ?_
  show AWp cx _ _ _
  refine awp_seq ?_
  refine cd (fun hc0 => ?_) (fun hc0 => ?_)
  · try simp at hc0
    refine awp_skip ?_
    show AWp cx _ _ _
    refine awp_seq ?_
    refine awp_block ?_
    refine awp_seq ?_
    have hp : p < h.ground.length := by omega
    have hga := ata_get (a := a) (i := p) (by omega)
    have hbp := x.bd p hp
    have hgl := v.get hp
    have hrl := v.row p hp
    have hbB := outB_get (h := h) (out := out) hp
    have hnl := nbQ_len (h := h) (a := a) (out := out) (p := p)
    have hil := outI_len (l := nbQ h a out p)
    refine rg ?_
    refine qv m_mv ?_
    first | refine qv (m_ixN el23 sz3) ?_ | refine qv (m_ix el23 sz3) ?_
    refine qv (m_ld sz3 ag3) ?_
    refine qv m_as ?_
    refine qv m_as ?_
    show AWp cx _ _ _
    refine awp_seq ?_
    refine awp_seq ?_
    refine rg ?_
    refine qv m_mv ?_
    refine qv m_mv ?_
    refine qv (m_ixR el72 sz4) ?_
    refine qv (m_ldB sz4 ag4 (hq := hbB)) ?_
    show AWp cx _ _ _
    refine cd (fun hc1 => ?_) (fun hc1 => ?_)
    · skip
      have hnb := nbQ_no (h := h) (a := a) (.inl hc1)
      refine awp_exit ?_
      show AWp cx _ _ _
      refine rg ?_
      refine qv m_add ?_
      refine qv m_mv ?_
      exact ⟨p + 1, hp, (by simp only; omega), (tl [(2, 2), (5, 5), (6, 6), (7, 7)] (hF := by simp [FLe, svLe, lk, mkM, isLive, tauL, hnb, outI_app, outI_one, outI_len]) (hM := by simp [MLe, blkLe, svLe, svLes, lk, mkM, isLive, tauL, svLes_ints, svLes_self, isDvs, isDvs_map, isDvs_app, isDvs_take, isDvs_set, isDvs_repl, hnb, outI_app, outI_one, outI_len]))⟩
    · skip
      have hc1f : inB out p = false := by simpa using hc1
      refine awp_skip ?_
      show AWp cx _ _ _
      refine awp_seq ?_
      refine awp_seq ?_
      refine rg ?_
      refine qv (m_fdp fd25_0) ?_
      refine qv (m_ldp sz22 ag22) ?_
      refine qv m_mv ?_
      first | refine qv (m_ixN el22 sz23) ?_ | refine qv (m_ix el22 sz23) ?_
      refine qv (m_ld sz23 ag23) ?_
      refine qv (m_len il23) ?_
      refine qv m_mv ?_
      show AWp cx _ _ _
      refine awp_block ?_
      refine awp_loop (ι := Nat) (fun k => ⟨lk [(1, .dv (ints (a))), (2, .pt 2 0 0), (5, .sl 5 0 0 h.ground.length), (6, .sl 6 0 0 out.length), (7, .sl 7 0 0 (outI (nbQ h a out p)).length), (8, .dv (i64 (p : Nat))), (9, .dv (i64 (ata a p - lean h out p k))), (17, .dv (ints (a))), (18, .dv (i64 ((a.length : Int)))), (19, .dv (i64 (p : Nat))), (32, .dv (ints (lrow h p))), (33, .dv (i64 (((lrow h p).length : Int)))), (34, .dv (i64 (k : Nat)))], mkM [(2, 0, some ⟨[.dv (.list ((h.links).map ints)), .dv (ints (h.ground))], 0, 25, 0, false⟩), (5, 0, some (rowT 4 (outB h out))), (6, 0, some (rowI (outI out))), (7, 0, some (rowI (outI (nbQ h a out p))))]⟩) (fun k => k ≤ h.ground.length) (fun k => h.ground.length - k) 0 (by simp) (tl [(2, 2), (5, 5), (6, 6), (7, 7)] (hF := by simp [FLe, svLe, lk, mkM, isLive, tauL, lean, sm]) (hM := by simp [MLe, blkLe, svLe, svLes, lk, mkM, isLive, tauL, svLes_ints, svLes_self, isDvs, isDvs_map, isDvs_app, isDvs_take, isDvs_set, isDvs_repl, lean, sm])) ?_
      intro k hφ2
      refine awp_seq ?_
      refine rg ?_
      refine qv m_lss ?_
      show AWp cx _ _ _
      refine awp_seq ?_
      refine cd (fun hc2 => ?_) (fun hc2 => ?_)
      · try simp at hc2
        refine awp_skip ?_
        show AWp cx _ _ _
        refine awp_seq ?_
        refine awp_block ?_
        refine awp_seq ?_
        have hk : k < h.ground.length := by omega
        have hl2 := v.get2 hp hk
        have hlb := v.lb p k hp hk
        have hbK := outB_get (h := h) (out := out) hk
        have hlbd := lean_bd v (out := out) hp (show k ≤ h.ground.length by omega)
        refine rg ?_
        refine qv m_mv ?_
        first | refine qv (m_ixN el23 sz3) ?_ | refine qv (m_ix el23 sz3) ?_
        refine qv (m_ld sz3 ag3) ?_
        refine qv m_as ?_
        refine qv m_as ?_
        show AWp cx _ _ _
        refine awp_seq ?_
        refine rg ?_
        refine qv m_mv ?_
        refine qv m_mv ?_
        refine qv (m_ixR el72 sz4) ?_
        refine qv (m_ldB sz4 ag4 (hq := hbK)) ?_
        refine qv m_not ?_
        show AWp cx _ _ _
        refine cd (fun hc3 => ?_) (fun hc3 => ?_)
        · skip
          have hkf : inB out k = false := by simpa using hc3
          have hln := lean_no (h := h) (p := p) hkf
          have hln : ata a p - lean h out p k - lnk h p k = ata a p - lean h out p (k + 1) := by omega
          refine rg ?_
          refine qv m_mv ?_
          refine qv m_mv ?_
          refine qv m_sub ?_
          refine qv m_as ?_
          show AWp cx _ _ _
          refine rg ?_
          refine qv m_add ?_
          refine qv m_mv ?_
          exact ⟨k + 1, hk, (by simp only; omega), (tl [(2, 2), (5, 5), (6, 6), (7, 7)] (hF := by simp [FLe, svLe, lk, mkM, isLive, tauL, hln]) (hM := by simp [MLe, blkLe, svLe, svLes, lk, mkM, isLive, tauL, svLes_ints, svLes_self, isDvs, isDvs_map, isDvs_app, isDvs_take, isDvs_set, isDvs_repl, hln]))⟩
        · skip
          have hkt : inB out k = true := by simpa using hc3
          have hln := lean_yes (h := h) (p := p) hkt
          refine awp_skip ?_
          show AWp cx _ _ _
          refine rg ?_
          refine qv m_add ?_
          refine qv m_mv ?_
          exact ⟨k + 1, hk, (by simp only; omega), (tl [(2, 2), (5, 5), (6, 6), (7, 7)] (hF := by simp [FLe, svLe, lk, mkM, isLive, tauL, hln]) (hM := by simp [MLe, blkLe, svLe, svLes, lk, mkM, isLive, tauL, svLes_ints, svLes_self, isDvs, isDvs_map, isDvs_app, isDvs_take, isDvs_set, isDvs_repl, hln]))⟩
      · try simp at hc2
        obtain rfl : k = h.ground.length := by omega
        refine awp_exit ?_
        show AWp cx _ _ _
        refine awp_seq ?_
        refine rg ?_
        refine qv m_mv ?_
        refine qv m_geq ?_
        show AWp cx _ _ _
        refine cd (fun hc4 => ?_) (fun hc4 => ?_)
        · try simp at hc4
          have hbt : burnsAt h a (inB out) p = true := burnsAt_iff.2 (by omega)
          have hnb := nbQ_yes hc1f hbt
          refine rg ?_
          refine qv m_mv ?_
          refine qv m_mv ?_
          refine qr (m_bsl el23 ze3 sz3) ?_
          refine qa1 (m_app1 el23 el23 ze3 sz3 by3) ?_
          refine qv m_as ?_
          show AWp cx _ _ _
          refine rg ?_
          refine qv m_add ?_
          refine qv m_mv ?_
          exact ⟨p + 1, hp, (by simp only; omega), (tl [(2, 2), (5, 5), (6, 6), (7, 53)] (hF := by simp [FLe, svLe, lk, mkM, isLive, tauL, hnb, outI_app, outI_one, outI_len]) (hM := by simp [MLe, blkLe, svLe, svLes, lk, mkM, isLive, tauL, svLes_ints, svLes_self, isDvs, isDvs_map, isDvs_app, isDvs_take, isDvs_set, isDvs_repl, hnb, outI_app, outI_one, outI_len]))⟩
        · try simp at hc4
          have hbf : burnsAt h a (inB out) p = false := by
            rw [Bool.eq_false_iff]; intro hh; have := burnsAt_iff.1 hh; omega
          have hnb := nbQ_no (h := h) (a := a) (.inr hbf)
          refine awp_skip ?_
          show AWp cx _ _ _
          refine rg ?_
          refine qv m_add ?_
          refine qv m_mv ?_
          exact ⟨p + 1, hp, (by simp only; omega), (tl [(2, 2), (5, 5), (6, 6), (7, 7)] (hF := by simp [FLe, svLe, lk, mkM, isLive, tauL, hnb, outI_app, outI_one, outI_len]) (hM := by simp [MLe, blkLe, svLe, svLes, lk, mkM, isLive, tauL, svLes_ints, svLes_self, isDvs, isDvs_map, isDvs_app, isDvs_take, isDvs_set, isDvs_repl, hnb, outI_app, outI_one, outI_len]))⟩
  · try simp at hc0
    obtain rfl : p = h.ground.length := by omega
    have hnf := nbQ_full (h := h) (a := a) (out := out)
    rw [hnf]
    have hil := outI_len (l := nextB h a (inB out))
    have hnx := next_len hφ0
    refine awp_exit ?_
    show AWp cx _ _ _
    refine awp_seq ?_
    refine awp_seq ?_
    refine rg ?_
    refine qv m_mv ?_
    refine qv (m_lenR il23) ?_
    refine qv m_eql ?_
    show AWp cx _ _ _
    refine cd (fun hc5 => ?_) (fun hc5 => ?_)
    · skip
      have hne : nextB h a (inB out) = [] := List.eq_nil_of_length_eq_zero (by simpa [outI_len] using hc5)
      have hst := hφ0.stop hne
      refine awp_seq ?_
      refine rg ?_
      refine qv m_mv ?_
      refine qv m_as ?_
      show AWp cx _ _ _
      refine awp_ret ?_
      exact x1 (hr := (rR_ (L := outI out) (by show outI out = outI (burnN h a); rw [hst]) (hl := by simp [outI])))
    · skip
      have hne : nextB h a (inB out) ≠ [] := fun hh => by rw [hh] at hc5; simp [outI] at hc5
      refine awp_skip ?_
      show AWp cx _ _ _
      refine awp_seq ?_
      refine awp_seq ?_
      refine rg ?_
      refine qv m_mv ?_
      refine qv (m_lenR il23) ?_
      refine qv m_mv ?_
      show AWp cx _ _ _
      refine awp_block ?_
      refine awp_loop (ι := Nat) (fun q => ⟨lk [(1, .dv (ints (a))), (2, .pt 2 0 0), (5, .sl 5 0 0 h.ground.length), (6, .sl 6 0 0 out.length), (7, .sl 7 0 0 (outI (nextB h a (inB out))).length), (59, .sl 7 0 0 (outI (nextB h a (inB out))).length), (60, .dv (i64 (((outI (nextB h a (inB out))).length : Nat)))), (61, .dv (i64 (q : Nat)))], mkM [(2, 0, some ⟨[.dv (.list ((h.links).map ints)), .dv (ints (h.ground))], 0, 25, 0, false⟩), (5, 0, some (rowT 4 (outB h (out ++ (nextB h a (inB out)).take q)))), (6, 0, some (rowI (outI out))), (7, 0, some (rowI (outI (nextB h a (inB out)))))]⟩) (fun q => q ≤ (nextB h a (inB out)).length) (fun q => (nextB h a (inB out)).length - q) 0 (by simp) (tl [(2, 2), (5, 5), (6, 6), (7, 7)] (hF := by simp [FLe, svLe, lk, mkM, isLive, tauL, List.take_zero, List.append_nil]) (hM := by simp [MLe, blkLe, svLe, svLes, lk, mkM, isLive, tauL, svLes_ints, svLes_self, isDvs, isDvs_map, isDvs_app, isDvs_take, isDvs_set, isDvs_repl, List.take_zero, List.append_nil])) ?_
      intro q hφ3
      refine awp_seq ?_
      refine rg ?_
      refine qv m_lss ?_
      show AWp cx _ _ _
      refine awp_seq ?_
      refine cd (fun hc6 => ?_) (fun hc6 => ?_)
      · try simp at hc6
        refine awp_skip ?_
        show AWp cx _ _ _
        refine awp_seq ?_
        refine awp_block ?_
        refine awp_seq ?_
        obtain ⟨y, hy⟩ : ∃ y, (nextB h a (inB out))[q]? = some y := ⟨_, List.getElem?_eq_getElem (by omega)⟩
        have hyl := (nextB_mem.1 (List.mem_of_getElem? hy)).1
        have hgy := outI_get hy
        have hob2 := outB_len (h := h) (out := out ++ (nextB h a (inB out)).take q)
        have hsq : (outB h (out ++ (nextB h a (inB out)).take q)).set y true = outB h (out ++ (nextB h a (inB out)).take (q + 1)) := by
          rw [outB_set hyl, List.append_assoc, ← take_snoc hy]
        refine rg ?_
        refine qv (m_ixR el23 sz3) ?_
        refine qv (m_ldI sz3 ag3 (hq := hgy)) ?_
        refine qv m_as ?_
        show AWp cx _ _ _
        refine rg ?_
        refine qv m_mv ?_
        refine qv m_mv ?_
        refine qv (m_ixR el72 sz4) ?_
        refine qs (m_stB sz4) ?_
        show AWp cx _ _ _
        refine rg ?_
        refine qv m_add ?_
        refine qv m_mv ?_
        exact ⟨q + 1, (by omega), (by simp only; omega), (tl [(2, 2), (5, 5), (6, 6), (7, 7)] (hF := by simp [FLe, svLe, lk, mkM, isLive, tauL, hsq, outB_len]) (hM := by simp [MLe, blkLe, svLe, svLes, lk, mkM, isLive, tauL, svLes_ints, svLes_self, isDvs, isDvs_map, isDvs_app, isDvs_take, isDvs_set, isDvs_repl, hsq, outB_len]))⟩
      · try simp at hc6
        obtain rfl : q = (nextB h a (inB out)).length := by omega
        have hsb : (nextB h a (inB out)).take (nextB h a (inB out)).length = nextB h a (inB out) := List.take_length
        refine awp_exit ?_
        show AWp cx _ _ _
        refine rg ?_
        refine qv m_mv ?_
        refine qv m_mv ?_
        refine qa1 (m_app1 el23 el23 ze3 sz3 by3 (hx := by simp only [St.look, St.ev, lk, mkM, blkOf, svOf, svOfCell, reduceIte, Nat.reduceAdd, Nat.reduceEqDiff, Nat.reduceMul]; exact src_row rfl)) ?_
        refine qv m_as ?_
        exact ⟨out ++ nextB h a (inB out), (hφ0.step hne), (hφ0.less hne), (tl [(2, 2), (5, 5), (6, 71)] (hF := by simp [FLe, svLe, lk, mkM, isLive, tauL, hsb, outI_app, outB_len, outI_len]) (hM := by simp [MLe, blkLe, svLe, svLes, lk, mkM, isLive, tauL, svLes_ints, svLes_self, isDvs, isDvs_map, isDvs_app, isDvs_take, isDvs_set, isDvs_repl, hsb, outI_app, outB_len, outI_len]))⟩

set_option maxHeartbeats 8000000 in
theorem f91 (h : Hp) (v : VH h) (a : List Int) (x : Hpg30 h a) : ACallsF Try.prog 91 [dHp h, ints a] (.one (rI (burnL h a))) := by
  have h5 := v.n5
  have hal := x.len
  refine callsF_of Try.func91 rfl rfl (by rw [Try.ntmps91]; simp) fun cx hP hn hg => ?_
  rw [Try.ntmps91] at hn
  rw [startF_lk, none_mkM]
  simp only [List.nil_append, List.append_nil, List.cons_append, zipSV, Nat.reduceAdd]
  refine awp_seq ?_
  refine rg ?_
  refine qp m_box ?_
  refine qv m_as ?_
  show AWp cx _ _ _
  refine awp_seq ?_
  refine rg ?_
  refine qv m_as ?_
  show AWp cx _ _ _
  refine awp_seq ?_
  refine rg ?_
  refine qv m_mv ?_
  refine qv (m_len il23) ?_
  refine qr (m_mkB el72 ze4 sz4 by4) ?_
  refine qv m_as ?_
  show AWp cx _ _ _
  refine awp_seq ?_
  refine awp_seq ?_
  refine rg ?_
  refine qv m_as ?_
  show AWp cx _ _ _
  refine awp_block ?_
  refine awp_loop (ι := List Nat × Bool) (fun s => ⟨lk [(1, .dv (ints (a))), (2, .pt 2 0 0), (5, .sl 5 0 0 s.1.length), (6, .sl 6 0 0 h.ground.length), (7, .dv (.bool s.2))], mkM [(2, 0, some ⟨[.dv (.list ((h.links).map ints)), .dv (ints (h.ground))], 0, 25, 0, false⟩), (5, 0, some (rowI (outI s.1))), (6, 0, some (rowT 4 (outB h s.1)))]⟩) (fun s => Bst h a s.1 ∧ (s.2 = false → nextB h a (inB s.1) = [])) (fun s => h.ground.length - s.1.length + (if s.2 then 1 else 0)) ([], true) ⟨Bst.start h a, fun hh => by cases hh⟩ (tl [(2, 2), (6, 14)] (hF := by simp [FLe, svLe, lk, mkM, isLive, tauL, outI_nil, outB_nil, hal]) (hM := by simp [MLe, blkLe, svLe, svLes, lk, mkM, isLive, tauL, svLes_ints, svLes_self, isDvs, isDvs_map, isDvs_app, isDvs_take, isDvs_set, isDvs_repl, outI_nil, outB_nil, hal])) ?_
  intro ⟨out, mr⟩ hφ0
  dsimp only at hφ0 ⊢
  have hbl := bst_len hφ0.1
  have hol := outI_len (l := out)
  have hob := outB_len (h := h) (out := out)
  refine awp_seq ?_
  refine awp_seq ?_
  refine rg ?_
  refine qv m_mv ?_
  show AWp cx _ _ _
  refine cd (fun hc0 => ?_) (fun hc0 => ?_)
  · skip
    have hmr : mr = true := by simpa using hc0
    refine awp_skip ?_
    show AWp cx _ _ _
    refine awp_block ?_
    refine awp_seq ?_
    refine rg ?_
    refine qv m_as ?_
    show AWp cx _ _ _
    refine awp_seq ?_
    refine rg ?_
    refine qr (m_bsl el72 ze4 sz4) ?_
    refine qv m_mv ?_
    refine qa1 (m_app1 el72 el72 ze4 sz4 by4 (hx := by simp only [St.look, St.ev, lk, mkM, blkOf, svOf, svOfCell, reduceIte, Nat.reduceAdd, Nat.reduceEqDiff, Nat.reduceMul]; exact src_rowT hob.symm)) ?_
    refine qv m_as ?_
    show AWp cx _ _ _
    refine awp_seq ?_
    refine awp_seq ?_
    refine rg ?_
    refine qv m_as ?_
    show AWp cx _ _ _
    refine awp_block ?_
    refine awp_loop (ι := Nat) (fun p => ⟨lk [(1, .dv (ints (a))), (2, .pt 2 0 0), (5, .sl 5 0 0 ((out ++ nbQ h a out p).length)), (6, .sl 6 0 0 h.ground.length), (7, .dv (.bool (decide (nbQ h a out p ≠ [])))), (8, .sl 8 0 0 h.ground.length), (9, .dv (i64 (p : Nat)))], mkM [(2, 0, some ⟨[.dv (.list ((h.links).map ints)), .dv (ints (h.ground))], 0, 25, 0, false⟩), (5, 0, some (rowI (outI (out ++ nbQ h a out p)))), (6, 0, some (rowT 4 (outB h out))), (8, 0, some (rowT 4 (outB h (out ++ nbQ h a out p))))]⟩) (fun p => p ≤ h.ground.length) (fun p => h.ground.length - p) 0 (by simp) (tl [(2, 2), (5, 5), (6, 6), (8, 18)] (hF := by simp [FLe, svLe, lk, mkM, isLive, tauL, nbQ_zero, List.append_nil, outB_len]) (hM := by simp [MLe, blkLe, svLe, svLes, lk, mkM, isLive, tauL, svLes_ints, svLes_self, isDvs, isDvs_map, isDvs_app, isDvs_take, isDvs_set, isDvs_repl, nbQ_zero, List.append_nil, outB_len])) ?_
    intro p hφ1
    refine awp_seq ?_
    refine awp_seq ?_
    refine rg ?_
    refine qv m_mv ?_
    refine qv m_mv ?_
    refine qv (m_len il23) ?_
    refine qv m_lss ?_
    show AWp cx _ _ _
    refine cd (fun hc1 => ?_) (fun hc1 => ?_)
    · try simp at hc1
      have hp : p < h.ground.length := by omega
      have hga := ata_get (a := a) (i := p) (by omega)
      have hbp := x.bd p hp
      have hgl := v.get hp
      have hrl := v.row p hp
      have hbB := outB_get (h := h) (out := out) hp
      have hnl := nbQ_len (h := h) (a := a) (out := out) (p := p)
      have hil := outI_len (l := out ++ nbQ h a out p)
      have hpl : (out ++ nbQ h a out p).length = out.length + (nbQ h a out p).length := List.length_append
      have hob2 := outB_len (h := h) (out := out ++ nbQ h a out p)
      refine awp_skip ?_
      show AWp cx _ _ _
      refine awp_seq ?_
      refine awp_block ?_
      refine awp_seq ?_
      refine rg ?_
      refine qv m_as ?_
      show AWp cx _ _ _
      refine awp_seq ?_
      refine awp_seq ?_
      refine rg ?_
      refine qv m_as ?_
      show AWp cx _ _ _
      refine awp_block ?_
      refine awp_loop (ι := Nat) (fun k => ⟨lk [(1, .dv (ints (a))), (2, .pt 2 0 0), (5, .sl 5 0 0 (out ++ nbQ h a out p).length), (6, .sl 6 0 0 h.ground.length), (7, .dv (.bool (decide (nbQ h a out p ≠ [])))), (8, .sl 8 0 0 h.ground.length), (9, .dv (i64 (p : Nat))), (10, .dv (i64 (lean h out p k))), (11, .dv (i64 (k : Nat)))], mkM [(2, 0, some ⟨[.dv (.list ((h.links).map ints)), .dv (ints (h.ground))], 0, 25, 0, false⟩), (5, 0, some (rowI (outI (out ++ nbQ h a out p)))), (6, 0, some (rowT 4 (outB h out))), (8, 0, some (rowT 4 (outB h (out ++ nbQ h a out p))))]⟩) (fun k => k ≤ h.ground.length) (fun k => h.ground.length - k) 0 (by simp) (tl [(2, 2), (5, 5), (6, 6), (8, 8)] (hF := by simp [FLe, svLe, lk, mkM, isLive, tauL, lean, sm]) (hM := by simp [MLe, blkLe, svLe, svLes, lk, mkM, isLive, tauL, svLes_ints, svLes_self, isDvs, isDvs_map, isDvs_app, isDvs_take, isDvs_set, isDvs_repl, lean, sm])) ?_
      intro k hφ2
      refine awp_seq ?_
      refine awp_seq ?_
      refine rg ?_
      refine qv m_mv ?_
      refine qv m_mv ?_
      refine qv (m_len il23) ?_
      refine qv m_lss ?_
      show AWp cx _ _ _
      refine cd (fun hc2 => ?_) (fun hc2 => ?_)
      · try simp at hc2
        have hk : k < h.ground.length := by omega
        have hl2 := v.get2 hp hk
        have hlb := v.lb p k hp hk
        have hbK := outB_get (h := h) (out := out) hk
        have hlbd := lean_bd v (out := out) hp (show k ≤ h.ground.length by omega)
        refine awp_skip ?_
        show AWp cx _ _ _
        refine awp_seq ?_
        refine awp_block ?_
        refine awp_seq ?_
        refine rg ?_
        refine qv m_mv ?_
        refine qv m_mv ?_
        refine qv (m_ixR el72 sz4) ?_
        refine qv (m_ldB sz4 ag4 (hq := hbK)) ?_
        refine qv m_not ?_
        show AWp cx _ _ _
        refine cd (fun hc3 => ?_) (fun hc3 => ?_)
        · skip
          have hkf : inB out k = false := by simpa using hc3
          have hln := (lean_no (h := h) (p := p) hkf).symm
          refine rg ?_
          refine qv m_mv ?_
          refine qv (m_fdp fd25_0) ?_
          refine qv (m_ldp sz22 ag22) ?_
          refine qv m_mv ?_
          first | refine qv (m_ixN el22 sz23) ?_ | refine qv (m_ix el22 sz23) ?_
          refine qv (m_ld sz23 ag23) ?_
          refine qv m_mv ?_
          first | refine qv (m_ixN el23 sz3) ?_ | refine qv (m_ix el23 sz3) ?_
          refine qv (m_ld sz3 ag3) ?_
          refine qv m_add ?_
          refine qv m_as ?_
          show AWp cx _ _ _
          refine rg ?_
          refine qv m_mv ?_
          refine qv m_add ?_
          refine qv m_as ?_
          exact ⟨k + 1, hk, (by simp only; omega), (tl [(2, 2), (5, 5), (6, 6), (8, 8)] (hF := by simp [FLe, svLe, lk, mkM, isLive, tauL, hln]) (hM := by simp [MLe, blkLe, svLe, svLes, lk, mkM, isLive, tauL, svLes_ints, svLes_self, isDvs, isDvs_map, isDvs_app, isDvs_take, isDvs_set, isDvs_repl, hln]))⟩
        · skip
          have hkt : inB out k = true := by simpa using hc3
          have hln := lean_yes (h := h) (p := p) hkt
          refine awp_skip ?_
          show AWp cx _ _ _
          refine rg ?_
          refine qv m_mv ?_
          refine qv m_add ?_
          refine qv m_as ?_
          exact ⟨k + 1, hk, (by simp only; omega), (tl [(2, 2), (5, 5), (6, 6), (8, 8)] (hF := by simp [FLe, svLe, lk, mkM, isLive, tauL, hln]) (hM := by simp [MLe, blkLe, svLe, svLes, lk, mkM, isLive, tauL, svLes_ints, svLes_self, isDvs, isDvs_map, isDvs_app, isDvs_take, isDvs_set, isDvs_repl, hln]))⟩
      · try simp at hc2
        obtain rfl : k = h.ground.length := by omega
        refine awp_exit ?_
        show AWp cx _ _ _
        refine awp_seq ?_
        refine rg ?_
        refine qv m_mv ?_
        refine qv m_mv ?_
        refine qv (m_ixR el72 sz4) ?_
        refine qv (m_ldB sz4 ag4 (hq := hbB)) ?_
        refine qv m_not ?_
        refine qx m_mv (fun hg51 => ?_) (fun hg51 => ?_)
        · skip
          refine qv m_mv ?_
          refine qv m_mv ?_
          first | refine qv (m_ixN el23 sz3) ?_ | refine qv (m_ix el23 sz3) ?_
          refine qv (m_ld sz3 ag3) ?_
          refine qv m_mv ?_
          refine qv m_geq ?_
          first | (have hnb := nbQ_no (h := h) (a := a) (p := p) (out := out) (.inl (by simpa using hg51)); skip) | skip
          refine qv m_pk ?_
          show AWp cx _ _ _
          refine cd (fun hc4 => ?_) (fun hc4 => ?_)
          · skip
            have hbt : burnsAt h a (inB out) p = true := burnsAt_iff.2 (by simpa using hc4)
            have hnb := nbQ_yes (by simpa using hg51) hbt
            have hsb2 := outB_two (h := h) (a := out) (b := nbQ h a out p) hp
            rw [← hnb] at hsb2
            refine awp_seq ?_
            refine rg ?_
            refine qv m_mv ?_
            refine qv m_mv ?_
            refine qv (m_ixR el72 sz4) ?_
            refine qs (m_stB sz4) ?_
            show AWp cx _ _ _
            refine awp_seq ?_
            refine rg ?_
            refine qv m_as ?_
            show AWp cx _ _ _
            refine rg ?_
            refine qv m_mv ?_
            refine qv m_mv ?_
            refine qr (m_bsl el23 ze3 sz3) ?_
            refine qa1 (m_app1 el23 el23 ze3 sz3 by3) ?_
            refine qv m_as ?_
            show AWp cx _ _ _
            refine rg ?_
            refine qv m_mv ?_
            refine qv m_add ?_
            refine qv m_as ?_
            exact ⟨p + 1, hp, (by simp only; omega), (tl [(2, 2), (5, 65), (6, 6), (8, 8)] (hF := by simp [FLe, svLe, lk, mkM, isLive, tauL, hnb, outI_app, outI_one, outI_len, outB_len, outB_set, hp, Nat.add_assoc]) (hM := by simp [MLe, blkLe, svLe, svLes, lk, mkM, isLive, tauL, svLes_ints, svLes_self, isDvs, isDvs_map, isDvs_app, isDvs_take, isDvs_set, isDvs_repl, hnb, outI_app, outI_one, outI_len, outB_len, outB_set, hp, Nat.add_assoc]))⟩
          · skip
            have hbf : burnsAt h a (inB out) p = false := by
              rw [Bool.eq_false_iff]; intro hh; have := burnsAt_iff.1 hh; simp at hc4; omega
            have hnb := nbQ_no (h := h) (a := a) (.inr hbf)
            refine awp_skip ?_
            show AWp cx _ _ _
            refine rg ?_
            refine qv m_mv ?_
            refine qv m_add ?_
            refine qv m_as ?_
            exact ⟨p + 1, hp, (by simp only; omega), (tl [(2, 2), (5, 5), (6, 6), (8, 8)] (hF := by simp [FLe, svLe, lk, mkM, isLive, tauL, hnb, outI_app, outI_one, outI_len, outB_len, outB_set, hp, Nat.add_assoc]) (hM := by simp [MLe, blkLe, svLe, svLes, lk, mkM, isLive, tauL, svLes_ints, svLes_self, isDvs, isDvs_map, isDvs_app, isDvs_take, isDvs_set, isDvs_repl, hnb, outI_app, outI_one, outI_len, outB_len, outB_set, hp, Nat.add_assoc]))⟩
        · skip
          refine qk ?_
          refine qk ?_
          refine qk ?_
          refine qk ?_
          refine qk ?_
          refine qk ?_
          first | (have hnb := nbQ_no (h := h) (a := a) (p := p) (out := out) (.inl (by simpa using hg51)); skip) | skip
          refine qv m_pk ?_
          show AWp cx _ _ _
          refine cdF (hb := by first | rfl | simp | simp_all) (ht := ?_)
          refine awp_skip ?_
          show AWp cx _ _ _
          refine rg ?_
          refine qv m_mv ?_
          refine qv m_add ?_
          refine qv m_as ?_
          exact ⟨p + 1, hp, (by simp only; omega), (tl [(2, 2), (5, 5), (6, 6), (8, 8)] (hF := by simp [FLe, svLe, lk, mkM, isLive, tauL, hnb, outI_app, outI_one, outI_len, outB_len, outB_set, hp, Nat.add_assoc]) (hM := by simp [MLe, blkLe, svLe, svLes, lk, mkM, isLive, tauL, svLes_ints, svLes_self, isDvs, isDvs_map, isDvs_app, isDvs_take, isDvs_set, isDvs_repl, hnb, outI_app, outI_one, outI_len, outB_len, outB_set, hp, Nat.add_assoc]))⟩
    · try simp at hc1
      obtain rfl : p = h.ground.length := by omega
      have hnf := nbQ_full (h := h) (a := a) (out := out)
      have hnx := next_len hφ0.1
      have hph : Bst h a (out ++ nextB h a (inB out)) ∧ (decide (nextB h a (inB out) ≠ []) = false → nextB h a (inB (out ++ nextB h a (inB out))) = []) := by
        by_cases e : nextB h a (inB out) = []
        · rw [e, List.append_nil]; exact ⟨hφ0.1, fun _ => e⟩
        · exact ⟨hφ0.1.step e, fun hh => by simp [e] at hh⟩
      have hms : h.ground.length - (out ++ nextB h a (inB out)).length + (if decide (nextB h a (inB out) ≠ []) = true then 1 else 0) < h.ground.length - out.length + (if mr = true then 1 else 0) := by
        rw [hmr]
        by_cases e : nextB h a (inB out) = []
        · simp [e]
        · have := hφ0.1.less e
          simp only [e, ne_eq, not_false_eq_true, decide_true, if_true]; omega
      refine awp_exit ?_
      show AWp cx _ _ _
      refine rg ?_
      refine qv m_mv ?_
      refine qv m_as ?_
      exact ⟨(out ++ nextB h a (inB out), decide (nextB h a (inB out) ≠ [])), hph, hms, (tl [(2, 2), (5, 5), (6, 8)] (hF := by simp [FLe, svLe, lk, mkM, isLive, tauL, hnf, outB_len, outI_len]) (hM := by simp [MLe, blkLe, svLe, svLes, lk, mkM, isLive, tauL, svLes_ints, svLes_self, isDvs, isDvs_map, isDvs_app, isDvs_take, isDvs_set, isDvs_repl, hnf, outB_len, outI_len]))⟩
  · skip
    have hmr : mr = false := by simpa using hc0
    have hst := hφ0.1.stop (hφ0.2 hmr)
    refine awp_exit ?_
    show AWp cx _ _ _
    refine awp_seq ?_
    refine rg ?_
    refine qv m_mv ?_
    refine qv m_as ?_
    show AWp cx _ _ _
    refine awp_ret ?_
    exact x1 (hr := (rR_ (L := outI out) (by show outI out = outI (burnN h a); rw [hst]) (hl := by simp [outI])))

end Go.Ab.Try
