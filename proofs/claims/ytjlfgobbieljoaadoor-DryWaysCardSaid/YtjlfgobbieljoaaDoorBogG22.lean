/- Way10, WayE, Way11. -/
import Derived.Test.YtjlfgobbieljoaaDoorBogG21
import Derived.Test.YtjlfgobbieljoaaDoorBogG21
import Derived.Test.YtjlfgobbieljoaaDoorBogG18
import Derived.Test.YtjlfgobbieljoaaDoorBogG20
import Derived.Test.YtjlfgobbieljoaaDoorBogG16
import Derived.Test.YtjlfgobbieljoaaDoorBogG20
import Derived.Test.YtjlfgobbieljoaaDoorBogG18
import Derived.Test.YtjlfgobbieljoaaDoorBogG19
set_option linter.all false
set_option linter.all false
namespace Go.Ab.Tryd
open Go Go.Ab Go.Proofs
open Go.Ab.Ways
abbrev rowB (L : List (List Int)) : Blk := ⟨L.map fun r => .dv (ints r), 1, 25, 0, true⟩
theorem data_rowsB {ok : Nat → Prop} {okd : DV → Prop} {M : Nat → Nat × Option Blk} {t g n : Nat} {L : List (List Int)} (hM : M t = (g, some (rowB L))) (hst : ok 0) (hl : L.length = n) (hd : ∀ l, okd (ints l)) : Data ok okd M (.sl t g 0 n) (.list (L.map ints)) := by
  refine data_cells (blk := rowB L) hM hst (by simpa using hl) (fun d h => by obtain ⟨s, _, rfl⟩ := List.mem_map.1 h; rfl) ?_
  have : flat (L.map ints) = L.map ints := flat_one fun _ => rfl
  rw [this]
  show ArgsSV (Data ok okd M) (L.map fun r => .dv (ints r)) (L.map ints)
  clear hM hl this
  induction L with
  | nil => exact args_nil
  | cons r L ih => exact args_cons (.dv _ (hd r)) ih
theorem intsM_inj : ∀ {a b : List Int}, a.map (DV.int .i64) = b.map (DV.int .i64) → a = b
  | [], [], _ => rfl
  | [], _ :: _, h => by simp at h
  | _ :: _, [], h => by simp at h
  | x :: a, y :: b, h => by
    simp only [List.map_cons, List.cons.injEq, DV.int.injEq, true_and] at h
    rw [h.1, intsM_inj h.2]
theorem svLes_rows {τ : Nat → Option Nat} {M M' : Nat → Nat × Option Blk} : ∀ {L L' : List (List Int)}, svLes τ M M' (L.map fun r => .dv (ints r)) (L'.map fun r => .dv (ints r)) ↔ L = L'
  | [], [] => by simp [svLes]
  | [], _ :: _ => by simp [svLes]
  | _ :: _, [] => by simp [svLes]
  | a :: L, b :: L' => by
    simp only [List.map_cons, svLes, svLe, List.cons.injEq]
    rw [svLes_rows (L := L) (L' := L')]
    refine and_congr_left fun _ => ⟨fun h => ?_, fun h => by rw [h]⟩
    have h2 : a.map (DV.int .i64) = b.map (DV.int .i64) := by simpa [ints] using h
    exact intsM_inj h2
theorem rows_snoc {L : List (List Int)} {v : List Int} : (L.map fun r => SV.dv (ints r)) ++ [SV.dv (ints v)] = (L ++ [v]).map fun r => .dv (ints r) := by simp
def refWayR (y : Yd) (m goal : List Int) (most : Int) : List Int × Bool × Int :=
  if filledE y [m] ≠ 0 then ([], false, filledE y [m]) else if (!(allIn goal y.places 0 50) || !(within most 0 5)) = true then ([], false, 1)
  else ((wayD y.steps.length (nxt y) goal m most.toNat).getD [], (wayD y.steps.length (nxt y) goal m most.toNat).isSome, 0)
def refReachR (y : Yd) (m : List Int) (most : Int) : Int × Int :=
  if filledE y [m] ≠ 0 then (0, filledE y [m]) else if (!(within most 0 5)) = true then (0, 1)
  else (((lv y.steps.length (nxt y) m most.toNat).1.length : Nat), 0)
theorem within_iff {n lo hi : Int} : within n lo hi = true ↔ lo ≤ n ∧ n ≤ hi := by unfold within; simp
theorem nxt_vm {y : Yd} (hv : VYd y) : ∀ (m : List Int) (s : Nat) (f : List Int), s < y.steps.length → VM y m → nxt y m s = some f → VM y f := fun m s f hs hm hf => by
  unfold nxt at hf
  split at hf
  · rename_i h0
    have := (after_vm hv hm (by omega : (0 : Int) ≤ (s : Int)) (by omega) h0).1
    rw [← Option.some.inj hf]; exact this
  · cases hf
set_option maxHeartbeats 4000000 in
theorem f8 (y : Yd) (m goal : List Int) (most : Int) : ACallsF Tryd.prog 8 [dYd y, ints m, ints goal, i64 most] (.many [rI (refWayR y m goal most).1, .dv (.bool (refWayR y m goal most).2.1), .dv (i64 (refWayR y m goal most).2.2)]) := by
  refine callsF_of Tryd.func8 rfl rfl (by rw [Tryd.ntmps8]; simp) fun cx hP hn hg => ?_
  rw [Tryd.ntmps8] at hn
  rw [startF_lk, none_mkM]
  simp only [List.nil_append, List.append_nil, List.cons_append, zipSV, Nat.reduceAdd]
  refine awp_seq ?_
  refine rg ?_
  refine qp m_box ?_
  refine qv m_as ?_
  refine qv m_as ?_
  refine qv m_as ?_
  show AWp cx _ _ _
  refine awp_seq ?_
  refine awp_seq ?_
  refine rg ?_
  refine qv (m_ldpa sz24 ag24) ?_
  refine qv m_mv ?_
  refine qqF (f18 y m) ?_
  refine qv m_as ?_
  show AWp cx _ _ _
  refine awp_seq ?_
  refine rg ?_
  refine qv m_mv ?_
  refine qv m_neq ?_
  show AWp cx _ _ _
  refine cd (fun hc0 => ?_) (fun hc0 => ?_)
  · skip
    have h0 : filledE y [m] ≠ 0 := by simpa using hc0
    refine awp_seq ?_
    refine rg ?_
    refine qv m_mv ?_
    refine qv m_as ?_
    refine qv m_as ?_
    refine qv m_as ?_
    show AWp cx _ _ _
    refine awp_ret ?_
    rw [show refWayR y m goal most = ([], false, filledE y [m]) by simp [refWayR, h0]]
    exact x3 (hr := (rN_)) (hr' := (rB_)) (hr'' := (rI_))
  · skip
    have h0 : filledE y [m] = 0 := by simpa using hc0
    obtain ⟨hv, hm⟩ := filled_ok h0
    obtain ⟨v1, v2, v3, v4⟩ := validate_ok hv
    refine awp_skip ?_
    show AWp cx _ _ _
    refine awp_seq ?_
    refine awp_seq ?_
    refine rg ?_
    refine qv m_mv ?_
    refine qv (m_fdp fd24_0) ?_
    refine qv (m_ldp sz3 ag3) ?_
    refine qqF (f19 goal y.places 0 50 (by omega)) ?_
    refine qv m_not ?_
    refine qx m_mv (fun hg26 => ?_) (fun hg26 => ?_)
    · skip
      refine qk ?_
      refine qk ?_
      refine qk ?_
      refine qv m_pk ?_
      show AWp cx _ _ _
      refine cdT (hb := by first | rfl | simp | simp_all) (ht := ?_)
      refine awp_seq ?_
      refine rg ?_
      refine qv m_as ?_
      refine qv m_as ?_
      refine qv m_as ?_
      show AWp cx _ _ _
      refine awp_ret ?_
      rw [show refWayR y m goal most = ([], false, 1) by unfold refWayR; rw [if_neg (by simp [h0]), if_pos (by simp_all)]]
      exact x3 (hr := (rN_)) (hr' := (rB_)) (hr'' := (rI_))
    · skip
      refine qv m_mv ?_
      refine qqF (f20 most 0 5) ?_
      refine qv m_not ?_
      refine qv m_pk ?_
      show AWp cx _ _ _
      refine cd (fun hc1 => ?_) (fun hc1 => ?_)
      · skip
        refine awp_seq ?_
        refine rg ?_
        refine qv m_as ?_
        refine qv m_as ?_
        refine qv m_as ?_
        show AWp cx _ _ _
        refine awp_ret ?_
        rw [show refWayR y m goal most = ([], false, 1) by unfold refWayR; rw [if_neg (by simp [h0]), if_pos (by simp_all)]]
        exact x3 (hr := (rN_)) (hr' := (rB_)) (hr'' := (rI_))
      · skip
        have hw1 : allIn goal y.places 0 50 = true := by simpa using hg26
        have hw2 : within most 0 5 = true := by simpa using hc1
        obtain ⟨w1, w2⟩ := within_iff.1 hw2
        refine awp_skip ?_
        show AWp cx _ _ _
        refine awp_seq ?_
        refine awp_seq ?_
        refine rg ?_
        refine qv m_as ?_
        show AWp cx _ _ _
        refine awp_block ?_
        refine awp_loop (ι := Nat) (fun k => ⟨lk [(1, .dv (ints (m))), (2, .dv (ints (goal))), (3, .dv (i64 (most))), (4, .pt 4 0 0), (12, .dv (i64 (k : Nat)))], mkM [(4, 0, some ⟨[.dv (i64 (y.places)), .dv (.list ((y.steps).map dStp))], 0, 24, 0, false⟩)]⟩) (fun k => (k : Int) ≤ most + 1 ∧ ∀ j, j < k → wayR y.steps.length (nxt y) goal j m = none) (fun k => (most + 1).toNat - k) 0 ⟨by simp; omega, fun j hj => by omega⟩ (tl [(4, 4)]) ?_
        intro k hφ0
        refine awp_seq ?_
        refine awp_seq ?_
        refine rg ?_
        refine qv m_mv ?_
        refine qv m_mv ?_
        refine qv m_leq ?_
        show AWp cx _ _ _
        refine cd (fun hc2 => ?_) (fun hc2 => ?_)
        · try simp at hc2
          have hk : k < 100 := by omega
          have hwo := wy_ok y hv goal k hk m hm
          have hln := hwo.2
          refine awp_skip ?_
          show AWp cx _ _ _
          refine awp_seq ?_
          refine awp_block ?_
          refine awp_seq ?_
          refine rg ?_
          refine qv (m_ldpa sz24 ag24) ?_
          refine qv m_mv ?_
          refine qv m_mv ?_
          refine qv m_mv ?_
          refine qqF (hwo.1) ?_
          refine qv m_mv ?_
          refine qv m_ext ?_
          refine qv m_ext ?_
          refine qv m_as ?_
          refine qv m_as ?_
          show AWp cx _ _ _
          refine awp_seq ?_
          refine rg ?_
          refine qv m_mv ?_
          show AWp cx _ _ _
          refine cd (fun hc3 => ?_) (fun hc3 => ?_)
          · try simp at hc3
            obtain ⟨r, hr⟩ : ∃ r, wayR y.steps.length (nxt y) goal k m = some r := Option.isSome_iff_exists.1 (by simpa using hc3)
            have hwd : wayD y.steps.length (nxt y) goal m most.toNat = some ((wayR y.steps.length (nxt y) goal k m).getD []) := fs_first (g := fun k => wayR y.steps.length (nxt y) goal k m) (by omega) hφ0.2 (by show wayR y.steps.length (nxt y) goal k m = _; rw [hr]; rfl)
            refine awp_seq ?_
            refine rg ?_
            refine qv m_mv ?_
            refine qv m_as ?_
            refine qv m_as ?_
            refine qv m_as ?_
            show AWp cx _ _ _
            refine awp_ret ?_
            rw [show refWayR y m goal most = ((wayR y.steps.length (nxt y) goal k m).getD [], true, 0) by unfold refWayR; rw [if_neg (by simp [h0]), if_neg (by simp [hw1, hw2]), hwd]; rfl]
            exact x3 (hr := (by first | exact rN_ | exact rR_)) (hr' := (rB_)) (hr'' := (rI_))
          · try simp at hc3
            refine awp_skip ?_
            show AWp cx _ _ _
            refine rg ?_
            refine qv m_mv ?_
            refine qv m_add ?_
            refine qv m_as ?_
            refine ⟨k + 1, ?_, (by simp only; omega), (tl [(4, 4)])⟩
            refine ⟨by omega, fun j hj => ?_⟩
            rcases Nat.lt_or_ge j k with h1 | h1
            · exact hφ0.2 j h1
            · obtain rfl : j = k := by omega
              simpa using hc3
        · try simp at hc2
          refine awp_exit ?_
          show AWp cx _ _ _
          refine awp_seq ?_
          refine rg ?_
          refine qv m_as ?_
          refine qv m_as ?_
          refine qv m_as ?_
          show AWp cx _ _ _
          refine awp_ret ?_
          rw [show refWayR y m goal most = ([], false, 0) by unfold refWayR; rw [if_neg (by simp [h0]), if_neg (by simp [hw1, hw2]), show wayD y.steps.length (nxt y) goal m most.toNat = none from fs_none fun j hj => hφ0.2 j (by omega)]; rfl]
          exact x3 (hr := (rN_)) (hr' := (rB_)) (hr'' := (rI_))
set_option maxHeartbeats 8000000 in
theorem f10 (y : Yd) (m : List Int) (most : Int) : ACallsF Tryd.prog 10 [dYd y, ints m, i64 most] (.many [.dv (i64 (refReachR y m most).1), .dv (i64 (refReachR y m most).2)]) := by
  refine callsF_of Tryd.func10 rfl rfl (by rw [Tryd.ntmps10]; simp) fun cx hP hn hg => ?_
  rw [Tryd.ntmps10] at hn
  rw [startF_lk, none_mkM]
  simp only [List.nil_append, List.append_nil, List.cons_append, zipSV, Nat.reduceAdd]
  refine awp_seq ?_
  refine rg ?_
  refine qp m_box ?_
  refine qv m_as ?_
  refine qv m_as ?_
  show AWp cx _ _ _
  refine awp_seq ?_
  refine awp_seq ?_
  refine rg ?_
  refine qv (m_ldpa sz24 ag24) ?_
  refine qv m_mv ?_
  refine qqF (f18 y m) ?_
  refine qv m_as ?_
  show AWp cx _ _ _
  refine awp_seq ?_
  refine rg ?_
  refine qv m_mv ?_
  refine qv m_neq ?_
  show AWp cx _ _ _
  refine cd (fun hc0 => ?_) (fun hc0 => ?_)
  · skip
    have h0 : filledE y [m] ≠ 0 := by simpa using hc0
    refine awp_seq ?_
    refine rg ?_
    refine qv m_mv ?_
    refine qv m_as ?_
    refine qv m_as ?_
    show AWp cx _ _ _
    refine awp_ret ?_
    rw [show refReachR y m most = (0, filledE y [m]) by simp [refReachR, h0]]
    exact x2 (hr := (rI_)) (hr' := (rI_))
  · skip
    have h0 : filledE y [m] = 0 := by simpa using hc0
    obtain ⟨hv, hm⟩ := filled_ok h0
    obtain ⟨v1, v2, v3, v4⟩ := validate_ok hv
    refine awp_skip ?_
    show AWp cx _ _ _
    refine awp_seq ?_
    refine awp_seq ?_
    refine rg ?_
    refine qv m_mv ?_
    refine qqF (f20 most 0 5) ?_
    refine qv m_not ?_
    show AWp cx _ _ _
    refine cd (fun hc1 => ?_) (fun hc1 => ?_)
    · skip
      refine awp_seq ?_
      refine rg ?_
      refine qv m_as ?_
      refine qv m_as ?_
      show AWp cx _ _ _
      refine awp_ret ?_
      rw [show refReachR y m most = (0, 1) by unfold refReachR; rw [if_neg (by simp [h0]), if_pos (by simp_all)]]
      exact x2 (hr := (rI_)) (hr' := (rI_))
    · skip
      have hw2 : within most 0 5 = true := by simpa using hc1
      obtain ⟨w1, w2⟩ := within_iff.1 hw2
      refine awp_skip ?_
      show AWp cx _ _ _
      refine awp_seq ?_
      refine rg ?_
      refine qv m_mv ?_
      refine qr (m_bsl el53 ze25 sz25) ?_
      refine qv m_as ?_
      show AWp cx _ _ _
      refine awp_seq ?_
      refine rg ?_
      refine qv m_mv ?_
      refine qr (m_bsl el53 ze25 sz25) ?_
      refine qv m_as ?_
      show AWp cx _ _ _
      refine awp_seq ?_
      refine awp_seq ?_
      refine rg ?_
      refine qv m_as ?_
      show AWp cx _ _ _
      refine awp_block ?_
      refine awp_loop (ι := Nat) (fun k => ⟨lk [(2, .dv (i64 (most))), (3, .pt 3 0 0), (9, .sl 9 0 0 ((FK y.steps.length (nxt y) m k).length)), (10, .sl 10 0 0 ((LK y.steps.length (nxt y) m k).length)), (11, .dv (i64 (k : Nat)))], mkM [(3, 0, some ⟨[.dv (i64 (y.places)), .dv (.list ((y.steps).map dStp))], 0, 24, 0, false⟩), (9, 0, some (rowB (FK y.steps.length (nxt y) m k))), (10, 0, some (rowB (LK y.steps.length (nxt y) m k)))]⟩) (fun k => (k : Int) ≤ most) (fun k => most.toNat - k) 0 (by simp; omega) (tl [(3, 3), (9, 29), (10, 31)] (hF := by simp [FLe, svLe, lk, mkM, isLive, tauL, svLes_rows, FK_zero, LK_zero]) (hM := by simp [MLe, blkLe, svLe, svLes, lk, mkM, isLive, tauL, svLes_ints, svLes_self, isDvs, isDvs_map, isDvs_app, isDvs_take, isDvs_set, isDvs_repl, svLes_rows, FK_zero, LK_zero])) ?_
      intro k hφ0
      refine awp_seq ?_
      refine awp_seq ?_
      refine rg ?_
      refine qv m_mv ?_
      refine qv m_mv ?_
      refine qv m_lss ?_
      show AWp cx _ _ _
      refine cd (fun hc2 => ?_) (fun hc2 => ?_)
      · try simp at hc2
        have hk5 : k < 5 := by omega
        have hAl : (lvA y.steps.length (nxt y) m k).length ≤ 16807 := by
          have h1 := lv_len (n := y.steps.length) (nx := nxt y) m k
          have h2 : (y.steps.length + 1) ^ k ≤ 7 ^ 5 := Nat.le_trans (Nat.pow_le_pow_left (by omega) k) (Nat.pow_le_pow_right (by omega) (by omega))
          exact Nat.le_trans h1 (Nat.le_trans h2 (by decide))
        have hLl : (LK y.steps.length (nxt y) m k).length ≤ 16807 := by
          rw [LK_len, List.length_drop]
          exact Nat.le_trans (Nat.sub_le _ _) hAl
        have hmul := Nat.mul_le_mul_right (lvA y.steps.length (nxt y) m k).length v3
        refine awp_skip ?_
        show AWp cx _ _ _
        refine awp_seq ?_
        refine awp_block ?_
        refine awp_seq ?_
        refine rg ?_
        refine qv m_as ?_
        show AWp cx _ _ _
        refine awp_seq ?_
        refine awp_seq ?_
        refine rg ?_
        refine qv m_as ?_
        show AWp cx _ _ _
        refine awp_block ?_
        refine awp_loop (ι := Nat) (fun i => ⟨lk [(2, .dv (i64 (most))), (3, .pt 3 0 0), (9, .sl 9 0 0 ((F1 y.steps.length (nxt y) (lvA y.steps.length (nxt y) m k) (lvB y.steps.length (nxt y) m k) (i)).length)), (10, .sl 10 0 0 (LK y.steps.length (nxt y) m k).length), (11, .dv (i64 (k : Nat))), (12, .sl 12 0 0 ((N1 y.steps.length (nxt y) (lvA y.steps.length (nxt y) m k) (lvB y.steps.length (nxt y) m k) (i)).length)), (13, .dv (i64 (i : Nat)))], mkM [(3, 0, some ⟨[.dv (i64 (y.places)), .dv (.list ((y.steps).map dStp))], 0, 24, 0, false⟩), (9, 0, some (rowB (F1 y.steps.length (nxt y) (lvA y.steps.length (nxt y) m k) (lvB y.steps.length (nxt y) m k) (i)))), (10, 0, some (rowB (LK y.steps.length (nxt y) m k))), (12, 0, some (rowB (N1 y.steps.length (nxt y) (lvA y.steps.length (nxt y) m k) (lvB y.steps.length (nxt y) m k) (i))))]⟩) (fun i => i ≤ (LK y.steps.length (nxt y) m k).length) (fun i => (LK y.steps.length (nxt y) m k).length - i) 0 (by simp) (tl [(3, 3), (9, 9), (10, 10)] (hF := by simp [FLe, svLe, lk, mkM, isLive, tauL, svLes_rows, F1_FK, N1_zero]) (hM := by simp [MLe, blkLe, svLe, svLes, lk, mkM, isLive, tauL, svLes_ints, svLes_self, isDvs, isDvs_map, isDvs_app, isDvs_take, isDvs_set, isDvs_repl, svLes_rows, F1_FK, N1_zero])) ?_
        intro i hφ1
        refine awp_seq ?_
        refine awp_seq ?_
        refine rg ?_
        refine qv m_mv ?_
        refine qv m_mv ?_
        refine qv (m_lenR il53) ?_
        refine qv m_lss ?_
        show AWp cx _ _ _
        refine cd (fun hc3 => ?_) (fun hc3 => ?_)
        · try simp at hc3
          have hi : i < (LK y.steps.length (nxt y) m k).length := by omega
          obtain ⟨e, he⟩ : ∃ e, ((lvA y.steps.length (nxt y) m k).drop (lvB y.steps.length (nxt y) m k))[i]? = some e := ⟨_, List.getElem?_eq_getElem (by rw [← LK_len]; exact hi)⟩
          have hat : ((LK y.steps.length (nxt y) m k).map fun r => SV.dv (ints r))[i]? = some (SV.dv (ints e.2)) := by rw [List.getElem?_map, show (LK y.steps.length (nxt y) m k)[i]? = some e.2 from sn_at he]; rfl
          have hem : VM y e.2 := lv_all (nxt_vm hv) hm k e (List.mem_of_mem_drop (List.mem_of_getElem? he))
          refine awp_skip ?_
          show AWp cx _ _ _
          refine awp_seq ?_
          refine awp_block ?_
          refine awp_seq ?_
          refine rg ?_
          refine qv m_as ?_
          show AWp cx _ _ _
          refine awp_block ?_
          refine awp_loop (ι := Nat) (fun s => ⟨lk [(2, .dv (i64 (most))), (3, .pt 3 0 0), (9, .sl 9 0 0 ((F2 y.steps.length (nxt y) (lvA y.steps.length (nxt y) m k) (lvB y.steps.length (nxt y) m k) i e (s)).length)), (10, .sl 10 0 0 (LK y.steps.length (nxt y) m k).length), (11, .dv (i64 (k : Nat))), (12, .sl 12 0 0 ((N2 y.steps.length (nxt y) (lvA y.steps.length (nxt y) m k) (lvB y.steps.length (nxt y) m k) i e (s)).length)), (13, .dv (i64 (i : Nat))), (14, .dv (i64 (s : Nat)))], mkM [(3, 0, some ⟨[.dv (i64 (y.places)), .dv (.list ((y.steps).map dStp))], 0, 24, 0, false⟩), (9, 0, some (rowB (F2 y.steps.length (nxt y) (lvA y.steps.length (nxt y) m k) (lvB y.steps.length (nxt y) m k) i e (s)))), (10, 0, some (rowB (LK y.steps.length (nxt y) m k))), (12, 0, some (rowB (N2 y.steps.length (nxt y) (lvA y.steps.length (nxt y) m k) (lvB y.steps.length (nxt y) m k) i e (s))))]⟩) (fun s => s ≤ y.steps.length) (fun s => y.steps.length - s) 0 (by simp) (tl [(3, 3), (9, 9), (10, 10), (12, 12)] (hF := by simp [FLe, svLe, lk, mkM, isLive, tauL, svLes_rows, F2_zero, N2_zero]) (hM := by simp [MLe, blkLe, svLe, svLes, lk, mkM, isLive, tauL, svLes_ints, svLes_self, isDvs, isDvs_map, isDvs_app, isDvs_take, isDvs_set, isDvs_repl, svLes_rows, F2_zero, N2_zero])) ?_
          intro s hφ2
          refine awp_seq ?_
          refine awp_seq ?_
          refine rg ?_
          refine qv m_mv ?_
          refine qv (m_fdp fd24_1) ?_
          refine qv (m_ldp sz22 ag22) ?_
          refine qv (m_len il22) ?_
          refine qv m_lss ?_
          show AWp cx _ _ _
          refine cd (fun hc4 => ?_) (fun hc4 => ?_)
          · try simp at hc4
            have hs : s < y.steps.length := by omega
            have hfl := F2_len (n := y.steps.length) (nx := nxt y) (A := lvA y.steps.length (nxt y) m k) (b := lvB y.steps.length (nxt y) m k) (i := i) (e := e) (s := s)
            have hnl := N2_len (n := y.steps.length) (nx := nxt y) (A := lvA y.steps.length (nxt y) m k) (b := lvB y.steps.length (nxt y) m k) (i := i) (e := e) (s := s)
            have hb1 : (F2 y.steps.length (nxt y) (lvA y.steps.length (nxt y) m k) (lvB y.steps.length (nxt y) m k) i e (s)).length ≤ 200000 := by generalize (F2 y.steps.length (nxt y) (lvA y.steps.length (nxt y) m k) (lvB y.steps.length (nxt y) m k) i e (s)).length = z at *; omega
            have hb2 : (N2 y.steps.length (nxt y) (lvA y.steps.length (nxt y) m k) (lvB y.steps.length (nxt y) m k) i e (s)).length ≤ 200000 := Nat.le_trans hnl hb1
            refine awp_skip ?_
            show AWp cx _ _ _
            refine awp_seq ?_
            refine awp_block ?_
            refine awp_seq ?_
            refine rd mixed ?_
            refine zv (m_ldpa sz24 ag24) ?_
            refine zv m_mv ?_
            refine zv m_mv ?_
            refine zv (m_ixR el53 sz25) ?_
            refine zv (m_ldp sz25 ag25 (hc := hat)) ?_
            refine zv m_mv ?_
            refine zqF (R := []) (f22 y e.2 s hv hem (by omega) (by omega)) ?_
            refine zv m_mv ?_
            refine zv m_ext ?_
            refine zv m_ext ?_
            refine zv m_as ?_
            refine zv m_as ?_
            refine ⟨by rfl, ?_⟩
            show AWp cx _ _ _
            refine awp_seq ?_
            refine awp_seq ?_
            refine awp_frz 57 ?_
            refine awp_sink 15 (d := ints (doR y e.2 s).1) (data_ints (L := (doR y e.2 s).1) (by simp only [mkM, reduceIte, Nat.reduceEqDiff] <;> rfl) rfl rfl rfl rfl (fun _ => trivial)) hg ?_
            refine rg ?_
            refine qv m_mv ?_
            refine qv m_neq ?_
            show AWp cx _ _ _
            refine cd (fun hc5 => ?_) (fun hc5 => ?_)
            · try simp at hc5
              have hno : nxt y e.2 s = none := nxt_no (by simpa using hc5)
              have hF2 := F2_no (n := y.steps.length) (A := lvA y.steps.length (nxt y) m k) (b := lvB y.steps.length (nxt y) m k) (i := i) hno
              have hN2 := N2_no (n := y.steps.length) (A := lvA y.steps.length (nxt y) m k) (b := lvB y.steps.length (nxt y) m k) (i := i) hno
              refine awp_exit ?_
              show AWp cx _ _ _
              refine rg ?_
              refine qv m_mv ?_
              refine qv m_add ?_
              refine qv m_as ?_
              exact ⟨s + 1, hs, (by simp only; omega), (tl [(3, 3), (9, 9), (10, 10), (12, 12)] (hF := by simp [FLe, svLe, lk, mkM, isLive, tauL, svLes_rows, hF2, hN2]) (hM := by simp [MLe, blkLe, svLe, svLes, lk, mkM, isLive, tauL, svLes_ints, svLes_self, isDvs, isDvs_map, isDvs_app, isDvs_take, isDvs_set, isDvs_repl, svLes_rows, hF2, hN2]))⟩
            · try simp at hc5
              have hyes := nxt_ok (y := y) (m := e.2) (s := s) (by simpa using hc5)
              refine awp_skip ?_
              show AWp cx _ _ _
              refine awp_seq ?_
              refine rg ?_
              refine qv m_as ?_
              show AWp cx _ _ _
              refine awp_seq ?_
              refine awp_seq ?_
              refine rg ?_
              refine qv m_as ?_
              show AWp cx _ _ _
              refine awp_block ?_
              refine awp_loop (ι := Nat) (fun q => ⟨lk [(2, .dv (i64 (most))), (3, .pt 3 0 0), (9, .sl 9 0 0 (F2 y.steps.length (nxt y) (lvA y.steps.length (nxt y) m k) (lvB y.steps.length (nxt y) m k) i e (s)).length), (10, .sl 10 0 0 (LK y.steps.length (nxt y) m k).length), (11, .dv (i64 (k : Nat))), (12, .sl 12 0 0 (N2 y.steps.length (nxt y) (lvA y.steps.length (nxt y) m k) (lvB y.steps.length (nxt y) m k) i e (s)).length), (13, .dv (i64 (i : Nat))), (14, .dv (i64 (s : Nat))), (15, .dv (ints ((doR y e.2 s).1))), (17, .dv (.bool (anyP (F2 y.steps.length (nxt y) (lvA y.steps.length (nxt y) m k) (lvB y.steps.length (nxt y) m k) i e (s)) (doR y e.2 s).1 q))), (18, .dv (i64 (q : Nat)))], mkM [(3, 0, some ⟨[.dv (i64 (y.places)), .dv (.list ((y.steps).map dStp))], 0, 24, 0, false⟩), (9, 0, some (rowB (F2 y.steps.length (nxt y) (lvA y.steps.length (nxt y) m k) (lvB y.steps.length (nxt y) m k) i e (s)))), (10, 0, some (rowB (LK y.steps.length (nxt y) m k))), (12, 0, some (rowB (N2 y.steps.length (nxt y) (lvA y.steps.length (nxt y) m k) (lvB y.steps.length (nxt y) m k) i e (s))))]⟩) (fun q => q ≤ (F2 y.steps.length (nxt y) (lvA y.steps.length (nxt y) m k) (lvB y.steps.length (nxt y) m k) i e (s)).length) (fun q => (F2 y.steps.length (nxt y) (lvA y.steps.length (nxt y) m k) (lvB y.steps.length (nxt y) m k) i e (s)).length - q) 0 (by simp) (tl [(3, 3), (9, 9), (10, 10), (12, 12)] (hF := by simp [FLe, svLe, lk, mkM, isLive, tauL, anyP_zero]) (hM := by simp [MLe, blkLe, svLe, svLes, lk, mkM, isLive, tauL, svLes_ints, svLes_self, isDvs, isDvs_map, isDvs_app, isDvs_take, isDvs_set, isDvs_repl, anyP_zero])) ?_
              intro q hφ3
              refine awp_seq ?_
              refine awp_seq ?_
              refine rg ?_
              refine qv m_mv ?_
              refine qv m_mv ?_
              refine qv (m_lenR il53) ?_
              refine qv m_lss ?_
              show AWp cx _ _ _
              refine cd (fun hc6 => ?_) (fun hc6 => ?_)
              · try simp at hc6
                have hq : q < (F2 y.steps.length (nxt y) (lvA y.steps.length (nxt y) m k) (lvB y.steps.length (nxt y) m k) i e (s)).length := by omega
                obtain ⟨r, hr⟩ : ∃ r, (F2 y.steps.length (nxt y) (lvA y.steps.length (nxt y) m k) (lvB y.steps.length (nxt y) m k) i e (s))[q]? = some r := ⟨_, List.getElem?_eq_getElem hq⟩
                have hrt : ((F2 y.steps.length (nxt y) (lvA y.steps.length (nxt y) m k) (lvB y.steps.length (nxt y) m k) i e (s)).map fun r => SV.dv (ints r))[q]? = some (SV.dv (ints r)) := by rw [List.getElem?_map, hr]; rfl
                have hsn : anyP (F2 y.steps.length (nxt y) (lvA y.steps.length (nxt y) m k) (lvB y.steps.length (nxt y) m k) i e (s)) (doR y e.2 s).1 (q + 1) = _ := anyP_succ hr
                have hrl := allIn_len (F2_P (nxt_vm hv) (lv_all (nxt_vm hv) hm k) hem hφ2 r (List.mem_of_getElem? hr))
                refine awp_skip ?_
                show AWp cx _ _ _
                refine awp_seq ?_
                refine awp_block ?_
                refine rg ?_
                refine qv m_mv ?_
                refine qx m_mv (fun hg69 => ?_) (fun hg69 => ?_)
                · try simp at hg69
                  refine qk ?_
                  refine qk ?_
                  refine qk ?_
                  refine qk ?_
                  refine qk ?_
                  refine qk ?_
                  refine qv m_pk ?_
                  refine qv m_as ?_
                  show AWp cx _ _ _
                  refine rg ?_
                  refine qv m_mv ?_
                  refine qv m_add ?_
                  refine qv m_as ?_
                  exact ⟨q + 1, (by omega), (by simp only; omega), (tl [(3, 3), (9, 9), (10, 10), (12, 12)] (hF := by simp [FLe, svLe, lk, mkM, isLive, tauL, hsn, hg69]) (hM := by simp [MLe, blkLe, svLe, svLes, lk, mkM, isLive, tauL, svLes_ints, svLes_self, isDvs, isDvs_map, isDvs_app, isDvs_take, isDvs_set, isDvs_repl, hsn, hg69]))⟩
                · try simp at hg69
                  refine qv m_mv ?_
                  refine qv m_mv ?_
                  refine qv (m_ixR el53 sz25) ?_
                  refine qv (m_ldp sz25 ag25 (hc := hrt)) ?_
                  refine qv m_mv ?_
                  refine qqF (f23 r (doR y e.2 s).1 (by omega)) ?_
                  refine qv m_pk ?_
                  refine qv m_as ?_
                  show AWp cx _ _ _
                  refine rg ?_
                  refine qv m_mv ?_
                  refine qv m_add ?_
                  refine qv m_as ?_
                  exact ⟨q + 1, (by omega), (by simp only; omega), (tl [(3, 3), (9, 9), (10, 10), (12, 12)] (hF := by simp [FLe, svLe, lk, mkM, isLive, tauL, hsn, hg69]) (hM := by simp [MLe, blkLe, svLe, svLes, lk, mkM, isLive, tauL, svLes_ints, svLes_self, isDvs, isDvs_map, isDvs_app, isDvs_take, isDvs_set, isDvs_repl, hsn, hg69]))⟩
              · try simp at hc6
                rw [anyP_all (show (F2 y.steps.length (nxt y) (lvA y.steps.length (nxt y) m k) (lvB y.steps.length (nxt y) m k) i e (s)).length ≤ q by omega)]
                refine awp_exit ?_
                show AWp cx _ _ _
                refine awp_seq ?_
                refine rg ?_
                refine qv m_mv ?_
                refine qv m_not ?_
                show AWp cx _ _ _
                refine cd (fun hc7 => ?_) (fun hc7 => ?_)
                · skip
                  have hnew : (F2 y.steps.length (nxt y) (lvA y.steps.length (nxt y) m k) (lvB y.steps.length (nxt y) m k) i e (s)).any (fun r => decide (r = (doR y e.2 s).1)) = false := by simpa using hc7
                  have hF2 := F2_new hyes hnew
                  have hN2 := N2_new hyes hnew
                  refine awp_seq ?_
                  refine rg ?_
                  refine qv m_mv ?_
                  refine qv m_mv ?_
                  refine qr (m_bsl el53 ze25 sz25) ?_
                  refine qa1 (m_app1 el53 el53 ze25 sz25 by25 (hc := rows_snoc)) ?_
                  refine qv m_as ?_
                  show AWp cx _ _ _
                  refine rg ?_
                  refine qv m_mv ?_
                  refine qv m_mv ?_
                  refine qr (m_bsl el53 ze25 sz25) ?_
                  refine qa1 (m_app1 el53 el53 ze25 sz25 by25 (hc := rows_snoc)) ?_
                  refine qv m_as ?_
                  show AWp cx _ _ _
                  refine rg ?_
                  refine qv m_mv ?_
                  refine qv m_add ?_
                  refine qv m_as ?_
                  exact ⟨s + 1, hs, (by simp only; omega), (tl [(3, 3), (9, 82), (10, 10), (12, 86)] (hF := by simp [FLe, svLe, lk, mkM, isLive, tauL, svLes_rows, hF2, hN2]) (hM := by simp [MLe, blkLe, svLe, svLes, lk, mkM, isLive, tauL, svLes_ints, svLes_self, isDvs, isDvs_map, isDvs_app, isDvs_take, isDvs_set, isDvs_repl, svLes_rows, hF2, hN2]))⟩
                · skip
                  have hold : (F2 y.steps.length (nxt y) (lvA y.steps.length (nxt y) m k) (lvB y.steps.length (nxt y) m k) i e (s)).any (fun r => decide (r = (doR y e.2 s).1)) = true := by simpa using hc7
                  have hF2 := F2_old hyes hold
                  have hN2 := N2_old hyes hold
                  refine awp_skip ?_
                  show AWp cx _ _ _
                  refine rg ?_
                  refine qv m_mv ?_
                  refine qv m_add ?_
                  refine qv m_as ?_
                  exact ⟨s + 1, hs, (by simp only; omega), (tl [(3, 3), (9, 9), (10, 10), (12, 12)] (hF := by simp [FLe, svLe, lk, mkM, isLive, tauL, svLes_rows, hF2, hN2]) (hM := by simp [MLe, blkLe, svLe, svLes, lk, mkM, isLive, tauL, svLes_ints, svLes_self, isDvs, isDvs_map, isDvs_app, isDvs_take, isDvs_set, isDvs_repl, svLes_rows, hF2, hN2]))⟩
          · try simp at hc4
            obtain rfl : s = y.steps.length := by omega
            have hFa := F2_all (n := y.steps.length) (nx := nxt y) he
            have hNa := N2_all (n := y.steps.length) (nx := nxt y) he
            refine awp_exit ?_
            show AWp cx _ _ _
            refine rg ?_
            refine qv m_mv ?_
            refine qv m_add ?_
            refine qv m_as ?_
            exact ⟨i + 1, (by omega), (by simp only; omega), (tl [(3, 3), (9, 9), (10, 10), (12, 12)] (hF := by simp [FLe, svLe, lk, mkM, isLive, tauL, svLes_rows, hFa, hNa]) (hM := by simp [MLe, blkLe, svLe, svLes, lk, mkM, isLive, tauL, svLes_ints, svLes_self, isDvs, isDvs_map, isDvs_app, isDvs_take, isDvs_set, isDvs_repl, svLes_rows, hFa, hNa]))⟩
        · try simp at hc3
          have hie : (LK y.steps.length (nxt y) m k).length ≤ i := by omega
          have hFl := F1_last (n := y.steps.length) (nx := nxt y) (m := m) (k := k) (i := i) (by rw [← LK_len]; exact hie)
          have hNl := N1_last (n := y.steps.length) (nx := nxt y) (m := m) (k := k) (i := i) (by rw [← LK_len]; exact hie)
          refine awp_exit ?_
          show AWp cx _ _ _
          refine rg ?_
          refine qv m_mv ?_
          refine qv m_as ?_
          show AWp cx _ _ _
          refine rg ?_
          refine qv m_mv ?_
          refine qv m_add ?_
          refine qv m_as ?_
          exact ⟨k + 1, (by omega), (by simp only; omega), (tl [(3, 3), (9, 9), (10, 12)] (hF := by simp [FLe, svLe, lk, mkM, isLive, tauL, svLes_rows, hFl, hNl]) (hM := by simp [MLe, blkLe, svLe, svLes, lk, mkM, isLive, tauL, svLes_ints, svLes_self, isDvs, isDvs_map, isDvs_app, isDvs_take, isDvs_set, isDvs_repl, svLes_rows, hFl, hNl]))⟩
      · try simp at hc2
        refine awp_exit ?_
        show AWp cx _ _ _
        refine awp_seq ?_
        refine rg ?_
        refine qv m_mv ?_
        refine qv (m_lenR il53) ?_
        refine qv m_as ?_
        refine qv m_as ?_
        show AWp cx _ _ _
        refine awp_ret ?_
        obtain rfl : most.toNat = k := by omega
        rw [show refReachR y m most = ((((FK y.steps.length (nxt y) m most.toNat).length : Nat) : Int), 0) by unfold refReachR; rw [if_neg (by simp [h0]), if_neg (by simp [hw2]), FK_len]]
        exact x2 (hr := (rI_)) (hr' := (rI_))
end Go.Ab.Tryd
set_option linter.all false
namespace Go.Ab.Tryd
open Go Go.Ab Go.Proofs Go.Ab.Ways
abbrev dEn (e : En) : DV := .agg [ints e.1, ints e.2]
theorem data_nilD {ok : Nat → Prop} {okd : DV → Prop} {M : Nat → Nat × Option Blk} : Data ok okd M .nils (.list []) := .nils
theorem data_nilI {ok : Nat → Prop} {okd : DV → Prop} {M : Nat → Nat × Option Blk} : Data ok okd M .nils (ints []) := .nils
def rowE (L : List En) : Blk := ⟨L.flatMap fun e => [.dv (ints e.1), .dv (ints e.2)], 2, 48, 0, true⟩
theorem rowE_esz {L : List En} : (rowE L).esz = 2 := rfl
theorem rowE_elem {L : List En} : (rowE L).elem = 48 := rfl
theorem rowE_st {L : List En} : (rowE L).st = 0 := rfl
theorem rowE_row {L : List En} : (rowE L).row = true := rfl
theorem rowE_cons {e : En} {L : List En} : (rowE (e :: L)).cells = .dv (ints e.1) :: .dv (ints e.2) :: (rowE L).cells := rfl
theorem rowE_dvs : ∀ L : List En, isDvs (rowE L).cells = true
  | [] => rfl
  | e :: L => by rw [rowE_cons]; simp [isDvs, rowE_dvs L]
theorem rowE_len : ∀ L : List En, (rowE L).cells.length = L.length * 2
  | [] => rfl
  | e :: L => by rw [rowE_cons]; simp [rowE_len L]; omega
theorem rowE_at : ∀ {L : List En} {i : Nat} {e : En}, L[i]? = some e → (rowE L).cells[i * 2 + 0]? = some (.dv (ints e.1)) ∧ (rowE L).cells[i * 2 + 1]? = some (.dv (ints e.2))
  | [], i, e, h => by simp at h
  | q :: L, 0, e, h => by
    have h : q = e := by simpa using h
    subst h
    rw [rowE_cons]; exact ⟨rfl, rfl⟩
  | q :: L, i + 1, e, h => by
    have := rowE_at (L := L) (i := i) (e := e) (by simpa using h)
    rw [rowE_cons, show (i + 1) * 2 + 0 = i * 2 + 0 + 2 by omega, show (i + 1) * 2 + 1 = i * 2 + 1 + 2 by omega]
    exact this
theorem rowE_args {ok : Nat → Prop} {okd : DV → Prop} {M : Nat → Nat × Option Blk} (hd : ∀ l, okd (ints l)) : ∀ L : List En, ArgsSV (Data ok okd M) (rowE L).cells (flat (L.map dEn))
  | [] => args_nil
  | e :: L => by
    show ArgsSV (Data ok okd M) (.dv (ints e.1) :: .dv (ints e.2) :: (rowE L).cells) (ints e.1 :: ints e.2 :: flat (L.map dEn))
    exact args_cons (.dv _ (hd _)) (args_cons (.dv _ (hd _)) (rowE_args hd L))
theorem data_rowE {ok : Nat → Prop} {okd : DV → Prop} {M : Nat → Nat × Option Blk} {t g n : Nat} {L : List En} (hM : M t = (g, some (rowE L))) (hst : ok 0) (hl : L.length = n) (hd : ∀ l, okd (ints l)) : Data ok okd M (.sl t g 0 n) (.list (L.map dEn)) :=
  data_cells (blk := rowE L) hM hst (by simpa using hl) (fun d h => by obtain ⟨s, _, rfl⟩ := List.mem_map.1 h; rfl) (rowE_args hd L)
theorem rowE_snoc {L : List En} {e : En} : (rowE (L ++ [e])).cells = (rowE L).cells ++ [.dv (ints e.1), .dv (ints e.2)] := by simp [rowE]
def Seen (o : Obj) (L : List En) : Prop := ∃ Ks, MObj o L.length Ks ∧ ∀ T, T ∈ Ks ↔ ∃ e ∈ L, keyL e.2 = T
theorem seen_has {y : Yd} {L : List En} (hL : ∀ e ∈ L, VM y e.2) {f : List Int} (hf : VM y f) {Ks : List Tx} (h : ∀ T, T ∈ Ks ↔ ∃ e ∈ L, keyL e.2 = T) : decide (keyL f ∈ Ks) = has L f := by
  have vb : ∀ {m : List Int}, VM y m → (∀ z ∈ m, 0 ≤ z ∧ z ≤ 50) ∧ (m.length : Int) = y.places := fun {m} hm => by
    refine ⟨?_, allIn_len hm⟩
    have hm : allIn m y.places 0 50 = true := hm
    simp only [allIn, Bool.and_eq_true, List.all_eq_true] at hm
    intro z hz
    simpa [within] using hm.2 z hz
  rw [Bool.eq_iff_iff, decide_eq_true_eq, h, has_iff]
  constructor
  · rintro ⟨e, he, hk⟩
    have h1 := vb (hL e he)
    have h2 := vb hf
    exact ⟨e, he, key_inj h1.1 h2.1 (by omega) hk⟩
  · rintro ⟨e, he, rfl⟩
    exact ⟨e, he, rfl⟩
theorem vm_bd {y : Yd} {m : List Int} (hm : VM y m) : ∀ z ∈ m, 0 ≤ z ∧ z ≤ 50 := by
  have hm : allIn m y.places 0 50 = true := hm
  simp only [allIn, Bool.and_eq_true, List.all_eq_true] at hm
  intro z hz
  simpa [within] using hm.2 z hz
theorem seen_put {o' : Obj} {L : List En} {e : En} {Ks : List Tx} (h1 : MObj o' (L.length + 1) (keyL e.2 :: Ks)) (h2 : ∀ T, T ∈ Ks ↔ ∃ e ∈ L, keyL e.2 = T) : Seen o' (L ++ [e]) := by
  refine ⟨_, by rw [List.length_append]; exact h1, fun T => ?_⟩
  rw [List.mem_cons, h2]
  constructor
  · rintro (rfl | ⟨q, hq, rfl⟩)
    · exact ⟨e, by simp, rfl⟩
    · exact ⟨q, by simp [hq], rfl⟩
  · rintro ⟨q, hq, rfl⟩
    rcases List.mem_append.1 hq with hq | hq
    · exact .inr ⟨q, hq, rfl⟩
    · simp only [List.mem_singleton] at hq
      subst hq; exact .inl rfl
end Go.Ab.Tryd
set_option linter.all false
namespace Go.Ab.Tryd
open Go Go.Ab Go.Proofs
open Go.Ab.Ways
set_option maxHeartbeats 16000000 in
set_option maxRecDepth 4000 in
theorem f16 (y : Yd) (hv : VYd y) (m : List Int) (hm : VM y m) (most : Int) (w1 : 0 ≤ most) (w2 : most ≤ 5) : ACalls Tryd.prog 16 [dYd y, ints m, i64 most] (.one (.dv (.list ((lv y.steps.length (nxt y) m most.toNat).1.map dEn)))) := by
  obtain ⟨v1, v2, v3, v4⟩ := validate_ok hv
  have hml := allIn_len hm
  have hmb := vm_bd hm
  have hkm := key_len hmb
  have hmne : m ≠ [] := fun e => by rw [e] at hml; simp at hml; omega
  have hP16 : (y.steps.length + 1) ^ most.toNat ≤ 16807 := Nat.le_trans (Nat.le_trans (Nat.pow_le_pow_left (show y.steps.length + 1 ≤ 7 by omega) _) (Nat.pow_le_pow_right (by omega) (show most.toNat ≤ 5 by omega))) (by decide)
  have hnv := nxt_vm hv
  refine callsA_of Tryd.func16 rfl rfl (by rw [Tryd.ntmps16]; simp) fun cx hP hn hg => ?_
  rw [Tryd.ntmps16] at hn
  rw [startF_lk, none_mkM]
  simp only [List.nil_append, List.append_nil, List.cons_append, zipSV, Nat.reduceAdd]
  refine awp_seq ?_
  refine rg ?_
  refine qp m_box ?_
  refine qv m_as ?_
  show AWp cx _ _ _
  refine awp_seq ?_
  refine rg ?_
  refine qv m_mv ?_
  refine qv (m_bld pl48 ze48) ?_
  refine qr (m_bsl el45 ze48 sz48) ?_
  refine qv m_as ?_
  show AWp cx _ _ _
  refine awp_mk (fun b hbn => ?_)
  refine cb (P := Tryd.prog) (N := 84) (fun cx1 hg1 hP1 hn1 hm1 => qv m_mv rfl) ?_
  refine cb (P := Tryd.prog) (N := 84) (fun cx1 hg1 hP1 hn1 hm1 => qqF (f28 m hmne (by omega) hmb) rfl) ?_
  refine cb_upd (.inl rfl) hbn (fun w hw => upd_run mobj_nil (by omega) (T := keyL m) (by omega) hw) (fun o hS => ?_)
  refine cb (P := Tryd.prog) (N := 84) (fun cx1 hg1 hP1 hn1 hm1 => qv m_mv rfl) ?_
  refine cb (P := Tryd.prog) (N := 84) (fun cx1 hg1 hP1 hn1 hm1 => qv m_as rfl) ?_
  refine cb_end ?_
  have hS0 : Seen o (st y.steps.length (nxt y) m 0) := ⟨[keyL m], hS, fun T => by simp [st, eq_comm]⟩
  show AWpB cx b _ _ _ _
  refine awpB_seq ?_
  refine awpB_seq ?_
  refine rgB (fun cx1 hg1 hP1 hn1 hm1 => ?_)
  refine qv m_as ?_
  show AWpB cx b _ _ _ _
  refine awpB_block ?_
  refine awpB_loop (ι := Nat) (fun i => ⟨lk [(2, .dv (i64 (most))), (3, .pt 3 0 0), (7, .sl 7 0 0 (st y.steps.length (nxt y) m i).length), (8, .val (.map (some b))), (9, .dv (i64 (i : Nat)))], mkM [(3, 0, some ⟨[.dv (i64 (y.places)), .dv (.list ((y.steps).map dStp))], 0, 24, 0, false⟩), (7, 0, some (rowE (st y.steps.length (nxt y) m i)))]⟩) (fun i o => Seen o (st y.steps.length (nxt y) m i) ∧ (∀ j (hj : j < (st y.steps.length (nxt y) m j).length), j < i → (st y.steps.length (nxt y) m j)[j].1.length < most.toNat) ∧ ∀ j, j < i → j < (st y.steps.length (nxt y) m j).length) (fun i => 20000 - i) 0 ⟨hS0, fun j hj h => by omega, fun j h => by omega⟩ (tl [(3, 3), (7, 15)] (hF := by simp [FLe, svLe, lk, mkM, isLive, tauL, st]) (hM := by simp [MLe, blkLe, svLe, svLes, lk, mkM, isLive, tauL, st, rowE, data_nilD, data_nilI])) ?_
  intro i o hφ0
  refine awpB_seq ?_
  refine awpB_seq ?_
  have hle := st_len m most.toNat i hφ0.2.1 hφ0.2.2
  refine rgB (fun cx1 hg1 hP1 hn1 hm1 => ?_)
  refine qv m_mv ?_
  refine qv m_mv ?_
  refine qv (m_lenR il45) ?_
  refine qv m_lss ?_
  refine qx m_mv (fun hg24 => ?_) (fun hg24 => ?_)
  · try simp at hg24
    obtain ⟨e, he⟩ : ∃ e, (st y.steps.length (nxt y) m i)[i]? = some e := ⟨_, List.getElem?_eq_getElem (by simpa using hg24)⟩
    obtain ⟨hr1, hr2⟩ := rowE_at he
    refine qv m_mv ?_
    refine qv m_mv ?_
    refine qv (m_ixR el45 sz48) ?_
    refine qv (m_fdp fd48_0) ?_
    refine qv (m_ldp sz25 ag25 (hc := hr1)) ?_
    refine qv (m_len il25) ?_
    refine qv m_mv ?_
    refine qv m_lss ?_
    refine qv m_pk ?_
    show AWpB cx b _ _ _ _
    refine cdB (fun hc0 => ?_) (fun hc0 => ?_)
    · try simp at hc0
      have hlt : e.1.length < most.toNat := by omega
      have hem : VM y e.2 := st_all hnv hm i e (List.mem_of_getElem? he)
      have hil : i < (st y.steps.length (nxt y) m i).length := (List.getElem?_eq_some_iff.1 he).1
      refine awpB_skip ?_
      show AWpB cx b _ _ _ _
      refine awpB_seq ?_
      refine awpB_block ?_
      refine awpB_seq ?_
      refine rgB (fun cx1 hg1 hP1 hn1 hm1 => ?_)
      refine qv (m_fdp fd24_1) ?_
      refine qv (m_ldp sz22 ag22) ?_
      refine qv (m_len il22) ?_
      refine qv m_mv ?_
      show AWpB cx b _ _ _ _
      refine awpB_block ?_
      refine awpB_loop (ι := Nat) (fun s => ⟨lk [(2, .dv (i64 (most))), (3, .pt 3 0 0), (7, .sl 7 0 0 (dd (st y.steps.length (nxt y) m i) (chp (nxt y) e (s))).length), (8, .val (.map (some b))), (9, .dv (i64 (i : Nat))), (38, .dv (i64 ((y.steps.length : Int)))), (39, .dv (i64 (s : Nat)))], mkM [(3, 0, some ⟨[.dv (i64 (y.places)), .dv (.list ((y.steps).map dStp))], 0, 24, 0, false⟩), (7, 0, some (rowE (dd (st y.steps.length (nxt y) m i) (chp (nxt y) e (s)))))]⟩) (fun s o => s ≤ y.steps.length ∧ Seen o (dd (st y.steps.length (nxt y) m i) (chp (nxt y) e (s)))) (fun s => y.steps.length - s) 0 ⟨Nat.zero_le _, hφ0.1⟩ (tl [(3, 3), (7, 7)] (hF := by simp [FLe, svLe, lk, mkM, isLive, tauL, chp, dd, rowE_esz, rowE_elem, rowE_st, rowE_row, rowE_dvs]) (hM := by simp [MLe, blkLe, svLe, svLes, lk, mkM, isLive, tauL, svLes_ints, svLes_self, isDvs, isDvs_map, isDvs_app, isDvs_take, isDvs_set, isDvs_repl, chp, dd, rowE_esz, rowE_elem, rowE_st, rowE_row, rowE_dvs])) ?_
      intro s o hφ1
      refine awpB_seq ?_
      refine rgB (fun cx1 hg1 hP1 hn1 hm1 => ?_)
      refine qv m_lss ?_
      show AWpB cx b _ _ _ _
      refine awpB_seq ?_
      refine cdB (fun hc1 => ?_) (fun hc1 => ?_)
      · try simp at hc1
        have hs : s < y.steps.length := by omega
        obtain ⟨hfit, hst⟩ := fits_of hv hem (by omega : (0 : Int) ≤ (s : Int)) (by omega)
        have hst2 : y.steps[s]? = some (stepAt y s) := by simpa using hst
        obtain ⟨t2, ht2⟩ := dd_pre (chp (nxt y) e s) (st y.steps.length (nxt y) m i)
        have he2 : (dd (st y.steps.length (nxt y) m i) (chp (nxt y) e (s)))[i]? = some e := by rw [ht2, List.getElem?_append_left hil]; exact he
        obtain ⟨hr3, hr4⟩ := rowE_at he2
        have hil2 := (List.getElem?_eq_some_iff.1 he2).1
        have hl2 := dd_len (chp (nxt y) e s) (st y.steps.length (nxt y) m i)
        have hl3 := chp_len (nx := nxt y) e s
        have hvm2 : ∀ q ∈ dd (st y.steps.length (nxt y) m i) (chp (nxt y) e (s)), VM y q.2 := dd_all (st_all hnv hm i) fun q hq => chs_all hnv hem q (by unfold chp at hq; unfold chs; obtain ⟨j, h1, h2⟩ := List.mem_filterMap.1 hq; have := List.mem_range.1 h1; exact List.mem_filterMap.2 ⟨j, List.mem_range.2 (by omega), h2⟩)
        obtain ⟨Ks, hMO, hKs⟩ := hφ1.2
        refine awpB_skip ?_
        show AWpB cx b _ _ _ _
        refine awpB_seq ?_
        refine awpB_block ?_
        refine awpB_seq ?_
        refine rgB (fun cx1 hg1 hP1 hn1 hm1 => ?_)
        refine qv m_mv ?_
        refine qv m_as ?_
        show AWpB cx b _ _ _ _
        refine awpB_seq ?_
        refine rdB mixed (fun cx1 hg1 hP1 hn1 hm1 => ?_)
        refine zv (m_fdp fd24_1) ?_
        refine zv (m_ldp sz22 ag22) ?_
        refine zv m_mv ?_
        first | refine zv (m_ixN el22 sz39) ?_ | refine zv (m_ix el22 sz39) ?_
        refine zv (m_lda sz39 ag39) ?_
        refine zv m_mv ?_
        refine zv m_mv ?_
        refine zv (m_ixR el45 sz48) ?_
        refine zv (m_fdp fd48_1) ?_
        refine zv (m_ldp sz25 ag25 (hc := hr4)) ?_
        refine zqF (R := []) (show ACallsF Tryd.prog 29 [dStp (stepAt y s), ints e.2] (.many [rI (doR y e.2 s).1, .dv (i64 (doR y e.2 s).2)]) from f29 (stepAt y s) e.2 hfit) ?_
        refine zv m_mv ?_
        refine zv m_ext ?_
        refine zv m_ext ?_
        refine zv m_as ?_
        refine zv m_as ?_
        refine ⟨by rfl, ?_⟩
        show AWpB cx b _ _ _ _
        refine awpB_seq ?_
        refine awpB_frz 53 ?_
        refine awpB_sink 11 (d := ints (doR y e.2 s).1) (data_ints (L := (doR y e.2 s).1) (by simp only [mkM, reduceIte, Nat.reduceEqDiff] <;> rfl) rfl rfl rfl rfl (fun _ => trivial)) hg ?_
        refine rgB (fun cx1 hg1 hP1 hn1 hm1 => ?_)
        refine qv m_mv ?_
        refine qv m_eql ?_
        refine qx m_mv (fun hg58 => ?_) (fun hg58 => ?_)
        · try simp at hg58
          have he0 : (doR y e.2 s).2 = 0 := by simpa using hg58
          have hfv : VM y (doR y e.2 s).1 := (after_vm hv hem (by omega : (0 : Int) ≤ (s : Int)) (by omega) he0).1
          have hfl := allIn_len hfv
          have hfb := vm_bd hfv
          have hfk := key_len hfb
          have hfne : (doR y e.2 s).1 ≠ [] := fun h => by rw [h] at hfl; simp at hfl; omega
          have hyes := nxt_ok he0
          have hsh := seen_has hvm2 hfv hKs
          refine qv m_mv ?_
          refine qv m_mv ?_
          refine qqF (f28 (doR y e.2 s).1 hfne (by omega) hfb) ?_
          refine q_look hm1 (fun w hw => look_run hMO (T := keyL (doR y e.2 s).1) (by omega) hw) ?_
          refine qv m_not ?_
          try (have hne58 : (doR y e.2 s).2 ≠ 0 := by simpa using hg58)
          try (have hA2 : dd (st y.steps.length (nxt y) m i) (chp (nxt y) e (s + 1)) = dd (st y.steps.length (nxt y) m i) (chp (nxt y) e (s)) := by rw [chp_no (nxt_no hne58)])
          try (have hS2 : Seen o (dd (st y.steps.length (nxt y) m i) (chp (nxt y) e (s + 1))) := by rw [hA2]; exact hφ1.2)
          refine qv m_pk ?_
          show AWpB cx b _ _ _ _
          refine cdB (fun hc2 => ?_) (fun hc2 => ?_)
          · skip
            have hnew : has (dd (st y.steps.length (nxt y) m i) (chp (nxt y) e (s))) (doR y e.2 s).1 = false := by rw [← hsh]; simpa using hc2
            have hA2 : dd (st y.steps.length (nxt y) m i) (chp (nxt y) e (s + 1)) = dd (st y.steps.length (nxt y) m i) (chp (nxt y) e (s)) ++ [(e.1 ++ [(s : Int)], (doR y e.2 s).1)] := by rw [chp_ok hyes, dd_one, dd_add hnew]
            refine awpB_seq ?_
            refine awpB_chain ?_
            refine cb (P := Tryd.prog) (N := 84) (fun cx1 hg1 hP1 hn1 hm1 => qv m_mv rfl) ?_
            refine cb (P := Tryd.prog) (N := 84) (fun cx1 hg1 hP1 hn1 hm1 => qv m_mv rfl) ?_
            refine cb (P := Tryd.prog) (N := 84) (fun cx1 hg1 hP1 hn1 hm1 => qqF (f28 (doR y e.2 s).1 hfne (by omega) hfb) rfl) ?_
            refine cb_upd (.inr rfl) hbn (fun w hw => upd_run hMO (by omega) (T := keyL (doR y e.2 s).1) (by omega) hw) (fun o hS3 => ?_)
            refine cb_end ?_
            have hS2 : Seen o (dd (st y.steps.length (nxt y) m i) (chp (nxt y) e (s + 1))) := by rw [hA2]; exact seen_put (e := (e.1 ++ [(s : Int)], (doR y e.2 s).1)) hS3 hKs
            show AWpB cx b _ _ _ _
            refine rgB (fun cx1 hg1 hP1 hn1 hm1 => ?_)
            refine qv m_mv ?_
            refine qv m_mv ?_
            refine qv m_mv ?_
            refine qv (m_ixR el45 sz48) ?_
            refine qv (m_fdp fd48_0) ?_
            refine qv (m_ldp sz25 ag25 (hc := hr3)) ?_
            refine qqF (f30 e.1 (by omega)) ?_
            refine qv m_mv ?_
            refine qr (m_bsl el25 ze3 sz3) ?_
            refine qa1 (m_app1 el25 el25 ze3 sz3 by3 (hc := ints_snoc)) ?_
            refine qv m_mv ?_
            refine qv (m_bld pl48 ze48) ?_
            refine qr (m_bsl el45 ze48 sz48) ?_
            refine qa1 (m_app1 el45 el45 ze48 sz48 by48 (hln := rowE_len _)) ?_
            refine qv m_as ?_
            show AWpB cx b _ _ _ _
            try (refine awpB_frz 77 ?_; refine awpB_sinkB 81 (cs := (rowE (dd (st y.steps.length (nxt y) m i) (chp (nxt y) e (s)) ++ [(e.1 ++ [(s : Int)], (doR y e.2 s).1)])).cells) (by simp only [mkM, reduceIte, Nat.reduceEqDiff] <;> rfl) (by rw [rowE_snoc]; exact sinkC_app (sinkC_refl _) ⟨.inr ⟨_, rfl, data_ints (L := e.1 ++ [(s : Int)]) (by simp only [mkM, reduceIte, Nat.reduceEqDiff] <;> rfl) rfl (by simp) rfl rfl (fun _ => trivial)⟩, .inl rfl, trivial⟩) hg ?_)
            refine rgB (fun cx1 hg1 hP1 hn1 hm1 => ?_)
            refine qv m_add ?_
            refine qv m_mv ?_
            exact ⟨s + 1, ⟨hs, hS2⟩, (by simp only; omega), (tl [(3, 3), (7, 81)] (hF := by simp [FLe, svLe, lk, mkM, isLive, tauL, hA2, rowE_esz, rowE_elem, rowE_st, rowE_row, rowE_dvs]) (hM := by simp [MLe, blkLe, svLe, svLes, lk, mkM, isLive, tauL, svLes_ints, svLes_self, isDvs, isDvs_map, isDvs_app, isDvs_take, isDvs_set, isDvs_repl, hA2, rowE_esz, rowE_elem, rowE_st, rowE_row, rowE_dvs]))⟩
          · skip
            have hold : has (dd (st y.steps.length (nxt y) m i) (chp (nxt y) e (s))) (doR y e.2 s).1 = true := by rw [← hsh]; simpa using hc2
            have hA2 : dd (st y.steps.length (nxt y) m i) (chp (nxt y) e (s + 1)) = dd (st y.steps.length (nxt y) m i) (chp (nxt y) e (s)) := by rw [chp_ok hyes, dd_one, dd_old hold]
            have hS2 : Seen o (dd (st y.steps.length (nxt y) m i) (chp (nxt y) e (s + 1))) := by rw [hA2]; exact hφ1.2
            refine awpB_skip ?_
            show AWpB cx b _ _ _ _
            try (refine awpB_frz 77 ?_; refine awpB_sinkB 81 (cs := (rowE (dd (st y.steps.length (nxt y) m i) (chp (nxt y) e (s)) ++ [(e.1 ++ [(s : Int)], (doR y e.2 s).1)])).cells) (by simp only [mkM, reduceIte, Nat.reduceEqDiff] <;> rfl) (by rw [rowE_snoc]; exact sinkC_app (sinkC_refl _) ⟨.inr ⟨_, rfl, data_ints (L := e.1 ++ [(s : Int)]) (by simp only [mkM, reduceIte, Nat.reduceEqDiff] <;> rfl) rfl (by simp) rfl rfl (fun _ => trivial)⟩, .inl rfl, trivial⟩) hg ?_)
            refine rgB (fun cx1 hg1 hP1 hn1 hm1 => ?_)
            refine qv m_add ?_
            refine qv m_mv ?_
            exact ⟨s + 1, ⟨hs, hS2⟩, (by simp only; omega), (tl [(3, 3), (7, 7)] (hF := by simp [FLe, svLe, lk, mkM, isLive, tauL, hA2, rowE_esz, rowE_elem, rowE_st, rowE_row, rowE_dvs]) (hM := by simp [MLe, blkLe, svLe, svLes, lk, mkM, isLive, tauL, svLes_ints, svLes_self, isDvs, isDvs_map, isDvs_app, isDvs_take, isDvs_set, isDvs_repl, hA2, rowE_esz, rowE_elem, rowE_st, rowE_row, rowE_dvs]))⟩
        · try simp at hg58
          refine qk ?_
          refine qk ?_
          refine qk ?_
          refine qk ?_
          refine qk ?_
          try (have hne58 : (doR y e.2 s).2 ≠ 0 := by simpa using hg58)
          try (have hA2 : dd (st y.steps.length (nxt y) m i) (chp (nxt y) e (s + 1)) = dd (st y.steps.length (nxt y) m i) (chp (nxt y) e (s)) := by rw [chp_no (nxt_no hne58)])
          try (have hS2 : Seen o (dd (st y.steps.length (nxt y) m i) (chp (nxt y) e (s + 1))) := by rw [hA2]; exact hφ1.2)
          refine qv m_pk ?_
          show AWpB cx b _ _ _ _
          refine cdFB (hb := by first | rfl | simp | simp_all) (ht := ?_)
          refine awpB_skip ?_
          show AWpB cx b _ _ _ _
          try (refine awpB_frz 77 ?_; refine awpB_sinkB 81 (cs := (rowE (dd (st y.steps.length (nxt y) m i) (chp (nxt y) e (s)) ++ [(e.1 ++ [(s : Int)], (doR y e.2 s).1)])).cells) (by simp only [mkM, reduceIte, Nat.reduceEqDiff] <;> rfl) (by rw [rowE_snoc]; exact sinkC_app (sinkC_refl _) ⟨.inr ⟨_, rfl, data_ints (L := e.1 ++ [(s : Int)]) (by simp only [mkM, reduceIte, Nat.reduceEqDiff] <;> rfl) rfl (by simp) rfl rfl (fun _ => trivial)⟩, .inl rfl, trivial⟩) hg ?_)
          refine rgB (fun cx1 hg1 hP1 hn1 hm1 => ?_)
          refine qv m_add ?_
          refine qv m_mv ?_
          exact ⟨s + 1, ⟨hs, hS2⟩, (by simp only; omega), (tl [(3, 3), (7, 7)] (hF := by simp [FLe, svLe, lk, mkM, isLive, tauL, hA2, rowE_esz, rowE_elem, rowE_st, rowE_row, rowE_dvs]) (hM := by simp [MLe, blkLe, svLe, svLes, lk, mkM, isLive, tauL, svLes_ints, svLes_self, isDvs, isDvs_map, isDvs_app, isDvs_take, isDvs_set, isDvs_repl, hA2, rowE_esz, rowE_elem, rowE_st, rowE_row, rowE_dvs]))⟩
      · try simp at hc1
        obtain rfl : s = y.steps.length := by omega
        have hAn := st_succ he
        rw [← chp_all] at hAn
        have h1n : ∀ j (hj : j < (st y.steps.length (nxt y) m j).length), j < i + 1 → (st y.steps.length (nxt y) m j)[j].1.length < most.toNat := fun j hj h => by
          rcases Nat.lt_or_ge j i with h5 | h5
          · exact hφ0.2.1 j hj h5
          · obtain rfl : j = i := by omega
            rw [(List.getElem?_eq_some_iff.1 he).2]; exact hlt
        have h2n : ∀ j, j < i + 1 → j < (st y.steps.length (nxt y) m j).length := fun j h => by
          rcases Nat.lt_or_ge j i with h5 | h5
          · exact hφ0.2.2 j h5
          · obtain rfl : j = i := by omega
            exact hil
        refine awpB_exit ?_
        show AWpB cx b _ _ _ _
        refine rgB (fun cx1 hg1 hP1 hn1 hm1 => ?_)
        refine qv m_mv ?_
        refine qv m_add ?_
        refine qv m_as ?_
        exact ⟨i + 1, ⟨by rw [← hAn]; exact hφ1.2, h1n, h2n⟩, (by simp only; omega), (tl [(3, 3), (7, 7)] (hF := by simp [FLe, svLe, lk, mkM, isLive, tauL, rowE_esz, rowE_elem, rowE_st, rowE_row, rowE_dvs, hAn]) (hM := by simp [MLe, blkLe, svLe, svLes, lk, mkM, isLive, tauL, svLes_ints, svLes_self, isDvs, isDvs_map, isDvs_app, isDvs_take, isDvs_set, isDvs_repl, rowE_esz, rowE_elem, rowE_st, rowE_row, rowE_dvs, hAn]))⟩
    · try simp at hc0
      have hend := st_end m most.toNat i hφ0.2.1 hφ0.2.2 (.inr ⟨(List.getElem?_eq_some_iff.1 he).1, by rw [(List.getElem?_eq_some_iff.1 he).2]; omega⟩)
      refine awpB_exit ?_
      show AWpB cx b _ _ _ _
      refine awpB_seq ?_
      refine rgB (fun cx1 hg1 hP1 hn1 hm1 => ?_)
      refine qv m_mv ?_
      refine qv m_as ?_
      show AWpB cx b _ _ _ _
      refine awpB_ret ?_
      rw [← hend]
      exact x1 (hr := rDt_ (data_rowE (L := st y.steps.length (nxt y) m i) (by simp only [mkM, reduceIte, Nat.reduceEqDiff] <;> rfl) trivial rfl (fun _ => trivial)))
  · try simp at hg24
    refine qk ?_
    refine qk ?_
    refine qk ?_
    refine qk ?_
    refine qk ?_
    refine qk ?_
    refine qk ?_
    refine qk ?_
    refine qv m_pk ?_
    show AWpB cx b _ _ _ _
    refine cdFB (hb := by first | rfl | simp | simp_all) (ht := ?_)
    refine awpB_exit ?_
    show AWpB cx b _ _ _ _
    refine awpB_seq ?_
    refine rgB (fun cx1 hg1 hP1 hn1 hm1 => ?_)
    refine qv m_mv ?_
    refine qv m_as ?_
    show AWpB cx b _ _ _ _
    refine awpB_ret ?_
    have hend := st_end m most.toNat i hφ0.2.1 hφ0.2.2 (.inl (st_close m i hφ0.2.2 hg24))
    rw [← hend]
    exact x1 (hr := rDt_ (data_rowE (L := st y.steps.length (nxt y) m i) (by simp only [mkM, reduceIte, Nat.reduceEqDiff] <;> rfl) trivial rfl (fun _ => trivial)))
end Go.Ab.Tryd
