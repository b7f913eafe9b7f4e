/- Dry19, Ab53, Dry33, Dry36, Dry34. -/
import Derived.Test.YtjlfgobbieljoaaBogG26
import Derived.Test.YtjlfgobbieljoaaBogG26
import Derived.Test.YtjlfgobbieljoaaBogG10
import Derived.Test.YtjlfgobbieljoaaBogG26
import Derived.Test.YtjlfgobbieljoaaBogG13
import Derived.Test.YtjlfgobbieljoaaBogG15
set_option linter.all false
set_option linter.all false
namespace Go.Ab.Try
open Go Go.Ab Go.Proofs
theorem wrap_u64 {n : Int} (h1 : 0 ≤ n) (h2 : n < 18446744073709551616) : IntKind.u64.wrap n = n := by
  have e : IntKind.u64.wrap n = n % 18446744073709551616 := by
    simp only [IntKind.wrap, IntKind.bits, IntKind.signed]
    rfl
  rw [e]; omega
end Go.Ab.Try
set_option linter.all false
namespace Go.Ab
open Go.RowKit
section
variable {cx : Cx} {S : St} {ops : Array Oper} {o : Oper} {rest : List Oper} {K : St → Prop} {l : List (Nat × SV)} {m : List (Nat × Nat × Option Blk)}
theorem told_sim {a : Act} {w : World} (hg : cx.Good) (h : Sim cx S a w) {d : Nat} {x : DV} (hD : Lasting S.M (S.F d) x) : Sim cx ⟨fun i => if i = d then .dv x else S.F i, S.M⟩ a w := by
  obtain ⟨μ, h⟩ := h
  refine ⟨μ, h.blk, fun i => ?_, h.place, h.uniq, h.anc, h.below, h.size, h.defers⟩
  by_cases hi : i = d
  · subst hi
    simp only [if_true]
    have := frzd_rep hg h hD _ (h.slot i)
    simpa only [SVRep] using this
  · simp only [if_neg hi]
    exact h.slot i
theorem ch_told (t d : Nat) {g : Nat} {b : Blk} {x : DV} (k : Chain cx ops (o :: rest) ⟨lk ((d, .dv x) :: l), mkM ((t, g, some { b with st := 1 }) :: m)⟩ K) (h0 : mkM m t = (g, some b) := by (simp only [mkM, reduceIte, Nat.reduceEqDiff] <;> rfl)) (h1 : OwS b.st ∨ b.st = 1 := by (first | exact .inl (.inl rfl) | exact .inr rfl | exact .inl (.inr (Nat.le_of_ble_eq_true rfl))))
    (hD : Lasting (mkM ((t, g, some { b with st := 1 }) :: m)) (lk l d) x) (hgd : o.guard = none := by rfl) : Chain cx ops (o :: rest) ⟨lk l, mkM m⟩ K := by
  obtain ⟨S', hs, hk⟩ := k
  refine ⟨S', ?_, hk⟩
  unfold GStep at hs ⊢
  rw [hgd] at hs ⊢
  simp only at hs ⊢
  have hl := Le.freeze (cx := cx) (S := ⟨lk l, mkM m⟩) h0 h1
  rw [upd_mkM] at hl
  exact .sem fun hg a w h => Step.does hg (told_sim hg (hl a w h) (d := d) (x := x) hD) hs
end
end Go.Ab
set_option linter.all false
namespace Go.Ab.Try
open Go Go.Ab Go.Proofs
open Go.Ab.Rank
abbrev rowB (L : List (List Int)) : Blk := ⟨L.map fun r => .dv (ints r), 1, 25, 0, true⟩
theorem data_rowsB {ok : Nat → Prop} {okd : DV → Prop} {M : Nat → Nat × Option Blk} {t g n : Nat} {L : List (List Int)} (hM : M t = (g, some (rowB L))) (hst : ok 0) (hl : L.length = n) (hd : ∀ l, okd (ints l)) : Data ok okd M (.sl t g 0 n) (.list (L.map ints)) := by
  refine data_cells (blk := rowB L) hM hst (by simpa using hl) (fun d h => by obtain ⟨s, _, rfl⟩ := List.mem_map.1 h; rfl) ?_
  have : flat (L.map ints) = L.map ints := flat_one fun _ => rfl
  rw [this]
  show ArgsSV (Data ok okd M) (L.map fun r => .dv (ints r)) (L.map ints)
  clear hM hl this
  induction L with
  | nil => exact args_nil
  | cons r L ih => exact args_cons (.dv _ (hd r)) ih
theorem data_rowsC {ok : Nat → Prop} {okd : DV → Prop} {M : Nat → Nat × Option Blk} {t g n st : Nat} {L : List (List Int)} (hM : M t = (g, some ⟨L.map fun r => .dv (ints r), 1, 25, st, true⟩)) (hst : ok st) (hl : L.length = n) (hd : ∀ l, okd (ints l)) : Data ok okd M (.sl t g 0 n) (.list (L.map ints)) := by
  refine data_cells (blk := ⟨L.map fun r => .dv (ints r), 1, 25, st, true⟩) hM hst (by simpa using hl) (fun d h => by obtain ⟨s, _, rfl⟩ := List.mem_map.1 h; rfl) ?_
  have : flat (L.map ints) = L.map ints := flat_one fun _ => rfl
  rw [this]
  show ArgsSV (Data ok okd M) (L.map fun r => .dv (ints r)) (L.map ints)
  clear hM hl this
  induction L with
  | nil => exact args_nil
  | cons r L ih => exact args_cons (.dv _ (hd r)) ih
theorem intsM_inj : ∀ {a b : List Int}, a.map (DV.int .i64) = b.map (DV.int .i64) → a = b
  | [], [], _ => rfl
  | [], _ :: _, h => by simp at h
  | _ :: _, [], h => by simp at h
  | x :: a, y :: b, h => by
    simp only [List.map_cons, List.cons.injEq, DV.int.injEq, true_and] at h
    rw [h.1, intsM_inj h.2]
theorem svLes_rows {τ : Nat → Option Nat} {M M' : Nat → Nat × Option Blk} : ∀ {L L' : List (List Int)}, svLes τ M M' (L.map fun r => .dv (ints r)) (L'.map fun r => .dv (ints r)) ↔ L = L'
  | [], [] => by simp [svLes]
  | [], _ :: _ => by simp [svLes]
  | _ :: _, [] => by simp [svLes]
  | a :: L, b :: L' => by
    simp only [List.map_cons, svLes, svLe, List.cons.injEq]
    rw [svLes_rows (L := L) (L' := L')]
    refine and_congr_left fun _ => ⟨fun h => ?_, fun h => by rw [h]⟩
    have h2 : a.map (DV.int .i64) = b.map (DV.int .i64) := by simpa [ints] using h
    exact intsM_inj h2
theorem rows_snoc {L : List (List Int)} {v : List Int} : (L.map fun r => SV.dv (ints r)) ++ [SV.dv (ints v)] = (L ++ [v]).map fun r => .dv (ints r) := by simp
def pkr (k m : Nat) : List Int := ns (pick k m)
def setsM (n k m : Nat) : List (List Int) := (((List.range m).map (pick n)).filter fun l => l.length == k).map ns
theorem setsM_all {n k : Nat} : setsM n k (2 ^ n) = (setsL n k).map ns := rfl
theorem setsM_zero {n k : Nat} : setsM n k 0 = [] := rfl
theorem setsM_yes {n k m : Nat} (h : (pkr n m).length = k) : setsM n k (m + 1) = setsM n k m ++ [pkr n m] := by
  unfold pkr at *
  simp only [List.length_map] at h
  unfold setsM
  rw [List.range_succ, List.map_append, List.filter_append]
  simp [h]
theorem setsM_no {n k m : Nat} (h : ¬ (pkr n m).length = k) : setsM n k (m + 1) = setsM n k m := by
  unfold pkr at h
  simp only [List.length_map] at h
  unfold setsM
  rw [List.range_succ, List.map_append, List.filter_append]
  simp [h]
theorem setsM_len {n k m : Nat} : (setsM n k m).length ≤ m := by
  unfold setsM
  rw [List.length_map]
  exact Nat.le_trans (List.length_filter_le _ _) (by simp)
theorem pick_len {n m : Nat} : (pick n m).length ≤ n := by
  unfold pick
  exact Nat.le_trans (List.length_filter_le _ _) (by simp)
theorem pkr_len {k m : Nat} : (pkr k m).length ≤ k := by unfold pkr; rw [List.length_map]; exact pick_len
theorem pkr_zero {m : Nat} : pkr 0 m = [] := rfl
theorem pkr_yes {m k : Nat} (h : m / 2 ^ k % 2 = 1) : pkr (k + 1) m = pkr k m ++ [(k : Int)] := by
  unfold pkr pick
  rw [List.range_succ, List.filter_append]
  have : m.testBit k = true := by rw [Nat.testBit_eq_decide_div_mod_eq]; simpa using h
  simp [this]
theorem pkr_no {m k : Nat} (h : ¬ m / 2 ^ k % 2 = 1) : pkr (k + 1) m = pkr k m := by
  unfold pkr pick
  rw [List.range_succ, List.filter_append]
  have : m.testBit k = false := by rw [Nat.testBit_eq_decide_div_mod_eq]; simpa using h
  simp [this]
set_option maxHeartbeats 4000000 in
theorem f92 (n k : Nat) (h6 : n ≤ 6) (hk6 : k ≤ 6) : ACalls Try.prog 92 [i64 (n : Nat), i64 (k : Nat)] (.one (.dv (.list (((setsL n k).map ns).map ints)))) := by
  have hpw : (2 : Int) ^ n ≤ 64 := by
    have := Nat.pow_le_pow_right (n := 2) (by omega) h6
    exact_mod_cast this
  have hpw0 : (0 : Int) ≤ 2 ^ n := by
    have := Nat.zero_le (2 ^ n)
    exact_mod_cast this
  have hpn : 2 ^ n ≤ 64 := Nat.pow_le_pow_right (n := 2) (by omega) h6
  refine callsA_of Try.func92 rfl rfl (by rw [Try.ntmps92]; simp) fun cx hP hn hg => ?_
  rw [Try.ntmps92] at hn
  rw [startF_lk, none_mkM]
  simp only [List.nil_append, List.append_nil, List.cons_append, zipSV, Nat.reduceAdd]
  refine awp_seq ?_
  refine rg ?_
  refine qv m_as ?_
  show AWp cx _ _ _
  refine awp_seq ?_
  refine rg ?_
  refine qv m_as ?_
  show AWp cx _ _ _
  refine awp_seq ?_
  refine awp_seq ?_
  refine rg ?_
  refine qv m_as ?_
  show AWp cx _ _ _
  refine awp_block ?_
  refine awp_loop (ι := Nat) (fun m => ⟨lk [(0, .dv (i64 (((n : Nat) : Int)))), (1, .dv (i64 (((k : Nat) : Int)))), (5, .sl 5 0 0 ((setsM n k m).length)), (6, .dv (i64 (m : Nat)))], mkM [(5, 0, some (rowB (setsM n k m)))]⟩) (fun m => m ≤ 2 ^ n) (fun m => 2 ^ n - m) 0 (by simp) (tl [] (hF := by simp [FLe, svLe, lk, mkM, isLive, tauL, setsM_zero, svLes_rows]) (hM := by simp [MLe, blkLe, svLe, svLes, lk, mkM, isLive, tauL, svLes_ints, svLes_self, isDvs, isDvs_map, isDvs_app, isDvs_take, isDvs_set, isDvs_repl, setsM_zero, svLes_rows])) ?_
  intro m hφ0
  refine awp_seq ?_
  refine awp_seq ?_
  refine rg ?_
  refine qv m_mv ?_
  refine qv m_mv ?_
  refine qv (m_cnv kd3 kd100 (hw := by rw [wrap_u64 (by omega) (by omega)])) ?_
  refine qv (m_shl (b := n)) ?_
  refine qv m_lss ?_
  show AWp cx _ _ _
  refine cd (fun hc0 => ?_) (fun hc0 => ?_)
  · try simp at hc0
    have hm2 : m < 2 ^ n := by exact_mod_cast hc0
    have hsl := setsM_len (n := n) (k := k) (m := m)
    refine awp_skip ?_
    show AWp cx _ _ _
    refine awp_seq ?_
    refine awp_block ?_
    refine awp_seq ?_
    refine rg ?_
    refine qv m_as ?_
    show AWp cx _ _ _
    refine awp_seq ?_
    refine awp_seq ?_
    refine rg ?_
    refine qv m_as ?_
    show AWp cx _ _ _
    refine awp_block ?_
    refine awp_loop (ι := Nat) (fun j => ⟨lk [(0, .dv (i64 (((n : Nat) : Int)))), (1, .dv (i64 (((k : Nat) : Int)))), (5, .sl 5 0 0 (setsM n k m).length), (6, .dv (i64 (m : Nat))), (7, .sl 7 0 0 ((pkr j m).length)), (8, .dv (i64 (j : Nat)))], mkM [(5, 0, some (rowB (setsM n k m))), (7, 0, some (rowI (pkr j m)))]⟩) (fun j => j ≤ n) (fun j => n - j) 0 (by simp) (tl [(5, 5)] (hF := by simp [FLe, svLe, lk, mkM, isLive, tauL, pkr_zero]) (hM := by simp [MLe, blkLe, svLe, svLes, lk, mkM, isLive, tauL, svLes_ints, svLes_self, isDvs, isDvs_map, isDvs_app, isDvs_take, isDvs_set, isDvs_repl, pkr_zero])) ?_
    intro j hφ1
    refine awp_seq ?_
    refine awp_seq ?_
    refine rg ?_
    refine qv m_mv ?_
    refine qv m_mv ?_
    refine qv m_lss ?_
    show AWp cx _ _ _
    refine cd (fun hc1 => ?_) (fun hc1 => ?_)
    · try simp at hc1
      refine awp_skip ?_
      show AWp cx _ _ _
      refine awp_seq ?_
      refine awp_block ?_
      refine awp_seq ?_
      refine rg ?_
      have hj2 : j < n := by omega
      have hmk := Nat.div_le_self m (2 ^ j)
      have hpl := pkr_len (k := j) (m := m)
      have hm64 : m < 64 := by omega
      refine qv m_mv ?_
      refine qv m_mv ?_
      refine qv (m_cnv kd3 kd100 (hw := by rw [wrap_u64 (by omega) (by omega)])) ?_
      refine qv (m_shr (a := m) (b := j)) ?_
      refine qv (m_and1 (a := m / 2 ^ j) (by omega)) ?_
      refine qv m_eql ?_
      show AWp cx _ _ _
      refine cd (fun hc2 => ?_) (fun hc2 => ?_)
      · try simp at hc2
        have hsk := pkr_yes (m := m) (k := j) (by exact_mod_cast hc2)
        refine rg ?_
        refine qv m_mv ?_
        refine qv m_mv ?_
        refine qr (m_bsl el25 ze3 sz3) ?_
        refine qa1 (m_app1 el25 el25 ze3 sz3 by3) ?_
        refine qv m_as ?_
        show AWp cx _ _ _
        refine rg ?_
        refine qv m_mv ?_
        refine qv m_add ?_
        refine qv m_as ?_
        exact ⟨j + 1, hj2, (by simp only; omega), (tl [(5, 5), (7, 30)] (hF := by simp [FLe, svLe, lk, mkM, isLive, tauL, hsk]) (hM := by simp [MLe, blkLe, svLe, svLes, lk, mkM, isLive, tauL, svLes_ints, svLes_self, isDvs, isDvs_map, isDvs_app, isDvs_take, isDvs_set, isDvs_repl, hsk]))⟩
      · try simp at hc2
        have hsk := pkr_no (m := m) (k := j) (fun h => hc2 (by exact_mod_cast h))
        refine awp_skip ?_
        show AWp cx _ _ _
        refine rg ?_
        refine qv m_mv ?_
        refine qv m_add ?_
        refine qv m_as ?_
        exact ⟨j + 1, hj2, (by simp only; omega), (tl [(5, 5), (7, 7)] (hF := by simp [FLe, svLe, lk, mkM, isLive, tauL, hsk]) (hM := by simp [MLe, blkLe, svLe, svLes, lk, mkM, isLive, tauL, svLes_ints, svLes_self, isDvs, isDvs_map, isDvs_app, isDvs_take, isDvs_set, isDvs_repl, hsk]))⟩
    · try simp at hc1
      refine awp_exit ?_
      show AWp cx _ _ _
      refine awp_seq ?_
      refine rg ?_
      obtain rfl : j = n := by omega
      have hpl := pkr_len (k := j) (m := m)
      refine qv m_mv ?_
      refine qv (m_lenR il25) ?_
      refine qv m_mv ?_
      refine qv m_eql ?_
      show AWp cx _ _ _
      refine cd (fun hc3 => ?_) (fun hc3 => ?_)
      · try simp at hc3
        have hst := setsM_yes (n := j) (k := k) (m := m) (by omega)
        refine rg ?_
        refine qv m_mv ?_
        refine ch_told 7 7 (x := ints (pkr j m)) ?_ (hD := (data_ints (L := pkr j m) (by simp only [mkM, reduceIte, Nat.reduceEqDiff] <;> rfl) rfl (by simp) rfl rfl (fun _ => trivial)))
        refine qv m_mv ?_
        refine qr (m_bsl el91 ze25 sz25) ?_
        refine qa1 (m_app1 el91 el91 ze25 sz25 by25 (hc := rows_snoc)) ?_
        refine qv m_as ?_
        show AWp cx _ _ _
        refine rg ?_
        refine qv m_mv ?_
        refine qv m_add ?_
        refine qv m_as ?_
        exact ⟨m + 1, hm2, (by simp only; omega), (tl [(5, 38)] (hF := by simp [FLe, svLe, lk, mkM, isLive, tauL, hst, svLes_rows]) (hM := by simp [MLe, blkLe, svLe, svLes, lk, mkM, isLive, tauL, svLes_ints, svLes_self, isDvs, isDvs_map, isDvs_app, isDvs_take, isDvs_set, isDvs_repl, hst, svLes_rows]))⟩
      · try simp at hc3
        have hst := setsM_no (n := j) (k := k) (m := m) (by omega)
        refine awp_skip ?_
        show AWp cx _ _ _
        refine rg ?_
        refine qv m_mv ?_
        refine qv m_add ?_
        refine qv m_as ?_
        exact ⟨m + 1, hm2, (by simp only; omega), (tl [(5, 5)] (hF := by simp [FLe, svLe, lk, mkM, isLive, tauL, hst, svLes_rows]) (hM := by simp [MLe, blkLe, svLe, svLes, lk, mkM, isLive, tauL, svLes_ints, svLes_self, isDvs, isDvs_map, isDvs_app, isDvs_take, isDvs_set, isDvs_repl, hst, svLes_rows]))⟩
  · try simp at hc0
    refine awp_exit ?_
    show AWp cx _ _ _
    refine awp_seq ?_
    refine rg ?_
    refine qv m_mv ?_
    refine qv m_as ?_
    show AWp cx _ _ _
    refine awp_ret ?_
    have hme : m = 2 ^ n := Nat.le_antisymm hφ0 (by exact_mod_cast hc0)
    rw [← setsM_all, ← hme]
    exact x1 (hr := rDt_ (data_rowsB (L := setsM n k m) (by simp only [mkM, reduceIte, Nat.reduceEqDiff] <;> rfl) trivial rfl (fun _ => trivial)))
end Go.Ab.Try
set_option linter.all false
namespace Go.Ab.Try
open Go Go.Ab Go.Proofs
theorem f90 (l : List Int) (c : Nat) (hc : c < l.length) : ACallsF Try.prog 90 ([] ++ [ints l] ++ [.cptr [i64 (c : Nat)]]) (.one (.dv (.bool (sg l c != 0)))) := by
  have hgc := sg_get hc
  refine callsF_of Try.func90 rfl rfl (by rw [Try.ntmps90]; simp) fun cx hP hn hg => ?_
  rw [Try.ntmps90] at hn
  rw [startF_lk, none_mkM]
  simp only [List.nil_append, List.append_nil, List.cons_append, zipSV, Nat.reduceAdd]
  refine awp_seq ?_
  refine rg ?_
  refine qv m_as ?_
  show AWp cx _ _ _
  refine awp_seq ?_
  refine rg ?_
  refine qv m_mv ?_
  refine qv (m_ld sz3 ag3) ?_
  first | refine qv (m_ixN el25 sz3) ?_ | refine qv (m_ix el25 sz3) ?_
  refine qv (m_ld sz3 ag3) ?_
  refine qv m_neq ?_
  refine qv m_as ?_
  show AWp cx _ _ _
  refine awp_ret ?_
  exact x1 (hr := (rB_))
theorem f89 (L : List (List Int)) (c : Nat) (hw : ∀ l ∈ L, c < l.length) (hl : L.length < 1000000) : ACallsF Try.prog 89 [.list (L.map ints), .fn 90 [] [.cptr [i64 (c : Nat)]]] (.one (.dv (i64 (idxF (fun l => sg l c != 0) L)))) := by
  refine callsF_of Try.func89 rfl rfl (by rw [Try.ntmps89]; simp) fun cx hP hn hg => ?_
  rw [Try.ntmps89] at hn
  rw [startF_lk, none_mkM]
  simp only [List.nil_append, List.append_nil, List.cons_append, zipSV, Nat.reduceAdd]
  refine awp_seq ?_
  refine rg ?_
  refine qv m_as ?_
  show AWp cx _ _ _
  refine awp_seq ?_
  refine awp_seq ?_
  refine rg ?_
  refine qv m_mv ?_
  refine qv (m_len il91) ?_
  refine qv m_mv ?_
  show AWp cx _ _ _
  refine awp_block ?_
  refine awp_loop (ι := Nat) (fun i => ⟨lk [(0, .dv (.list ((L).map ints))), (1, .dv (.fn 90 [] [.cptr [i64 (c : Nat)]])), (7, .dv (i64 ((L.length : Int)))), (8, .dv (i64 (i : Nat)))], mkM []⟩) (fun i => i ≤ L.length ∧ ∀ j (h : j < L.length), j < i → (sg L[j] c != 0) = false) (fun i => L.length - i) 0 (by simp) (tl []) ?_
  intro i hφ0
  refine awp_seq ?_
  refine rg ?_
  refine qv m_lss ?_
  show AWp cx _ _ _
  refine awp_seq ?_
  refine cd (fun hc0 => ?_) (fun hc0 => ?_)
  · try simp at hc0
    refine awp_skip ?_
    show AWp cx _ _ _
    refine awp_seq ?_
    refine awp_block ?_
    refine awp_seq ?_
    refine rg ?_
    refine qv m_mv ?_
    refine qv m_as ?_
    show AWp cx _ _ _
    refine awp_seq ?_
    refine rg ?_
    refine qv m_mv ?_
    refine qv m_mv ?_
    refine qv m_mv ?_
    have hin : i < L.length := by omega
    have hgi : L[i]? = some L[i] := List.getElem?_eq_getElem hin
    first | refine qv (m_ixN el91 sz25) ?_ | refine qv (m_ix el91 sz25) ?_
    refine qv (m_ld sz25 ag25) ?_
    refine qqVF (f90 L[i] c (hw _ (List.getElem_mem hin))) ?_
    show AWp cx _ _ _
    refine cd (fun hc1 => ?_) (fun hc1 => ?_)
    · try simp at hc1
      refine awp_seq ?_
      refine rg ?_
      refine qv m_mv ?_
      refine qv m_as ?_
      show AWp cx _ _ _
      refine awp_ret ?_
      exact x1 (hr := (rI_ (by rw [idxF_at (p := fun l => sg l c != 0) hin (by simpa using hc1) fun j hj => hφ0.2 j (by omega) hj])))
    · try simp at hc1
      refine awp_skip ?_
      show AWp cx _ _ _
      refine rg ?_
      refine qv m_add ?_
      refine qv m_mv ?_
      refine ⟨i + 1, ?_, (by simp only; omega), (tl [])⟩
      refine ⟨hin, fun j h hj => ?_⟩
      rcases Nat.lt_or_ge j i with h1 | h1
      · exact hφ0.2 j h h1
      · obtain rfl : j = i := by omega
        simpa using hc1
  · try simp at hc0
    refine awp_exit ?_
    show AWp cx _ _ _
    refine awp_seq ?_
    refine rg ?_
    refine qv m_as ?_
    show AWp cx _ _ _
    refine awp_ret ?_
    exact x1 (hr := (rI_ (by rw [idxF_no (p := fun l => sg l c != 0) fun j h => hφ0.2 j h (by omega)])))
end Go.Ab.Try
set_option linter.all false
namespace Go.Ab.Try
open Go Go.Ab Go.Proofs
open Go.Ab.Rank
def dif (s : Stp) (j : Nat) : List Int := (List.range j).map fun p => sg s.give p - sg s.take p
theorem dif_zero {s : Stp} : dif s 0 = [] := rfl
theorem dif_succ {s : Stp} {j : Nat} : dif s (j + 1) = dif s j ++ [sg s.give j - sg s.take j] := by
  unfold dif; rw [List.range_succ, List.map_append]; rfl
theorem dif_len {s : Stp} {j : Nat} : (dif s j).length = j := by simp [dif]
def tbl (y : Yd) : List (List Int) := y.steps.map fun s => dif s y.places.toNat
theorem tbl_len {y : Yd} : (tbl y).length = y.steps.length := by simp [tbl]
theorem tbl_w {y : Yd} : ∀ r ∈ tbl y, r.length = y.places.toNat := fun r hr => by
  obtain ⟨s, _, rfl⟩ := List.mem_map.1 hr; exact dif_len
theorem sg_any {l : List Int} (h : ∀ x ∈ l, 0 ≤ x ∧ x ≤ 3) (p : Nat) : 0 ≤ sg l p ∧ sg l p ≤ 3 := by
  by_cases hp : p < l.length
  · exact h _ (List.mem_of_getElem? (sg_get hp))
  · unfold sg; rw [List.getD_eq_getElem?_getD, List.getElem?_eq_none (by omega)]; simp
theorem stp_bd {y : Yd} (h : validate y = 0) {s : Stp} (hs : s ∈ y.steps) : s.take.length = y.places.toNat ∧ s.give.length = y.places.toNat ∧ ∀ p, (0 ≤ sg s.take p ∧ sg s.take p ≤ 3) ∧ (0 ≤ sg s.give p ∧ sg s.give p ≤ 3) := by
  have h4 := (validate_ok h).2.2.2 s hs
  simp only [okStp, allIn, Bool.and_eq_true, decide_eq_true_eq, List.all_eq_true] at h4
  obtain ⟨⟨a1, a2⟩, b1, b2⟩ := h4
  refine ⟨by omega, by omega, fun p => ⟨sg_any (fun x hx => ?_) p, sg_any (fun x hx => ?_) p⟩⟩
  · simpa [within] using a2 x hx
  · simpa [within] using b2 x hx
theorem tbl_bd {y : Yd} (h : validate y = 0) (i j : Nat) : -3 ≤ mq (tbl y) i j ∧ mq (tbl y) i j ≤ 3 := by
  unfold mq
  by_cases hi : i < (tbl y).length
  · rw [List.getD_eq_getElem?_getD (l := tbl y), List.getElem?_eq_getElem hi]
    have hm : (tbl y)[i] ∈ tbl y := List.getElem_mem hi
    show -3 ≤ (tbl y)[i].getD j 0 ∧ (tbl y)[i].getD j 0 ≤ 3
    obtain ⟨s, hs, e⟩ := List.mem_map.1 hm
    rw [← e]
    obtain ⟨_, _, h3⟩ := stp_bd h hs
    unfold dif
    by_cases hj : j < y.places.toNat
    · have : ((List.range y.places.toNat).map fun p => sg s.give p - sg s.take p).getD j 0 = sg s.give j - sg s.take j := by
        rw [List.getD_eq_getElem?_getD, List.getElem?_map, List.getElem?_range hj]; rfl
      rw [this]
      have := h3 j
      omega
    · rw [List.getD_eq_getElem?_getD, List.getElem?_eq_none (by simp; omega)]; simp
  · rw [List.getD_eq_getElem?_getD (l := tbl y), List.getElem?_eq_none (by omega)]
    simp
def spaceN (y : Yd) : Nat := spR (mq (tbl y)) y.steps.length y.places.toNat (min y.steps.length y.places.toNat)
def spaceR (y : Yd) : Int × Int := if validate y ≠ 0 then (0, validate y) else ((spaceN y : Nat), 0)
theorem any_snoc {α : Type} {l : List α} {f : α → Bool} {k : Nat} {a : α} (h : l[k]? = some a) : (l.take (k + 1)).any f = ((l.take k).any f || f a) := by
  rw [List.take_add_one, h, List.any_append]
  simp
def noB (R : Go.Ab.Heap.Mat) (P k : Nat) (A : List Nat) (b : Nat) : Bool := ((setsL P k).take b).any fun B => dtL R A B != 0
def noA (R : Go.Ab.Heap.Mat) (n P k a : Nat) : Bool := ((setsL n k).take a).any fun A => (setsL P k).any fun B => dtL R A B != 0
theorem noA_all {R : Go.Ab.Heap.Mat} {n P k a : Nat} (h : (setsL n k).length ≤ a) : noA R n P k a = hasD R n P k := by
  unfold noA hasD; rw [List.take_of_length_le h]
theorem noB_all {R : Go.Ab.Heap.Mat} {P k : Nat} {A : List Nat} {b : Nat} (h : (setsL P k).length ≤ b) : noB R P k A b = (setsL P k).any fun B => dtL R A B != 0 := by
  unfold noB; rw [List.take_of_length_le h]
theorem hasD_of {R : Go.Ab.Heap.Mat} {n P k : Nat} {A B : List Nat} (hA : A ∈ setsL n k) (hB : B ∈ setsL P k) (h : dtL R A B ≠ 0) : hasD R n P k = true := by
  unfold hasD
  rw [List.any_eq_true]
  exact ⟨A, hA, by rw [List.any_eq_true]; exact ⟨B, hB, by simpa using h⟩⟩
theorem sets_len {n k : Nat} : (setsL n k).length ≤ 2 ^ n := by
  unfold setsL
  exact Nat.le_trans (List.length_filter_le _ _) (by simp)
theorem f92p {pl : Int} {k : Nat} (h0 : 0 ≤ pl) (h6 : pl ≤ 6) (hk : k ≤ 6) : ACalls Try.prog 92 [i64 pl, i64 (k : Nat)] (.one (.dv (.list (((setsL pl.toNat k).map ns).map ints)))) := by
  have e : ((pl.toNat : Nat) : Int) = pl := by omega
  have hh := f92 pl.toNat k (by omega) hk
  rw [e] at hh; exact hh
set_option maxHeartbeats 8000000 in
theorem f47 (y : Yd) : ACallsF Try.prog 47 [dYd y] (.many [.dv (i64 (spaceR y).1), .dv (i64 (spaceR y).2)]) := by
  refine callsF_of Try.func47 rfl rfl (by rw [Try.ntmps47]; simp) fun cx hP hn hg => ?_
  rw [Try.ntmps47] at hn
  rw [startF_lk, none_mkM]
  simp only [List.nil_append, List.append_nil, List.cons_append, zipSV, Nat.reduceAdd]
  refine awp_seq ?_
  refine rg ?_
  refine qp m_box ?_
  refine qv m_as ?_
  refine qv m_as ?_
  show AWp cx _ _ _
  refine awp_seq ?_
  refine awp_seq ?_
  refine rg ?_
  refine qv (m_ldpa sz24 ag24) ?_
  refine qqF (f29 y) ?_
  refine qv m_as ?_
  show AWp cx _ _ _
  refine awp_seq ?_
  refine rg ?_
  refine qv m_mv ?_
  refine qv m_neq ?_
  show AWp cx _ _ _
  refine cd (fun hc0 => ?_) (fun hc0 => ?_)
  · skip
    have h0 : validate y ≠ 0 := by simpa using hc0
    refine awp_seq ?_
    refine rg ?_
    refine qv m_mv ?_
    refine qv m_as ?_
    refine qv m_as ?_
    show AWp cx _ _ _
    refine awp_ret ?_
    rw [show spaceR y = (0, validate y) by simp [spaceR, h0]]
    exact x2 (hr := (rI_)) (hr' := (rI_))
  · skip
    have h0 : validate y = 0 := by simpa using hc0
    obtain ⟨v1, v2, v3, v4⟩ := validate_ok h0
    have htn := tbl_len (y := y)
    have hmin : (if y.places < ((tbl y).length : Int) then y.places else ((tbl y).length : Int)) = ((min y.steps.length y.places.toNat : Nat) : Int) := by rw [htn]; split <;> omega
    refine awp_skip ?_
    show AWp cx _ _ _
    refine awp_seq ?_
    refine rg ?_
    refine qv m_as ?_
    show AWp cx _ _ _
    refine awp_seq ?_
    refine awp_seq ?_
    refine rg ?_
    refine qv m_as ?_
    show AWp cx _ _ _
    refine awp_block ?_
    refine awp_loop (ι := Nat) (fun i => ⟨lk [(1, .pt 1 0 0), (5, .sl 5 0 0 i), (6, .dv (i64 (i : Nat)))], mkM [(1, 0, some ⟨[.dv (i64 (y.places)), .dv (.list ((y.steps).map dStp))], 0, 24, 0, false⟩), (5, 0, some (rowB ((tbl y).take i)))]⟩) (fun i => i ≤ y.steps.length) (fun i => y.steps.length - i) 0 (by simp) (tl [(1, 1)] (hF := by simp [FLe, svLe, lk, mkM, isLive, tauL, svLes_rows]) (hM := by simp [MLe, blkLe, svLe, svLes, lk, mkM, isLive, tauL, svLes_ints, svLes_self, isDvs, isDvs_map, isDvs_app, isDvs_take, isDvs_set, isDvs_repl, svLes_rows])) ?_
    intro i hφ0
    refine awp_seq ?_
    refine awp_seq ?_
    refine rg ?_
    refine qv m_mv ?_
    refine qv (m_fdp fd24_1) ?_
    refine qv (m_ldp sz22 ag22) ?_
    refine qv (m_len il22) ?_
    refine qv m_lss ?_
    show AWp cx _ _ _
    refine cd (fun hc1 => ?_) (fun hc1 => ?_)
    · try simp at hc1
      have hin : i < y.steps.length := by omega
      obtain ⟨s, hgs⟩ : ∃ s, y.steps[i]? = some s := ⟨_, List.getElem?_eq_getElem hin⟩
      obtain ⟨ht, hg1, hb3⟩ := stp_bd h0 (List.mem_of_getElem? hgs)
      have htt : (tbl y).take (i + 1) = (tbl y).take i ++ [dif s y.places.toNat] := take_snoc (by simp [tbl, hgs])
      have htl : ((tbl y).take i).length = i := by rw [List.length_take, htn]; omega
      refine awp_skip ?_
      show AWp cx _ _ _
      refine awp_seq ?_
      refine awp_block ?_
      refine awp_seq ?_
      refine rg ?_
      refine qv m_as ?_
      show AWp cx _ _ _
      refine awp_seq ?_
      refine awp_seq ?_
      refine rg ?_
      refine qv m_as ?_
      show AWp cx _ _ _
      refine awp_block ?_
      refine awp_loop (ι := Nat) (fun j => ⟨lk [(1, .pt 1 0 0), (5, .sl 5 0 0 i), (6, .dv (i64 (i : Nat))), (7, .sl 7 0 0 j), (8, .dv (i64 (j : Nat)))], mkM [(1, 0, some ⟨[.dv (i64 (y.places)), .dv (.list ((y.steps).map dStp))], 0, 24, 0, false⟩), (5, 0, some (rowB ((tbl y).take i))), (7, 0, some (rowI (dif s j)))]⟩) (fun j => j ≤ y.places.toNat) (fun j => y.places.toNat - j) 0 (by simp) (tl [(1, 1), (5, 5)] (hF := by simp [FLe, svLe, lk, mkM, isLive, tauL, dif_zero]) (hM := by simp [MLe, blkLe, svLe, svLes, lk, mkM, isLive, tauL, svLes_ints, svLes_self, isDvs, isDvs_map, isDvs_app, isDvs_take, isDvs_set, isDvs_repl, dif_zero])) ?_
      intro j hφ1
      refine awp_seq ?_
      refine awp_seq ?_
      refine rg ?_
      refine qv m_mv ?_
      refine qv (m_fdp fd24_0) ?_
      refine qv (m_ldp sz3 ag3) ?_
      refine qv m_lss ?_
      show AWp cx _ _ _
      refine cd (fun hc2 => ?_) (fun hc2 => ?_)
      · try simp at hc2
        refine awp_skip ?_
        show AWp cx _ _ _
        refine awp_seq ?_
        refine awp_block ?_
        refine rd mixed ?_
        have hj2 : j < y.places.toNat := by omega
        have hd1 := sg_get (l := s.give) (i := j) (by omega)
        have hd2 := sg_get (l := s.take) (i := j) (by omega)
        have hd3 := hb3 j
        have hdl := dif_len (s := s) (j := j)
        refine zv m_mv ?_
        refine zv (m_fdp fd24_1) ?_
        refine zv (m_ldp sz22 ag22) ?_
        refine zv m_mv ?_
        first | refine zv (m_ixN el22 sz55) ?_ | refine zv (m_ix el22 sz55) ?_
        refine zv (m_fd fd55_1) ?_
        refine zv (m_ld sz25 ag25) ?_
        refine zv m_mv ?_
        first | refine zv (m_ixN el25 sz3) ?_ | refine zv (m_ix el25 sz3) ?_
        refine zv (m_ld sz3 ag3) ?_
        refine zv (m_fdp fd24_1) ?_
        refine zv (m_ldp sz22 ag22) ?_
        refine zv m_mv ?_
        first | refine zv (m_ixN el22 sz55) ?_ | refine zv (m_ix el22 sz55) ?_
        refine zv (m_fd fd55_0) ?_
        refine zv (m_ld sz25 ag25) ?_
        refine zv m_mv ?_
        first | refine zv (m_ixN el25 sz3) ?_ | refine zv (m_ix el25 sz3) ?_
        refine zv (m_ld sz3 ag3) ?_
        refine zv m_sub ?_
        refine zr (m_bsl el25 ze3 sz3) ?_
        refine za1 (m_app1 el25 el25 ze3 sz3 by3) ?_
        refine zv m_as ?_
        refine ⟨by rfl, ?_⟩
        show AWp cx _ _ _
        refine rg ?_
        refine qv m_mv ?_
        refine qv m_add ?_
        refine qv m_as ?_
        exact ⟨j + 1, hj2, (by simp only; omega), (tl [(1, 1), (5, 5), (7, 53)] (hF := by simp [FLe, svLe, lk, mkM, isLive, tauL, dif_succ]) (hM := by simp [MLe, blkLe, svLe, svLes, lk, mkM, isLive, tauL, svLes_ints, svLes_self, isDvs, isDvs_map, isDvs_app, isDvs_take, isDvs_set, isDvs_repl, dif_succ]))⟩
      · try simp at hc2
        refine awp_exit ?_
        show AWp cx _ _ _
        refine rg ?_
        refine qv m_mv ?_
        have hje : j = y.places.toNat := by omega
        refine ch_told 7 7 (x := ints (dif s y.places.toNat)) ?_ (hD := (data_ints (L := dif s y.places.toNat) (by simp only [mkM, reduceIte, Nat.reduceEqDiff, hje] <;> rfl) rfl (by rw [dif_len]; omega) rfl rfl (fun _ => trivial)))
        refine qv m_mv ?_
        refine qr (m_bsl el91 ze25 sz25) ?_
        refine qa1 (m_app1 el91 el91 ze25 sz25 by25 (hc := rows_snoc)) ?_
        refine qv m_as ?_
        show AWp cx _ _ _
        refine rg ?_
        refine qv m_mv ?_
        refine qv m_add ?_
        refine qv m_as ?_
        exact ⟨i + 1, hin, (by simp only; omega), (tl [(1, 1), (5, 57)] (hF := by simp [FLe, svLe, lk, mkM, isLive, tauL, svLes_rows, htt]) (hM := by simp [MLe, blkLe, svLe, svLes, lk, mkM, isLive, tauL, svLes_ints, svLes_self, isDvs, isDvs_map, isDvs_app, isDvs_take, isDvs_set, isDvs_repl, svLes_rows, htt]))⟩
    · try simp at hc1
      refine awp_exit ?_
      show AWp cx _ _ _
      refine awp_seq ?_
      refine awp_seq ?_
      refine rg ?_
      have hte : (tbl y).take i = tbl y := List.take_of_length_le (by omega)
      refine ch_told 5 5 (x := .list ((tbl y).map ints)) ?_ (hD := data_rowsC (L := tbl y) (st := 1) (by simp only [mkM, reduceIte, Nat.reduceEqDiff, hte] <;> rfl) rfl (by omega) (fun _ => trivial))
      refine qv m_mv ?_
      refine qv (m_len (L := tbl y) (F := ints) il91) ?_
      refine qv (m_fdp fd24_0) ?_
      refine qv (m_ldp sz3 ag3) ?_
      refine qv m_min ?_
      refine qv m_as ?_
      show AWp cx _ _ _
      refine awp_block ?_
      refine awp_loop (ι := Nat) (fun k => ⟨lk [(1, .pt 1 0 0), (5, .dv (.list ((tbl y).map ints))), (9, .dv (i64 (k : Nat)))], mkM [(1, 0, some ⟨[.dv (i64 (y.places)), .dv (.list ((y.steps).map dStp))], 0, 24, 0, false⟩)]⟩) (fun k => k ≤ min y.steps.length y.places.toNat ∧ spR (mq (tbl y)) y.steps.length y.places.toNat k = spaceN y) (fun k => k) (min y.steps.length y.places.toNat) ⟨Nat.le_refl _, rfl⟩ (tl [(1, 1)] (hF := by simp [FLe, svLe, lk, mkM, isLive, tauL, hmin]) (hM := by simp [MLe, blkLe, svLe, svLes, lk, mkM, isLive, tauL, svLes_ints, svLes_self, isDvs, isDvs_map, isDvs_app, isDvs_take, isDvs_set, isDvs_repl, hmin])) ?_
      intro k hφ2
      refine awp_seq ?_
      refine awp_seq ?_
      refine rg ?_
      refine qv m_mv ?_
      refine qv m_gtr ?_
      show AWp cx _ _ _
      refine cd (fun hc3 => ?_) (fun hc3 => ?_)
      · try simp at hc3
        refine awp_skip ?_
        show AWp cx _ _ _
        refine awp_seq ?_
        refine awp_block ?_
        refine awp_seq ?_
        refine rd mixed ?_
        have hk0 : 0 < k := by omega
        have hkc : ((k - 1 : Nat) : Int) = (k : Int) - 1 := by omega
        have hsl1 := sets_len (n := y.steps.length) (k := k)
        have hsl2 := sets_len (n := y.places.toNat) (k := k)
        have hp1 : 2 ^ y.steps.length ≤ 64 := Nat.pow_le_pow_right (n := 2) (by omega) v3
        have hp2 : 2 ^ y.places.toNat ≤ 64 := Nat.pow_le_pow_right (n := 2) (by omega) (show y.places.toNat ≤ 6 by omega)
        refine zv m_mv ?_
        refine zv (m_len (L := tbl y) (F := ints) il91) ?_
        refine zv m_mv ?_
        refine zqA (R := []) ((show ACalls Try.prog 92 [i64 ((tbl y).length : Nat), i64 (k : Nat)] (.one (.dv (.list (((setsL y.steps.length k).map ns).map ints)))) from by rw [htn]; exact f92 y.steps.length k (by omega) (by omega))) ?_
        refine zv (m_fdp fd24_0) ?_
        refine zv (m_ldp sz3 ag3) ?_
        refine zv m_mv ?_
        refine zqA (R := []) (f92p (pl := y.places) (k := k) (by omega) (by omega) (by omega)) ?_
        refine zv m_as ?_
        refine zv m_as ?_
        refine ⟨by rfl, ?_⟩
        show AWp cx _ _ _
        refine awp_seq ?_
        refine rg ?_
        refine qv m_as ?_
        show AWp cx _ _ _
        refine awp_block ?_
        refine awp_loop (ι := Nat) (fun a => ⟨lk [(1, .pt 1 0 0), (5, .dv (.list ((tbl y).map ints))), (9, .dv (i64 (k : Nat))), (10, .dv (.list ((((setsL y.steps.length k).map ns)).map ints))), (11, .dv (.list ((((setsL y.places.toNat k).map ns)).map ints))), (12, .dv (i64 (a : Nat)))], mkM [(1, 0, some ⟨[.dv (i64 (y.places)), .dv (.list ((y.steps).map dStp))], 0, 24, 0, false⟩)]⟩) (fun a => a ≤ (setsL y.steps.length k).length ∧ noA (mq (tbl y)) y.steps.length y.places.toNat k a = false) (fun a => (setsL y.steps.length k).length - a) 0 ⟨Nat.zero_le _, rfl⟩ (tl [(1, 1)]) ?_
        intro a hφ3
        refine awp_seq ?_
        refine awp_seq ?_
        refine rg ?_
        refine qv m_mv ?_
        refine qv m_mv ?_
        refine qv (m_len il91) ?_
        refine qv m_lss ?_
        show AWp cx _ _ _
        refine cd (fun hc4 => ?_) (fun hc4 => ?_)
        · try simp at hc4
          have ha2 : a < (setsL y.steps.length k).length := by simpa using hc4
          obtain ⟨A, hA⟩ : ∃ A, (setsL y.steps.length k)[a]? = some A := ⟨_, List.getElem?_eq_getElem ha2⟩
          have hA2 : ((setsL y.steps.length k).map ns)[a]? = some (ns A) := by rw [List.getElem?_map, hA]; rfl
          have hAm := List.mem_of_getElem? hA
          obtain ⟨hAb, hAl⟩ := sets_mem hAm
          refine awp_skip ?_
          show AWp cx _ _ _
          refine awp_seq ?_
          refine awp_block ?_
          refine awp_seq ?_
          refine rg ?_
          refine qv m_as ?_
          show AWp cx _ _ _
          refine awp_block ?_
          refine awp_loop (ι := Nat) (fun b => ⟨lk [(1, .pt 1 0 0), (5, .dv (.list ((tbl y).map ints))), (9, .dv (i64 (k : Nat))), (10, .dv (.list ((((setsL y.steps.length k).map ns)).map ints))), (11, .dv (.list ((((setsL y.places.toNat k).map ns)).map ints))), (12, .dv (i64 (a : Nat))), (13, .dv (i64 (b : Nat)))], mkM [(1, 0, some ⟨[.dv (i64 (y.places)), .dv (.list ((y.steps).map dStp))], 0, 24, 0, false⟩)]⟩) (fun b => b ≤ (setsL y.places.toNat k).length ∧ noB (mq (tbl y)) y.places.toNat k A b = false) (fun b => (setsL y.places.toNat k).length - b) 0 ⟨Nat.zero_le _, rfl⟩ (tl [(1, 1)]) ?_
          intro b hφ4
          refine awp_seq ?_
          refine awp_seq ?_
          refine rg ?_
          refine qv m_mv ?_
          refine qv m_mv ?_
          refine qv (m_len il91) ?_
          refine qv m_lss ?_
          show AWp cx _ _ _
          refine cd (fun hc5 => ?_) (fun hc5 => ?_)
          · try simp at hc5
            have hb2 : b < (setsL y.places.toNat k).length := by simpa using hc5
            obtain ⟨B, hB⟩ : ∃ B, (setsL y.places.toNat k)[b]? = some B := ⟨_, List.getElem?_eq_getElem hb2⟩
            have hB2 : ((setsL y.places.toNat k).map ns)[b]? = some (ns B) := by rw [List.getElem?_map, hB]; rfl
            have hBm := List.mem_of_getElem? hB
            obtain ⟨hBb, hBl⟩ := sets_mem hBm
            refine awp_skip ?_
            show AWp cx _ _ _
            refine awp_seq ?_
            refine awp_block ?_
            refine awp_seq ?_
            refine rd mixed ?_
            refine zv m_mv ?_
            refine zv m_mv ?_
            refine zv m_mv ?_
            first | refine zv (m_ixN el91 sz25) ?_ | refine zv (m_ix el91 sz25) ?_
            refine zv (m_ld sz25 ag25) ?_
            refine zv m_mv ?_
            refine zv m_mv ?_
            first | refine zv (m_ixN el91 sz25) ?_ | refine zv (m_ix el91 sz25) ?_
            refine zv (m_ld sz25 ag25) ?_
            refine zqF (R := []) (f93 (tbl y) (tbl_bd h0) y.places.toNat tbl_w A B (by omega) (by omega) (by rw [htn]; exact hAb) hBb) ?_
            refine zv m_neq ?_
            refine ⟨by rfl, ?_⟩
            show AWp cx _ _ _
            refine cd (fun hc6 => ?_) (fun hc6 => ?_)
            · try simp at hc6
              have hd0 : dtL (mq (tbl y)) A B ≠ 0 := by simpa using hc6
              have hhd := hasD_of hAm hBm hd0
              have hfin : ((spaceN y : Nat) : Int) = y.places - k := by
                rw [← hφ2.2]
                obtain ⟨k1, rfl⟩ : ∃ k1, k = k1 + 1 := ⟨k - 1, by omega⟩
                unfold spR
                rw [if_pos hhd]
                omega
              refine awp_seq ?_
              refine rg ?_
              refine qv (m_fdp fd24_0) ?_
              refine qv (m_ldp sz3 ag3) ?_
              refine qv m_mv ?_
              refine qv m_sub ?_
              refine qv m_as ?_
              refine qv m_as ?_
              show AWp cx _ _ _
              refine awp_ret ?_
              rw [show spaceR y = (y.places - (k : Int), 0) by unfold spaceR; rw [if_neg (by simp [h0]), hfin]]
              exact x2 (hr := (rI_)) (hr' := (rI_))
            · try simp at hc6
              have hd0 : dtL (mq (tbl y)) A B = 0 := by simpa using hc6
              have hnb : noB (mq (tbl y)) y.places.toNat k A (b + 1) = false := by
                unfold noB; rw [any_snoc hB]; have := hφ4.2; unfold noB at this; rw [this, hd0]; rfl
              refine awp_skip ?_
              show AWp cx _ _ _
              refine rg ?_
              refine qv m_mv ?_
              refine qv m_add ?_
              refine qv m_as ?_
              exact ⟨b + 1, ⟨by omega, hnb⟩, (by simp only; omega), (tl [(1, 1)])⟩
          · try simp at hc5
            have hna : noA (mq (tbl y)) y.steps.length y.places.toNat k (a + 1) = false := by
              unfold noA; rw [any_snoc hA]; have := hφ3.2; unfold noA at this; rw [this, ← noB_all (b := b) (by omega), hφ4.2]; rfl
            refine awp_exit ?_
            show AWp cx _ _ _
            refine rg ?_
            refine qv m_mv ?_
            refine qv m_add ?_
            refine qv m_as ?_
            exact ⟨a + 1, ⟨by omega, hna⟩, (by simp only; omega), (tl [(1, 1)])⟩
        · try simp at hc4
          have hsp : spR (mq (tbl y)) y.steps.length y.places.toNat (k - 1) = spaceN y := by
            rw [← hφ2.2]
            obtain ⟨k1, rfl⟩ : ∃ k1, k = k1 + 1 := ⟨k - 1, by omega⟩
            have : hasD (mq (tbl y)) y.steps.length y.places.toNat (k1 + 1) = false := by rw [← noA_all (a := a) (by omega)]; exact hφ3.2
            conv => rhs; unfold spR
            rw [this]; simp
          refine awp_exit ?_
          show AWp cx _ _ _
          refine rg ?_
          refine qv m_mv ?_
          refine qv m_sub ?_
          refine qv m_as ?_
          exact ⟨k - 1, ⟨by omega, hsp⟩, (by simp only; omega), (tl [(1, 1)] (hF := by simp [FLe, svLe, lk, mkM, isLive, tauL, hkc]) (hM := by simp [MLe, blkLe, svLe, svLes, lk, mkM, isLive, tauL, svLes_ints, svLes_self, isDvs, isDvs_map, isDvs_app, isDvs_take, isDvs_set, isDvs_repl, hkc]))⟩
      · try simp at hc3
        refine awp_exit ?_
        show AWp cx _ _ _
        refine awp_seq ?_
        refine rg ?_
        refine qv (m_fdp fd24_0) ?_
        refine qv (m_ldp sz3 ag3) ?_
        refine qv m_as ?_
        refine qv m_as ?_
        show AWp cx _ _ _
        refine awp_ret ?_
        obtain rfl : k = 0 := by omega
        rw [show spaceR y = (y.places, 0) by unfold spaceR; rw [if_neg (by simp [h0]), ← hφ2.2, show spR (mq (tbl y)) y.steps.length y.places.toNat 0 = y.places.toNat from rfl, show ((y.places.toNat : Nat) : Int) = y.places by omega]]
        exact x2 (hr := (rI_)) (hr' := (rI_))
end Go.Ab.Try
