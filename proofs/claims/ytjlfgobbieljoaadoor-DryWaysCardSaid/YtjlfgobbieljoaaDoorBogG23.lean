/- Way12, WayU, Ab25, Ab41, WayArg, Way13. -/
import Derived.Test.YtjlfgobbieljoaaDoorBogG22
import Derived.Test.YtjlfgobbieljoaaDoorBogG16
import Derived.Test.YtjlfgobbieljoaaDoorBogG08
import Derived.WalkKit
import Derived.ProofKit
import Derived.OpenShut
import Derived.JoinedCond
import Derived.Carry
import Derived.Deep.Strs
import Derived.Test.YtjlfgobbieljoaaDoorTie
import Derived.LaidMore
import Derived.Lay
import Derived.Shelf.Vars
import Derived.Handed
set_option linter.all false
set_option linter.all false
namespace Go.Ab.Tryd
open Go Go.Ab Go.Proofs
open Go.Ab.Ways
theorem find_first {goal : List Int} : ∀ {L : List En} {i : Nat} {e : En}, L[i]? = some e → (∀ j q, j < i → L[j]? = some q → q.2 ≠ goal) → e.2 = goal → L.find? (fun e => e.2 == goal) = some e
  | [], i, e, h, _, _ => by simp at h
  | q :: L, 0, e, h, _, he => by
    have h : q = e := by simpa using h
    subst h
    rw [List.find?_cons, show (q.2 == goal) = true by simpa using he]
  | q :: L, i + 1, e, h, hb, he => by
    have h0 := hb 0 q (by omega) rfl
    rw [List.find?_cons, show (q.2 == goal) = false by simpa using h0]
    exact find_first (i := i) (by simpa using h) (fun j q' hj hq => hb (j + 1) q' (by omega) (by simpa using hq)) he
theorem find_no {goal : List Int} {L : List En} (hb : ∀ j q, j < L.length → L[j]? = some q → q.2 ≠ goal) : L.find? (fun e => e.2 == goal) = none := by
  rw [List.find?_eq_none]
  intro e he
  obtain ⟨j, hj, h⟩ := List.getElem_of_mem he
  have := hb j e hj (by rw [List.getElem?_eq_getElem hj, h])
  simpa using this
theorem filled_both {y : Yd} {m goal : List Int} : filledE y [m, goal] = if filledE y [m] ≠ 0 then filledE y [m] else if allIn goal y.places 0 50 then 0 else 1 := by
  unfold filledE
  by_cases h : validate y ≠ 0
  · simp [h]
  · rw [if_neg h, if_neg h]
    cases h1 : allIn m y.places 0 50 <;> cases h2 : allIn goal y.places 0 50 <;> simp [h1, h2]
theorem way_bad {y : Yd} {m goal : List Int} {most : Int} (h : filledE y [m, goal] ≠ 0) : refWayR y m goal most = ([], false, filledE y [m, goal]) := by
  unfold refWayR
  rw [filled_both] at h ⊢
  by_cases h1 : filledE y [m] ≠ 0
  · rw [if_pos h1, if_pos h1]
  · rw [if_neg h1] at h
    rw [if_neg h1, if_neg h1]
    cases h2 : allIn goal y.places 0 50 with
    | true => rw [h2] at h; exact absurd rfl h
    | false => rfl
set_option maxHeartbeats 4000000 in
theorem f7 (y : Yd) (m goal : List Int) (most : Int) : ACalls Tryd.prog 7 [dYd y, ints m, ints goal, i64 most] (.many [.dv (ints (refWayR y m goal most).1), .dv (.bool (refWayR y m goal most).2.1), .dv (i64 (refWayR y m goal most).2.2)]) := by
  refine callsA_of Tryd.func7 rfl rfl (by rw [Tryd.ntmps7]; simp) fun cx hP hn hg => ?_
  rw [Tryd.ntmps7] at hn
  rw [startF_lk, none_mkM]
  simp only [List.nil_append, List.append_nil, List.cons_append, zipSV, Nat.reduceAdd]
  refine awp_seq ?_
  refine rg ?_
  refine qp m_box ?_
  refine qv m_as ?_
  refine qv m_as ?_
  refine qv m_as ?_
  show AWp cx _ _ _
  refine awp_seq ?_
  refine awp_seq ?_
  refine rg ?_
  refine qv (m_ldpa sz24 ag24) ?_
  refine qv m_mv ?_
  refine qv m_mv ?_
  refine qr (m_bsl el53 ze25 sz25) ?_
  refine qqF (f14 y [m, goal] (by simp)) ?_ (ha := (args_cons data_dv (args_cons (data_rowsB (L := [m, goal]) (by simp only [mkM, reduceIte, Nat.reduceEqDiff] <;> rfl) trivial rfl (fun _ => trivial)) args_nil)))
  refine qv m_as ?_
  show AWp cx _ _ _
  refine awp_seq ?_
  refine rg ?_
  refine qv m_mv ?_
  refine qv m_neq ?_
  show AWp cx _ _ _
  refine cd (fun hc0 => ?_) (fun hc0 => ?_)
  · skip
    have h0 : filledE y [m, goal] ≠ 0 := by simpa using hc0
    refine awp_seq ?_
    refine rg ?_
    refine qv m_mv ?_
    refine qv m_as ?_
    refine qv m_as ?_
    refine qv m_as ?_
    show AWp cx _ _ _
    refine awp_ret ?_
    rw [way_bad h0]
    exact x3 (hr := (rNd_)) (hr' := (rB_)) (hr'' := (rI_))
  · skip
    have h0 : filledE y [m, goal] = 0 := by simpa using hc0
    have hfb := filled_both (y := y) (m := m) (goal := goal)
    rw [h0] at hfb
    have hf0 : filledE y [m] = 0 := by
      by_cases h : filledE y [m] = 0
      · exact h
      · rw [if_pos h] at hfb; exact hfb.symm
    rw [if_neg (by simp [hf0])] at hfb
    have hgl : allIn goal y.places 0 50 = true := by
      cases h : allIn goal y.places 0 50 with
      | true => rfl
      | false => rw [h] at hfb; simp at hfb
    obtain ⟨hv, hm⟩ := filled_ok hf0
    obtain ⟨v1, v2, v3, v4⟩ := validate_ok hv
    refine awp_skip ?_
    show AWp cx _ _ _
    refine awp_seq ?_
    refine awp_seq ?_
    refine rg ?_
    refine qv m_mv ?_
    refine qqF (f15 most 0 5) ?_
    refine qv m_not ?_
    show AWp cx _ _ _
    refine cd (fun hc1 => ?_) (fun hc1 => ?_)
    · skip
      have hw0 : within most 0 5 = false := by simpa using hc1
      refine awp_seq ?_
      refine rg ?_
      refine qv m_as ?_
      refine qv m_as ?_
      refine qv m_as ?_
      show AWp cx _ _ _
      refine awp_ret ?_
      rw [show refWayR y m goal most = ([], false, 1) by unfold refWayR; rw [if_neg (by simp [hf0]), if_pos (by simp [hw0])]]
      exact x3 (hr := (rNd_)) (hr' := (rB_)) (hr'' := (rI_))
    · skip
      have hw2 : within most 0 5 = true := by simpa using hc1
      obtain ⟨w1, w2⟩ := within_iff.1 hw2
      have hll := lv_len (n := y.steps.length) (nx := nxt y) m most.toNat
      have hP16 : (y.steps.length + 1) ^ most.toNat ≤ 16807 := Nat.le_trans (Nat.le_trans (Nat.pow_le_pow_left (show y.steps.length + 1 ≤ 7 by omega) _) (Nat.pow_le_pow_right (by omega) (show most.toNat ≤ 5 by omega))) (by decide)
      refine awp_skip ?_
      show AWp cx _ _ _
      refine awp_seq ?_
      refine awp_seq ?_
      refine rg ?_
      refine qv (m_ldpa sz24 ag24) ?_
      refine qv m_mv ?_
      refine qv m_mv ?_
      refine qqA (f16 y hv m hm most w1 w2) ?_
      refine qv (m_len (L := (lv y.steps.length (nxt y) m most.toNat).1) (F := dEn) il45) ?_
      refine qv m_mv ?_
      show AWp cx _ _ _
      refine awp_block ?_
      refine awp_loop (ι := Nat) (fun i => ⟨lk [(2, .dv (ints (goal))), (28, .dv (.list (((lv y.steps.length (nxt y) m most.toNat).1).map dEn))), (29, .dv (i64 ((((lv y.steps.length (nxt y) m most.toNat).1).length : Int)))), (30, .dv (i64 (i : Nat)))], mkM []⟩) (fun i => i ≤ (lv y.steps.length (nxt y) m most.toNat).1.length ∧ ∀ j q, j < i → (lv y.steps.length (nxt y) m most.toNat).1[j]? = some q → q.2 ≠ goal) (fun i => (lv y.steps.length (nxt y) m most.toNat).1.length - i) 0 (by simp) (tl []) ?_
      intro i hφ0
      refine awp_seq ?_
      refine rg ?_
      refine qv m_lss ?_
      show AWp cx _ _ _
      refine awp_seq ?_
      refine cd (fun hc2 => ?_) (fun hc2 => ?_)
      · try simp at hc2
        have hin : i < (lv y.steps.length (nxt y) m most.toNat).1.length := by omega
        obtain ⟨e, he⟩ : ∃ e, (lv y.steps.length (nxt y) m most.toNat).1[i]? = some e := ⟨_, List.getElem?_eq_getElem hin⟩
        have hem : VM y e.2 := lv_all (nxt_vm hv) hm most.toNat e (List.mem_of_getElem? he)
        have hel := allIn_len hem
        refine awp_skip ?_
        show AWp cx _ _ _
        refine awp_seq ?_
        refine awp_block ?_
        refine awp_seq ?_
        refine rg ?_
        refine qv (m_ixN (F := dEn) (L := (lv y.steps.length (nxt y) m most.toNat).1) el45 sz48 (hq := he)) ?_
        refine qv (m_lda sz48 ag48) ?_
        refine qp (m_al ze48) ?_
        refine qs (m_st sz48) ?_
        show AWp cx _ _ _
        refine awp_seq ?_
        refine rg ?_
        refine qv (m_fdp fd48_1) ?_
        refine qv (m_ldp sz25 ag25) ?_
        refine qv m_mv ?_
        refine qqF (f17 e.2 goal (by omega)) ?_
        show AWp cx _ _ _
        refine cd (fun hc3 => ?_) (fun hc3 => ?_)
        · try simp at hc3
          have hfd := find_first he hφ0.2 (by simpa using hc3)
          have hwf := way_first (n := y.steps.length) (nx := nxt y) goal m most.toNat
          rw [hfd] at hwf
          refine awp_seq ?_
          refine rg ?_
          refine qv (m_fdp fd48_0) ?_
          refine qv (m_ldp sz25 ag25) ?_
          refine qv m_as ?_
          refine qv m_as ?_
          refine qv m_as ?_
          show AWp cx _ _ _
          refine awp_ret ?_
          rw [show refWayR y m goal most = (e.1, true, 0) by unfold refWayR; rw [if_neg (by simp [hf0]), if_neg (by simp [hgl, hw2]), ← hwf]; rfl]
          exact x3 (hr := (rD_)) (hr' := (rB_)) (hr'' := (rI_))
        · try simp at hc3
          refine awp_skip ?_
          show AWp cx _ _ _
          refine rg ?_
          refine qv m_add ?_
          refine qv m_mv ?_
          refine ⟨i + 1, ?_, (by simp only; omega), (tl [])⟩
          refine ⟨by omega, fun j q hj hq => ?_⟩
          rcases Nat.lt_or_ge j i with h1 | h1
          · exact hφ0.2 j q h1 hq
          · obtain rfl : j = i := by omega
            rw [he] at hq
            have := Option.some.inj hq
            subst this
            simpa using hc3
      · try simp at hc2
        refine awp_exit ?_
        show AWp cx _ _ _
        refine awp_seq ?_
        refine rg ?_
        refine qv m_as ?_
        refine qv m_as ?_
        refine qv m_as ?_
        show AWp cx _ _ _
        refine awp_ret ?_
        have hwf := way_first (n := y.steps.length) (nx := nxt y) goal m most.toNat
        rw [find_no fun j q hj hq => hφ0.2 j q (by omega) hq] at hwf
        rw [show refWayR y m goal most = ([], false, 0) by unfold refWayR; rw [if_neg (by simp [hf0]), if_neg (by simp [hgl, hw2]), ← hwf]; rfl]
        exact x3 (hr := (rNd_)) (hr' := (rB_)) (hr'' := (rI_))
theorem f9 (y : Yd) (m : List Int) (most : Int) : ACallsF Tryd.prog 9 [dYd y, ints m, i64 most] (.many [.dv (i64 (refReachR y m most).1), .dv (i64 (refReachR y m most).2)]) := by
  refine callsF_of Tryd.func9 rfl rfl (by rw [Tryd.ntmps9]; simp) fun cx hP hn hg => ?_
  rw [Tryd.ntmps9] at hn
  rw [startF_lk, none_mkM]
  simp only [List.nil_append, List.append_nil, List.cons_append, zipSV, Nat.reduceAdd]
  refine awp_seq ?_
  refine rg ?_
  refine qp m_box ?_
  refine qv m_as ?_
  refine qv m_as ?_
  show AWp cx _ _ _
  refine awp_seq ?_
  refine awp_seq ?_
  refine rg ?_
  refine qv (m_ldpa sz24 ag24) ?_
  refine qv m_mv ?_
  refine qr (m_bsl el53 ze25 sz25) ?_
  refine qqF (f14 y [m] (by simp)) ?_ (ha := (args_cons data_dv (args_cons (data_rowsB (L := [m]) (by simp only [mkM, reduceIte, Nat.reduceEqDiff] <;> rfl) trivial rfl (fun _ => trivial)) args_nil)))
  refine qv m_as ?_
  show AWp cx _ _ _
  refine awp_seq ?_
  refine rg ?_
  refine qv m_mv ?_
  refine qv m_neq ?_
  show AWp cx _ _ _
  refine cd (fun hc0 => ?_) (fun hc0 => ?_)
  · skip
    have h0 : filledE y [m] ≠ 0 := by simpa using hc0
    refine awp_seq ?_
    refine rg ?_
    refine qv m_mv ?_
    refine qv m_as ?_
    refine qv m_as ?_
    show AWp cx _ _ _
    refine awp_ret ?_
    rw [show refReachR y m most = (0, filledE y [m]) by simp [refReachR, h0]]
    exact x2 (hr := (rI_)) (hr' := (rI_))
  · skip
    have h0 : filledE y [m] = 0 := by simpa using hc0
    obtain ⟨hv, hm⟩ := filled_ok h0
    obtain ⟨v1, v2, v3, v4⟩ := validate_ok hv
    refine awp_skip ?_
    show AWp cx _ _ _
    refine awp_seq ?_
    refine awp_seq ?_
    refine rg ?_
    refine qv m_mv ?_
    refine qqF (f15 most 0 5) ?_
    refine qv m_not ?_
    show AWp cx _ _ _
    refine cd (fun hc1 => ?_) (fun hc1 => ?_)
    · skip
      refine awp_seq ?_
      refine rg ?_
      refine qv m_as ?_
      refine qv m_as ?_
      show AWp cx _ _ _
      refine awp_ret ?_
      rw [show refReachR y m most = (0, 1) by unfold refReachR; rw [if_neg (by simp [h0]), if_pos (by simp_all)]]
      exact x2 (hr := (rI_)) (hr' := (rI_))
    · skip
      have hw2 : within most 0 5 = true := by simpa using hc1
      obtain ⟨w1, w2⟩ := within_iff.1 hw2
      refine awp_skip ?_
      show AWp cx _ _ _
      refine awp_seq ?_
      refine rg ?_
      refine qv (m_ldpa sz24 ag24) ?_
      refine qv m_mv ?_
      refine qv m_mv ?_
      refine qqA (f16 y hv m hm most w1 w2) ?_
      refine qv (m_len (L := (lv y.steps.length (nxt y) m most.toNat).1) (F := dEn) il45) ?_
      refine qv m_as ?_
      refine qv m_as ?_
      show AWp cx _ _ _
      refine awp_ret ?_
      rw [show refReachR y m most = ((((lv y.steps.length (nxt y) m most.toNat).1.length : Nat) : Int), 0) by unfold refReachR; rw [if_neg (by simp [h0]), if_neg (by simp [hw2])]]
      exact x2 (hr := (rI_)) (hr' := (rI_))
end Go.Ab.Tryd
set_option linter.all false
namespace Go.Ab.Tryd
open Go Go.Ab Go.Proofs
structure Pr where
  m : List Int
  goal : List Int
abbrev dPr (x : Pr) : DV := .agg [ints x.m, ints x.goal]
end Go.Ab.Tryd
set_option linter.unusedVariables false
namespace Go.Ab
open Go.ChangeShapes Go.WideShapes Go.ChangeAt Go.RowKit
section
variable {H : Type} {enc : TypeId × Value → H} {P : Program} {w : World}
theorem trodAll_stays (hl : laidOutB P = true) {W W' : World} {sp' : Nat → Bool} : ∀ {ts : List TypeId} {vs : List Value} {ds : List (DataW H)} {ps : List MemPlace}, (∀ t ∈ ts, P.readableRec t = true ∧ t < P.types.size) →
    DataW.TrodAll enc P W 0 (fun _ => true) true ts vs ds ps → (∀ p ∈ ps, W.sameAt W' p) → (∀ p ∈ ps, sp' p.block = true) → DataW.TrodAll enc P W' 0 sp' true ts vs ds ps
  | [], _, _, _, _, h, _, _ => by obtain ⟨rfl, rfl, rfl⟩ := trodAll_nil h; exact trodAll_mk0
  | t :: ts, _, _, _, hr, h, hsame, hs => by
    obtain ⟨v, vs', d, ds', p, q, rfl, rfl, rfl, h0, r0⟩ := trodAll_cons h
    obtain ⟨h1, h2⟩ := hr t (by simp)
    exact trodAll_cons_mk (WideElems.Trod_stays hl h1 h2 h0 (fun x hx => hsame x (List.mem_append_left _ hx)) fun x hx => hs x (List.mem_append_left _ hx))
      (trodAll_stays hl (fun t ht => hr t (List.mem_cons_of_mem _ ht)) r0 (fun x hx => hsame x (List.mem_append_right _ hx)) fun x hx => hs x (List.mem_append_right _ hx))
theorem law_post {f : Func} {s : ChangeSpec} {apart fresh handsOn again : Bool} {W W' : World} {args : Array Value} {ds gs : List (DataW H)} {before : List MemPlace} {tb : TypeId}
    (hl : laidOutB P = true) (hr : ∀ t ∈ f.params.toList, P.readableRec t = true ∧ t < P.types.size) (hrt : f.resultTypes = #[tb]) (hb : P.underlying tb = some .bool) (hvars0 : s.vars = [])
    (hW : DataW.Whole enc P f.params.toList s.vars apart W args.toList ds gs before) (hres : (s.fn H (ds ++ gs)).results = [.lit (.bool true)]) (hargs : (s.fn H (ds ++ gs)).args = ds) (hvs : (s.fn H (ds ++ gs)).vars = [])
    (hbel : Below W.heap.size W W') : s.post enc P f apart fresh handsOn again W args (.bool true) W' := by
  have hW' := hW
  obtain ⟨p, q, hA, hV, rfl, hfz, hnd⟩ := hW
  rw [hvars0] at hV
  obtain ⟨rfl, rfl⟩ := trodVars_none hV
  rw [List.append_nil] at hW' hfz hnd hres hargs hvs
  have hlt : ∀ x ∈ p, x.block < W.heap.size := fun x hx => by simpa using hW'.lt x hx
  have hargs' : ∀ sp : Nat → Bool, (∀ x ∈ p, sp x.block = true) → DataW.TrodAll enc P W' 0 sp true f.params.toList args.toList ds p := fun sp hsp =>
    trodAll_stays hl hr hA (fun x hx => hbel.same (hlt x hx)) hsp
  have hres' : ∀ (b : Nat) (sp : Nat → Bool) (hd : Bool), DataW.TrodAll enc P W' b sp hd f.resultTypes.toList ((Value.bool true).resultList f.resultTypes.size) [.lit (.bool true)] [] := fun b sp hd => by
    rw [hrt]
    exact trodAll_cons_mk (shut_bool hb _) trodAll_mk0
  have hvars' : ∀ sp : Nat → Bool, DataW.TrodVars enc P W' sp s.vars (s.fn H ds).vars [] := fun sp => by rw [hvars0, hvs]; rfl
  refine ⟨ds, [], p, [], p, [], hW', by rw [List.append_nil, hres]; exact hres' _ _ _, ?_, ?_, World.keptBut_mono (fun x hx => ⟨hx, .inr (by simpa using hx)⟩) (hbel.frame _), fun _ => ?_⟩
  · rw [List.append_nil, hargs]; exact hargs' _ fun x hx => by simpa using hlt x hx
  · rw [List.append_nil]; exact hvars' _
  · refine ⟨ok_one hrt rfl (okWide_bool_mk hb _), _, _, ([] ++ p) ++ [], ⟨[] ++ p, [], trodAll_append (hargs' _ (fun _ _ => rfl)) (hres' _ _ _), hvars' _, rfl, ?_, ?_⟩, ?_⟩
    · intro b off hp
      have hp' : MemPlace.cell b off ∈ p := by simpa using hp
      rw [hbel.frozen (p := ⟨b, off, none⟩) (hlt _ hp')]
      exact hfz b off hp'
    · intro ha
      simpa using hnd ha
    · intro x hx _
      simpa using hx
end
def Opens {α H : Type} (enc : TypeId × Value → H) (P : Program) (W : World) (t : TypeId) (F : α → DV) : Prop :=
  ∀ (fuel : Nat) (cs : List Value) (x : DataW H × List MemPlace), DataW.trod enc P W 0 (fun _ => true) true fuel t cs = some x → ∃ a : α, cs.length = (F a).cells.length ∧ ∀ (j : Nat) c, (F a).cells[j]? = some c → ∃ u, cs[j]? = some u ∧ RepD W (fun _ => False) c u
section
variable {α β γ H : Type} {enc : TypeId × Value → H} {P : Program} {W : World} {t e : TypeId} {F : α → DV} {G : β → DV}
theorem opens_int {k : IntKind} (ht : P.underlying t = some (.int k)) : Opens enc P W t (fun n : Int => DV.int k n) := by
  intro fuel cs x h
  obtain ⟨n, rfl, _, _⟩ := DataW.trod_int ht h
  refine ⟨n, rfl, fun j c hj => ?_⟩
  cases j with
  | zero => simp only [DV.cells, List.getElem?_cons_zero, Option.some.injEq] at hj; subst hj; exact ⟨_, rfl, .int k n⟩
  | succ j => simp [DV.cells] at hj
theorem addr_add_add (a : Addr) (m n : Nat) : (a.add m).add n = a.add (m + n) := by
  obtain ⟨b, o, s⟩ := a
  unfold Addr.add
  by_cases hm : m = 0
  · subst hm; simp
  · by_cases hn : n = 0
    · subst hn; simp [hm]
    · simp [hm, hn, Nat.add_assoc]
theorem list_of {Q : Nat → α → Prop} : ∀ n : Nat, (∀ i, i < n → ∃ a, Q i a) → ∃ l : List α, l.length = n ∧ ∀ i a, l[i]? = some a → Q i a
  | 0, _ => ⟨[], rfl, fun i a h => by simp at h⟩
  | n + 1, h => by
    obtain ⟨l, h1, h2⟩ := list_of n fun i hi => h i (by omega)
    obtain ⟨a, ha⟩ := h n (by omega)
    refine ⟨l ++ [a], by simp [h1], fun i b hb => ?_⟩
    rcases Nat.lt_or_ge i l.length with hi | hi
    · rw [List.getElem?_append_left hi] at hb; exact h2 i b hb
    · rw [List.getElem?_append_right hi] at hb
      have : i - l.length = 0 := by have := (List.getElem?_eq_some_iff.1 hb).1; simp at this; omega
      rw [this] at hb
      simp only [List.getElem?_cons_zero, Option.some.injEq] at hb
      subst hb
      have : i = n := by omega
      subst this
      exact ha
theorem opens_list {sz : Nat} (ht : P.underlying t = some (.slice e)) (hc : P.cellsOf e = sz) (hpos : 0 < sz) (hF : ∀ a, (F a).cells.length = sz) (h0 : Opens enc P W e F) : Opens enc P W t (fun L : List α => .list (L.map F)) := by
  intro fuel cs x h
  rcases DataW.trod_slice ht h with ⟨rfl, _⟩ | ⟨a, len, cap, elems, rest, n, _, rfl, _, _, hl, _, hlen, hel, _, _⟩
  · refine ⟨[], rfl, fun j c hj => ?_⟩
    cases j with
    | zero => simp only [List.map_nil, DV.cells, List.getElem?_cons_zero, Option.some.injEq] at hj; subst hj; exact ⟨_, rfl, .listNil _ _⟩
    | succ j => simp [DV.cells] at hj
  · have each : ∀ i, i < len → ∃ q : α, ∀ (j : Nat) c, (F q).cells[j]? = some c → ∃ u, W.cell? (a.add (i * sz + j)) = some u ∧ RepD W (fun _ => False) c u := fun i hi => by
      have h1 := hel i hi
      have h2 : elems[i]? = some elems[i] := List.getElem?_eq_getElem (by omega)
      rw [h2, hc, Option.bind_eq_some_iff] at h1
      obtain ⟨cs, c1, c2⟩ := h1
      obtain ⟨_, hlc, hcell⟩ := World.cells?_some c1
      obtain ⟨q, q1, q2⟩ := h0 n cs _ c2
      refine ⟨q, fun j c hj => ?_⟩
      obtain ⟨u, u1, u2⟩ := q2 j c hj
      refine ⟨u, ?_, u2⟩
      have hj2 : j < sz := by have := (List.getElem?_eq_some_iff.1 u1).1; omega
      have := hcell j hj2
      rw [u1] at this
      rw [addr_add_add] at this
      exact this
    obtain ⟨L, hL, hLQ⟩ := list_of len each
    refine ⟨L, rfl, fun j c hj => ?_⟩
    cases j with
    | succ j => simp [DV.cells] at hj
    | zero =>
      simp only [DV.cells, List.getElem?_cons_zero, Option.some.injEq] at hj
      subst hj
      refine ⟨_, rfl, ?_⟩
      have hsz : ∀ d ∈ L.map F, d.cells.length = sz := fun d hd => by obtain ⟨q, _, rfl⟩ := List.mem_map.1 hd; exact hF q
      have hcells : ∀ j c, (flat (L.map F))[j]? = some c → ∃ u, W.cell? (a.add j) = some u ∧ RepD W (fun _ => False) c u := fun j c hj => by
        have hjl := (List.getElem?_eq_some_iff.1 hj).1
        rw [flat_len _ sz hsz, List.length_map] at hjl
        have hi : j / sz < L.length := by rw [Nat.div_lt_iff_lt_mul hpos]; exact hjl
        have hj' : j = j / sz * sz + j % sz := by rw [Nat.mul_comm]; exact (Nat.div_add_mod j sz).symm
        have hfg := flat_get (L.map F) sz hsz (j / sz) (by simpa using hi) (j % sz) (Nat.mod_lt _ hpos)
        rw [← hj', hj, List.getElem_map] at hfg
        obtain ⟨u, u1, u2⟩ := hLQ (j / sz) _ (List.getElem?_eq_getElem hi) (j % sz) c hfg.symm
        rw [← hj'] at u1
        exact ⟨u, u1, u2⟩
      cases L with
      | nil =>
        have : len = 0 := by simpa using hL.symm
        subst this
        exact .listNil _ _
      | cons q L =>
        have hfl : 0 < (flat ((q :: L).map F)).length := by
          rw [flat_len _ sz hsz]
          simp only [List.length_map, List.length_cons]
          exact Nat.mul_pos (Nat.succ_pos _) hpos
        obtain ⟨u0, hu0, _⟩ := hcells 0 _ (List.getElem?_eq_getElem hfl)
        obtain ⟨b, o, spot⟩ := a
        have hspot : spot = none := by simpa [Addr.add] using World.cell?_spot hu0
        subst hspot
        have hb : b < W.heap.size := by
          rw [add_plain] at hu0
          unfold World.cell? at hu0
          cases hh : W.heap[b]? with
          | none => rw [hh] at hu0; simp at hu0
          | some ob => exact (Array.getElem?_eq_some_iff.1 hh).1
        have hlen2 : len = ((q :: L).map F).length := by rw [List.length_map]; exact hL.symm
        rw [hlen2]
        refine .list _ b o cap sz (fun j => (W.cell? ⟨b, o + j, none⟩).getD undef) (fun h => h) hb (by omega) hsz (fun j c hj => ?_) fun j c hj => ?_
        · obtain ⟨u, u1, _⟩ := hcells j c hj
          rw [add_plain] at u1
          rw [u1]; rfl
        · obtain ⟨u, u1, u2⟩ := hcells j c hj
          rw [add_plain] at u1
          rw [u1]; exact u2
theorem Opens.conv (h : Opens enc P W t F) (hc : ∀ a, ∃ b, G b = F a) : Opens enc P W t G := fun fuel cs x hx => by
  obtain ⟨a, h1, h2⟩ := h fuel cs x hx
  obtain ⟨b, hb⟩ := hc a
  exact ⟨b, by rw [hb]; exact h1, by rw [hb]; exact h2⟩
theorem opens_two {f0 f1 : Field} (ht : P.underlying t = some (.struct #[f0, f1])) (o0 : f0.offset = 0) (o1 : f1.offset = P.cellsOf f0.type) (hn : P.cellsOf t = P.cellsOf f0.type + P.cellsOf f1.type)
    (h0 : Opens enc P W f0.type F) (h1 : Opens enc P W f1.type G) : Opens enc P W t (fun p : α × β => .agg ((F p.1).cells ++ (G p.2).cells)) := by
  intro fuel cs x h
  obtain ⟨y0, y1, n, _, hl, r0, r1⟩ := trod_struct2 ht h
  obtain ⟨a, a1, a2⟩ := h0 _ _ _ r0
  obtain ⟨b, b1, b2⟩ := h1 _ _ _ r1
  rw [o0, List.drop_zero, List.length_take] at a1
  rw [o1, List.length_take, List.length_drop] at b1
  have ha : (F a).cells.length = P.cellsOf f0.type := by omega
  refine ⟨(a, b), by show cs.length = ((F a).cells ++ (G b).cells).length; rw [List.length_append]; omega, fun j c hj => ?_⟩
  replace hj : ((F a).cells ++ (G b).cells)[j]? = some c := hj
  rcases Nat.lt_or_ge j (F a).cells.length with hlt | hge
  · rw [List.getElem?_append_left hlt] at hj
    obtain ⟨u, u1, u2⟩ := a2 j c hj
    rw [o0, List.drop_zero, List.getElem?_take] at u1
    split at u1
    · exact ⟨u, u1, u2⟩
    · cases u1
  · rw [List.getElem?_append_right hge] at hj
    obtain ⟨u, u1, u2⟩ := b2 _ c hj
    rw [o1, List.getElem?_take] at u1
    split at u1
    · rw [List.getElem?_drop] at u1
      exact ⟨u, by rw [← u1]; congr 1; omega, u2⟩
    · cases u1
theorem arg_one (hone : ∀ a, (F a).cells = [F a]) (h : Opens enc P W t F) {v : Value} (hv : v.cells = #[v]) {d : DataW H} {ps : List MemPlace} (hd : DataW.Trod enc P W 0 (fun _ => true) true t v d ps) : ∃ a, RepD W (fun _ => False) (F a) v := by
  obtain ⟨fuel, hf⟩ := hd
  rw [hv] at hf
  obtain ⟨a, _, h2⟩ := h fuel _ _ hf
  obtain ⟨u, u1, u2⟩ := h2 0 (F a) (by rw [hone]; rfl)
  simp only [List.getElem?_cons_zero, Option.some.injEq] at u1
  subst u1
  exact ⟨a, u2⟩
theorem arg_agg {cells : α → List DV} (hagg : ∀ a, F a = .agg (cells a)) (h : Opens enc P W t F) {vs : Array Value} {d : DataW H} {ps : List MemPlace} (hd : DataW.Trod enc P W 0 (fun _ => true) true t (.agg vs) d ps) : ∃ a, RepD W (fun _ => False) (F a) (.agg vs) := by
  obtain ⟨fuel, hf⟩ := hd
  obtain ⟨a, h1, h2⟩ := h fuel _ _ hf
  refine ⟨a, ?_⟩
  rw [hagg] at h1 h2 ⊢
  simp only [DV.cells, Value.cells] at h1 h2
  refine .agg _ _ (by simpa using h1) fun j c hj => ?_
  obtain ⟨u, u1, u2⟩ := h2 j c hj
  have : vs.getD j undef = u := by
    simp only [Array.getElem?_toList] at u1
    simp [u1]
  rw [this]
  exact u2
end
end Go.Ab
set_option linter.all false
namespace Go.Ab
open Go.ChangeShapes Go.WideShapes Go.ChangeAt Go.RowKit
variable {H : Type} {enc : TypeId × Value → H} {P : Program} {W : World} {t : TypeId} {α β γ : Type} {F : α → DV} {G : β → DV} {E : γ → DV}
end Go.Ab
set_option linter.all false
set_option maxRecDepth 100000
namespace Go.Proofs.YtjlfgobbieljoaaDoor
open Go.ChangeShapes Go.WideShapes Go.ChangeAt Go.RowKit Go.Ab Go.Ab.Tryd
theorem own : ownKnob Tryd.prog.godebug = none := by kernel_rfl
theorem laid : laidOutB Tryd.prog = true := by kernel_rfl
theorem laidE (W : World) : Laid W := fun p hp => by simp [laidTab] at hp
abbrev laid3 : List (String × DataW Unit) := [("math/bits.deBruijn32tab", Rows.laid_math_bits_deBruijn32tab), ("math/bits.deBruijn64tab", Rows.laid_math_bits_deBruijn64tab), ("internal/strconv.uint64pow10", Rows.laid_internal_strconv_uint64pow10)]
theorem laid_met (os : Os) (args : Array Value) : laidMetH Tryd.prog laid3 ((World.laidAll Tryd.prog os laid3).forCall (fun _ _ => 0) ⟨#[], args, []⟩).memory := by
  rw [MakeChecks.laidMetH_plain _ _ _ (by kernel_rfl)]
  exact laidMet_laidAll _ (by kernel_rfl) (by kernel_rfl)
theorem opens_ints {H : Type} (enc : TypeId × Value → H) (W : World) : Opens enc Tryd.prog W 25 ints := opens_list (sz := 1) Tryd.underlying25 (by kernel_rfl) (by decide) (fun _ => rfl) (opens_int Tryd.underlying3)
theorem opens_stp {H : Type} (enc : TypeId × Value → H) (W : World) : Opens enc Tryd.prog W 39 dStp :=
  (opens_two Tryd.underlying39 rfl (by kernel_rfl) (by kernel_rfl) (opens_ints enc W) (opens_ints enc W)).conv fun p => ⟨⟨p.1, p.2⟩, rfl⟩
theorem opens_yd {H : Type} (enc : TypeId × Value → H) (W : World) : Opens enc Tryd.prog W 24 dYd :=
  (opens_two Tryd.underlying24 rfl (by kernel_rfl) (by kernel_rfl) (opens_int (k := .i64) Tryd.underlying3) (opens_list (sz := 2) Tryd.underlying22 (by kernel_rfl) (by decide) (fun _ => rfl) (opens_stp enc W))).conv fun p => ⟨⟨p.1, p.2⟩, rfl⟩
theorem opens_pr {H : Type} (enc : TypeId × Value → H) (W : World) : Opens enc Tryd.prog W 27 dPr :=
  (opens_two Tryd.underlying27 rfl (by kernel_rfl) (by kernel_rfl) (opens_ints enc W) (opens_ints enc W)).conv fun p => ⟨⟨p.1, p.2⟩, rfl⟩
theorem arg_yd {H : Type} {enc : TypeId × Value → H} {W : World} {base : Nat} {v : Value} {d : DataW H} {ps : List MemPlace} (hv : Value.okWide Tryd.prog W .any base 24 v) (hd : DataW.Trod enc Tryd.prog W 0 (fun _ => true) true 24 v d ps) : ∃ y, RepD W (fun _ => False) (dYd y) v := by
  obtain ⟨cs, rfl, _⟩ := okWide_struct Tryd.underlying24 hv
  exact arg_agg (fun _ => rfl) (opens_yd enc W) hd
theorem arg_pair {H : Type} {enc : TypeId × Value → H} {W : World} {base : Nat} {v : Value} {d : DataW H} {ps : List MemPlace} (hv : Value.okWide Tryd.prog W .any base 27 v) (hd : DataW.Trod enc Tryd.prog W 0 (fun _ => true) true 27 v d ps) : ∃ y, RepD W (fun _ => False) (dPr y) v := by
  obtain ⟨cs, rfl, _⟩ := okWide_struct Tryd.underlying27 hv
  exact arg_agg (fun _ => rfl) (opens_pr enc W) hd
theorem arg_int {H : Type} {enc : TypeId × Value → H} {W : World} {base : Nat} {v : Value} {d : DataW H} {ps : List MemPlace} (hv : Value.okWide Tryd.prog W .any base 3 v) (hd : DataW.Trod enc Tryd.prog W 0 (fun _ => true) true 3 v d ps) : ∃ n, RepD W (fun _ => False) (i64 n) v := by
  obtain ⟨n, rfl, _⟩ := okWide_int Tryd.underlying3 hv
  exact arg_one (F := fun n : Int => i64 n) (fun _ => rfl) (opens_int Tryd.underlying3) rfl hd
end Go.Proofs.YtjlfgobbieljoaaDoor
set_option linter.all false
namespace Go.Ab.Tryd
open Go Go.Ab Go.Proofs
open Go.Ab.Ways
theorem way_len {y : Yd} {m goal : List Int} {most : Int} : (refWayR y m goal most).1.length < 1000000 := by
  unfold refWayR
  split
  · simp
  · split
    · simp
    · rename_i h0 h1
      have hf : filledE y [m] = 0 := Classical.not_not.1 h0
      obtain ⟨hv, hm⟩ := filled_ok hf
      simp only [Bool.or_eq_true, Bool.not_eq_true', not_or, Bool.not_eq_false] at h1
      obtain ⟨w1, w2⟩ := within_iff.1 h1.2
      show ((wayD y.steps.length (nxt y) goal m most.toNat).getD []).length < 1000000
      cases hw : wayD y.steps.length (nxt y) goal m most.toNat with
      | none => simp
      | some r =>
        obtain ⟨k, hk, h2⟩ := List.exists_of_findSome?_eq_some hw
        have hk := List.mem_range.1 hk
        have := (wy_ok y hv goal k (by omega) m hm).2
        rw [h2] at this
        have h3 : r.length ≤ k := by simpa using this
        show r.length < 1000000
        omega
set_option maxHeartbeats 4000000 in
theorem f3 (y : Yd) (p : Pr) (most : Int) : ACallsF Tryd.prog 3 [dYd y, dPr p, i64 most] (.one (.dv (.bool true))) := by
  refine callsF_of Tryd.func3 rfl rfl (by rw [Tryd.ntmps3]; simp) fun cx hP hn hg => ?_
  rw [Tryd.ntmps3] at hn
  rw [startF_lk, none_mkM]
  simp only [List.nil_append, List.append_nil, List.cons_append, zipSV, Nat.reduceAdd]
  refine awp_seq ?_
  refine rg ?_
  refine qp m_box ?_
  refine qp m_box ?_
  refine qv m_as ?_
  show AWp cx _ _ _
  refine awp_seq ?_
  refine awp_seq ?_
  refine rg ?_
  refine qv (m_ldpa sz24 ag24) ?_
  refine qqF (f4 y) ?_
  refine qx m_mv (fun hg19 => ?_) (fun hg19 => ?_)
  · try simp at hg19
    refine qk ?_
    refine qk ?_
    refine qk ?_
    refine qv m_pk ?_
    refine qv m_mv ?_
    refine qk ?_
    refine qk ?_
    refine qk ?_
    refine qv m_pk ?_
    show AWp cx _ _ _
    refine cdT (hb := by first | rfl | simp | simp_all) (ht := ?_)
    refine awp_seq ?_
    refine rg ?_
    refine qqF (f6) ?_
    refine qv m_as ?_
    show AWp cx _ _ _
    refine awp_ret ?_
    exact x1 (hr := (rB_))
  · try simp at hg19
    refine qv (m_fdp fd27_0) ?_
    refine qv (m_ldp sz25 ag25) ?_
    refine qqF (f5 p.m) ?_
    refine qv m_pk ?_
    refine qx m_mv (fun hg24 => ?_) (fun hg24 => ?_)
    · try simp at hg24
      refine qk ?_
      refine qk ?_
      refine qk ?_
      refine qv m_pk ?_
      show AWp cx _ _ _
      refine cdT (hb := by first | rfl | simp | simp_all) (ht := ?_)
      refine awp_seq ?_
      refine rg ?_
      refine qqF (f6) ?_
      refine qv m_as ?_
      show AWp cx _ _ _
      refine awp_ret ?_
      exact x1 (hr := (rB_))
    · try simp at hg24
      refine qv (m_fdp fd27_1) ?_
      refine qv (m_ldp sz25 ag25) ?_
      refine qqF (f5 p.goal) ?_
      refine qv m_pk ?_
      show AWp cx _ _ _
      refine cd (fun hc0 => ?_) (fun hc0 => ?_)
      · skip
        refine awp_seq ?_
        refine rg ?_
        refine qqF (f6) ?_
        refine qv m_as ?_
        show AWp cx _ _ _
        refine awp_ret ?_
        exact x1 (hr := (rB_))
      · skip
        refine awp_skip ?_
        show AWp cx _ _ _
        refine awp_seq ?_
        refine rg ?_
        refine qv (m_ldpa sz24 ag24) ?_
        refine qv (m_fdp fd27_0) ?_
        refine qv (m_ldp sz25 ag25) ?_
        refine qv (m_fdp fd27_1) ?_
        refine qv (m_ldp sz25 ag25) ?_
        refine qv m_mv ?_
        refine qqA (f7 y p.m p.goal most) ?_
        refine qv m_mv ?_
        refine qv m_ext ?_
        refine qv m_ext ?_
        refine qv m_ext ?_
        refine qv m_as ?_
        refine qv m_as ?_
        refine qv m_as ?_
        show AWp cx _ _ _
        refine awp_seq ?_
        refine rg ?_
        refine qv (m_ldpa sz24 ag24) ?_
        refine qv (m_fdp fd27_0) ?_
        refine qv (m_ldp sz25 ag25) ?_
        refine qv (m_fdp fd27_1) ?_
        refine qv (m_ldp sz25 ag25) ?_
        refine qv m_mv ?_
        refine qqF (f8 y p.m p.goal most) ?_
        refine qv m_mv ?_
        refine qv m_ext ?_
        refine qv m_ext ?_
        refine qv m_ext ?_
        refine qv m_as ?_
        refine qv m_as ?_
        refine qv m_as ?_
        show AWp cx _ _ _
        refine awp_seq ?_
        refine rg ?_
        refine qv (m_ldpa sz24 ag24) ?_
        refine qv (m_fdp fd27_0) ?_
        refine qv (m_ldp sz25 ag25) ?_
        refine qv m_mv ?_
        refine qqF (f9 y p.m most) ?_
        refine qv m_mv ?_
        refine qv m_ext ?_
        refine qv m_ext ?_
        refine qv m_as ?_
        refine qv m_as ?_
        show AWp cx _ _ _
        refine awp_seq ?_
        refine rg ?_
        refine qv (m_ldpa sz24 ag24) ?_
        refine qv (m_fdp fd27_0) ?_
        refine qv (m_ldp sz25 ag25) ?_
        refine qv m_mv ?_
        refine qqF (f10 y p.m most) ?_
        refine qv m_mv ?_
        refine qv m_ext ?_
        refine qv m_ext ?_
        refine qv m_as ?_
        refine qv m_as ?_
        show AWp cx _ _ _
        refine awp_seq ?_
        refine rg ?_
        refine qv m_mv ?_
        refine qv m_mv ?_
        refine qqF (f11 (refWayR y p.m p.goal most).1 (refWayR y p.m p.goal most).1 way_len) ?_
        refine qx m_mv (fun hg71 => ?_) (fun hg71 => ?_)
        rotate_left
        · exact absurd hg71 (by simp)
        refine qv m_mv ?_
        refine qv m_mv ?_
        refine qv (m_beq ib4) ?_
        refine qv m_pk ?_
        refine qx m_mv (fun hg76 => ?_) (fun hg76 => ?_)
        rotate_left
        · exact absurd hg76 (by simp)
        refine qv m_mv ?_
        refine qv m_mv ?_
        refine qv m_eql ?_
        refine qv m_pk ?_
        refine qx m_mv (fun hg81 => ?_) (fun hg81 => ?_)
        rotate_left
        · exact absurd hg81 (by simp)
        refine qv m_mv ?_
        refine qv m_mv ?_
        refine qv m_eql ?_
        refine qv m_pk ?_
        refine qx m_mv (fun hg86 => ?_) (fun hg86 => ?_)
        rotate_left
        · exact absurd hg86 (by simp)
        refine qv m_mv ?_
        refine qv m_mv ?_
        refine qv m_eql ?_
        refine qv m_pk ?_
        refine qx m_mv (fun hg91 => ?_) (fun hg91 => ?_)
        rotate_left
        · exact absurd hg91 (by simp)
        refine qqF (f6) ?_
        refine qv m_pk ?_
        refine qv m_as ?_
        show AWp cx _ _ _
        refine awp_ret ?_
        exact x1 (hr := (rB_))
end Go.Ab.Tryd
