/- Dry31, Dry35, Ab59, Dry37. -/
import Derived.Test.YtjlfgobbieljoaaBogG30
import Derived.Test.YtjlfgobbieljoaaBogG31
import Derived.Test.YtjlfgobbieljoaaBogG31
import Derived.Test.YtjlfgobbieljoaaBogG32
import Derived.Test.YtjlfgobbieljoaaBogG33
import Derived.Test.YtjlfgobbieljoaaBogG34
import Derived.Test.YtjlfgobbieljoaaBogG35
import Derived.Test.YtjlfgobbieljoaaBogG36
import Derived.Test.YtjlfgobbieljoaaBogG10
import Derived.Test.YtjlfgobbieljoaaBogG27
import Derived.Test.YtjlfgobbieljoaaBogG13
import Derived.Test.YtjlfgobbieljoaaBogG27
set_option linter.all false
set_option linter.all false
namespace Go.Ab.Try
open Go Go.Ab Go.Proofs
theorem f39b (y : Yd) (h : validate y ≠ 0) : ACalls Try.prog 39 [dYd y] (.many [.dv (dYd ⟨0, []⟩), .dv (i64 (validate y))]) := by
  have e := f39 y
  rw [turn_bad h] at e
  exact e
end Go.Ab.Try
set_option linter.all false
namespace Go.Ab.Try
open Go Go.Ab Go.Proofs
open Go.Ab.Rank
theorem space_bad {y : Yd} (h : validate y ≠ 0) : spaceR y = (0, validate y) := by simp [spaceR, h]
theorem space_ok {y : Yd} (h : validate y = 0) : spaceR y = (((spaceN y : Nat) : Int), 0) := by simp [spaceR, h]
theorem mq_tbl {y : Yd} {i j : Nat} : mq (tbl y) i j = match y.steps[i]? with | none => 0 | some s => (dif s y.places.toNat).getD j 0 := by
  unfold mq tbl
  rw [List.getD_eq_getElem?_getD (l := y.steps.map _), List.getElem?_map]
  cases y.steps[i]? <;> simp
theorem dif_turn {s : Stp} {j p : Nat} : (dif (turnS s) j).getD p 0 = - (dif s j).getD p 0 := by
  unfold dif
  rw [List.getD_eq_getElem?_getD, List.getElem?_map, List.getD_eq_getElem?_getD, List.getElem?_map]
  cases (List.range j)[p]? with
  | none => rfl
  | some q => show sg s.take q - sg s.give q = -(sg s.give q - sg s.take q); omega
theorem space_turn {y : Yd} : spaceN (turnY y) = spaceN y := by
  have e : mq (tbl (turnY y)) = fun i j => - mq (tbl y) i j := by
    funext i j
    rw [mq_tbl, mq_tbl]
    show (match (y.steps.map turnS)[i]? with | none => 0 | some s => (dif s y.places.toNat).getD j 0) = _
    rw [List.getElem?_map]
    cases y.steps[i]? with
    | none => rfl
    | some s => exact dif_turn
  unfold spaceN
  rw [e]
  show spR (fun i j => - mq (tbl y) i j) (y.steps.map turnS).length y.places.toNat (min (y.steps.map turnS).length y.places.toNat) = _
  rw [List.length_map]
  exact spR_neg _
def H46 : Prop := ∀ y : Yd, ACallsF Try.prog 46 [dYd y] (.many [.dv (i64 (spaceR y).1), .dv (i64 (spaceR y).2)])
theorem turn_39 {y : Yd} (hv : validate y = 0) : ACalls Try.prog 39 [dYd y] (.many [.dv (dYd (turnY y)), .dv (i64 0)]) := by
  have e := f39 y
  rw [turn_ok hv] at e
  exact e
set_option maxHeartbeats 4000000 in
theorem f12_bad (h46 : H46) (y : Yd) (hb : validate y ≠ 0) : ACallsF Try.prog 12 [dYd y] (.one (.dv (.bool true))) := by
  have hs := space_bad hb
  refine callsF_of Try.func12 rfl rfl (by rw [Try.ntmps12]; simp) fun cx hP hn hg => ?_
  rw [Try.ntmps12] at hn
  rw [startF_lk, none_mkM]
  simp only [List.nil_append, List.append_nil, List.cons_append, zipSV, Nat.reduceAdd]
  refine awp_seq ?_
  refine rg ?_
  refine qp m_box ?_
  refine qv m_as ?_
  show AWp cx _ _ _
  refine awp_seq ?_
  refine awp_seq ?_
  refine rg ?_
  refine qv (m_ldpa sz24 ag24) ?_
  refine qqF (f16 y) ?_
  show AWp cx _ _ _
  refine cd (fun hc0 => ?_) (fun hc0 => ?_)
  · try simp at hc0
    refine awp_seq ?_
    refine rg ?_
    refine qqF (f18) ?_
    refine qv m_as ?_
    show AWp cx _ _ _
    refine awp_ret ?_
    exact x1 (hr := (rB_))
  · try simp at hc0
    refine awp_skip ?_
    show AWp cx _ _ _
    refine awp_seq ?_
    refine rg ?_
    refine qv (m_ldpa sz24 ag24) ?_
    refine qqF (h46 y) ?_
    refine qv m_mv ?_
    refine qv m_ext ?_
    refine qv m_ext ?_
    refine qv m_as ?_
    refine qv m_as ?_
    show AWp cx _ _ _
    refine awp_seq ?_
    refine rg ?_
    refine qv (m_ldpa sz24 ag24) ?_
    refine qqF (f47 y) ?_
    refine qv m_mv ?_
    refine qv m_ext ?_
    refine qv m_ext ?_
    refine qv m_as ?_
    refine qv m_as ?_
    show AWp cx _ _ _
    refine awp_seq ?_
    refine awp_seq ?_
    refine rg ?_
    refine qv m_mv ?_
    refine qv m_mv ?_
    refine qv m_neq ?_
    refine qx m_mv (fun hg27 => ?_) (fun hg27 => ?_)
    · exact absurd hg27 (by simp [])
    refine qv m_mv ?_
    refine qv m_mv ?_
    refine qv m_neq ?_
    refine qv m_pk ?_
    show AWp cx _ _ _
    refine cdF (hb := by simp) (ht := ?_)
    refine awp_skip ?_
    show AWp cx _ _ _
    refine awp_seq ?_
    refine rg ?_
    refine qv (m_ldpa sz24 ag24) ?_
    refine qqA (f39b y hb) ?_
    refine qv m_mv ?_
    refine qv m_ext ?_
    refine qv m_ext ?_
    refine qp (m_al ze24) ?_
    refine qs (m_st sz24) ?_
    refine qv m_as ?_
    show AWp cx _ _ _
    refine awp_seq ?_
    refine rg ?_
    refine qv (m_ldpa sz24 ag24) ?_
    refine qqF (h46 (⟨0, []⟩ : Yd)) ?_
    refine qv m_mv ?_
    refine qv m_ext ?_
    refine qv m_ext ?_
    refine qv m_as ?_
    refine qv m_as ?_
    show AWp cx _ _ _
    refine awp_seq ?_
    refine rg ?_
    refine qv m_mv ?_
    refine qv m_neq ?_
    refine qx m_mv (fun hg44 => ?_) (fun hg44 => ?_)
    rotate_left
    · exact absurd hg44 (by simp [hs, hb])
    refine qk ?_
    refine qk ?_
    refine qk ?_
    refine qk ?_
    refine qk ?_
    refine qk ?_
    refine qk ?_
    refine qk ?_
    refine qk ?_
    refine qk ?_
    refine qk ?_
    refine qv m_pk ?_
    refine qv m_mv ?_
    refine qqF (f18) ?_
    refine qv m_pk ?_
    refine qv m_as ?_
    show AWp cx _ _ _
    refine awp_ret ?_
    exact x1 (hr := (rB_))
set_option maxHeartbeats 4000000 in
theorem f12_ok (h46 : H46) (y : Yd) (hv : validate y = 0) : ACallsF Try.prog 12 [dYd y] (.one (.dv (.bool true))) := by
  have hs := space_ok hv
  have ht := space_ok (y := turnY y) (turn_valid hv)
  have hst := space_turn (y := y)
  have htn := turn_39 hv
  refine callsF_of Try.func12 rfl rfl (by rw [Try.ntmps12]; simp) fun cx hP hn hg => ?_
  rw [Try.ntmps12] at hn
  rw [startF_lk, none_mkM]
  simp only [List.nil_append, List.append_nil, List.cons_append, zipSV, Nat.reduceAdd]
  refine awp_seq ?_
  refine rg ?_
  refine qp m_box ?_
  refine qv m_as ?_
  show AWp cx _ _ _
  refine awp_seq ?_
  refine awp_seq ?_
  refine rg ?_
  refine qv (m_ldpa sz24 ag24) ?_
  refine qqF (f16 y) ?_
  show AWp cx _ _ _
  refine cd (fun hc0 => ?_) (fun hc0 => ?_)
  · try simp at hc0
    refine awp_seq ?_
    refine rg ?_
    refine qqF (f18) ?_
    refine qv m_as ?_
    show AWp cx _ _ _
    refine awp_ret ?_
    exact x1 (hr := (rB_))
  · try simp at hc0
    refine awp_skip ?_
    show AWp cx _ _ _
    refine awp_seq ?_
    refine rg ?_
    refine qv (m_ldpa sz24 ag24) ?_
    refine qqF (h46 y) ?_
    refine qv m_mv ?_
    refine qv m_ext ?_
    refine qv m_ext ?_
    refine qv m_as ?_
    refine qv m_as ?_
    show AWp cx _ _ _
    refine awp_seq ?_
    refine rg ?_
    refine qv (m_ldpa sz24 ag24) ?_
    refine qqF (f47 y) ?_
    refine qv m_mv ?_
    refine qv m_ext ?_
    refine qv m_ext ?_
    refine qv m_as ?_
    refine qv m_as ?_
    show AWp cx _ _ _
    refine awp_seq ?_
    refine awp_seq ?_
    refine rg ?_
    refine qv m_mv ?_
    refine qv m_mv ?_
    refine qv m_neq ?_
    refine qx m_mv (fun hg27 => ?_) (fun hg27 => ?_)
    · exact absurd hg27 (by simp [])
    refine qv m_mv ?_
    refine qv m_mv ?_
    refine qv m_neq ?_
    refine qv m_pk ?_
    show AWp cx _ _ _
    refine cdF (hb := by simp) (ht := ?_)
    refine awp_skip ?_
    show AWp cx _ _ _
    refine awp_seq ?_
    refine rg ?_
    refine qv (m_ldpa sz24 ag24) ?_
    refine qqA (htn) ?_
    refine qv m_mv ?_
    refine qv m_ext ?_
    refine qv m_ext ?_
    refine qp (m_al ze24) ?_
    refine qs (m_st sz24) ?_
    refine qv m_as ?_
    show AWp cx _ _ _
    refine awp_seq ?_
    refine rg ?_
    refine qv (m_ldpa sz24 ag24) ?_
    refine qqF (h46 (turnY y)) ?_
    refine qv m_mv ?_
    refine qv m_ext ?_
    refine qv m_ext ?_
    refine qv m_as ?_
    refine qv m_as ?_
    show AWp cx _ _ _
    refine awp_seq ?_
    refine rg ?_
    refine qv m_mv ?_
    refine qv m_neq ?_
    refine qx m_mv (fun hg44 => ?_) (fun hg44 => ?_)
    · exact absurd hg44 (by simp [hs])
    refine qv m_mv ?_
    refine qv m_eql ?_
    refine qx m_mv (fun hg47 => ?_) (fun hg47 => ?_)
    rotate_left
    · exact absurd hg47 (by simp [])
    refine qv m_mv ?_
    refine qv m_eql ?_
    refine qv m_pk ?_
    refine qx m_mv (fun hg51 => ?_) (fun hg51 => ?_)
    rotate_left
    · exact absurd hg51 (by simp [ht])
    refine qv m_mv ?_
    refine qv m_mv ?_
    refine qv m_eql ?_
    refine qv m_pk ?_
    refine qv m_pk ?_
    refine qx m_mv (fun hg57 => ?_) (fun hg57 => ?_)
    rotate_left
    · exact absurd hg57 (by simp [hs, ht, hst])
    refine qqF (f18) ?_
    refine qv m_pk ?_
    refine qv m_as ?_
    show AWp cx _ _ _
    refine awp_ret ?_
    exact x1 (hr := (rB_))
theorem f12_of (h46 : H46) (y : Yd) : ACallsF Try.prog 12 [dYd y] (.one (.dv (.bool true))) := by
  by_cases h : validate y = 0
  · exact f12_ok h46 y h
  · exact f12_bad h46 y h
end Go.Ab.Try
set_option linter.all false
namespace Go.Ab
open Go.RowKit
def famI (n : Nat) (L : Nat → Option (List Int)) : List (Nat × Nat × Option Blk) := (List.range n).map fun j => (1000 + j, 0, (L j).map fun l => rowK .i64 3 l)
theorem mkM_none : ∀ {m : List (Nat × Nat × Option Blk)} {t : Nat}, (∀ p ∈ m, p.1 ≠ t) → mkM m t = (0, none)
  | [], _, _ => rfl
  | (k, g, ob) :: m, t, h => by
    simp only [mkM]
    rw [if_neg fun e => h (k, g, ob) (by simp) e.symm]
    exact mkM_none fun p hp => h p (List.mem_cons_of_mem _ hp)
theorem mkM_left : ∀ {s r : List (Nat × Nat × Option Blk)} {t : Nat}, (∀ p ∈ r, p.1 ≠ t) → mkM (s ++ r) t = mkM s t
  | [], r, t, h => by rw [List.nil_append, mkM_none h]; rfl
  | (k, g, ob) :: s, r, t, h => by
    simp only [List.cons_append, mkM]
    split
    · rfl
    · exact mkM_left h
theorem mkM_right : ∀ {s r : List (Nat × Nat × Option Blk)} {t : Nat}, (∀ p ∈ s, p.1 ≠ t) → mkM (s ++ r) t = mkM r t
  | [], r, t, h => rfl
  | (k, g, ob) :: s, r, t, h => by
    simp only [List.cons_append, mkM]
    rw [if_neg fun e => h (k, g, ob) (by simp) e.symm]
    exact mkM_right fun p hp => h p (List.mem_cons_of_mem _ hp)
section
variable {n : Nat} {L L' : Nat → Option (List Int)} {M : Nat → Nat × Option Blk}
theorem famI_mem {p : Nat × Nat × Option Blk} (h : p ∈ famI n L) : ∃ j, j < n ∧ p = (1000 + j, 0, (L j).map fun l => rowK .i64 3 l) := by
  unfold famI at h
  obtain ⟨j, h1, rfl⟩ := List.mem_map.1 h
  exact ⟨j, List.mem_range.1 h1, rfl⟩
theorem famI_at : ∀ {n : Nat} {j : Nat}, j < n → mkM (famI n L) (1000 + j) = (0, (L j).map fun l => rowK .i64 3 l)
  | 0, _, h => by omega
  | n + 1, j, h => by
    unfold famI
    rw [List.range_succ, List.map_append]
    rcases Nat.lt_or_ge j n with h1 | h1
    · rw [mkM_left fun p hp => by simp at hp; subst hp; simp; omega]
      exact famI_at h1
    · have : j = n := by omega
      subst this
      rw [mkM_right fun p hp => by obtain ⟨i, h2, rfl⟩ := famI_mem (n := j) (L := L) hp; simp; omega]
      simp [mkM]
theorem famI_out {t : Nat} (h : t < 1000 ∨ 1000 + n ≤ t) : mkM (famI n L) t = (0, none) := mkM_none fun p hp => by
  obtain ⟨i, h2, rfl⟩ := famI_mem hp
  simp; omega
theorem famI_nv : nvL (famI n L) = famI n L := by
  have : ∀ l : List Nat, nvL (l.map fun j => (1000 + j, 0, (L j).map fun l => rowK .i64 3 l)) = l.map fun j => (1000 + j, 0, (L j).map fun l => rowK .i64 3 l) := by
    intro l
    induction l with
    | nil => rfl
    | cons a l ih =>
      simp only [List.map_cons, nvL, ih]
      congr 1
      cases L a <;> rfl
  exact this _
theorem famI_ne : nvE (famI n L) = true := by
  unfold nvE
  rw [List.all_eq_true]
  intro p hp
  obtain ⟨j, _, rfl⟩ := famI_mem hp
  cases L j <;> rfl
def Hi (M : Nat → Nat × Option Blk) (n : Nat) (L : Nat → Option (List Int)) : Prop := ∀ j, j < n → M (1000 + j) = (0, (L j).map fun l => rowK .i64 3 l)
theorem hi_fam : Hi (mkM (famI n L)) n L := fun _ h => famI_at h
theorem hi_cons {k : Nat} {e : Nat × Option Blk} {l : List (Nat × Nat × Option Blk)} (hk : k < 1000) (h : Hi (mkM l) n L) : Hi (mkM ((k, e) :: l)) n L := fun j hj => by
  simp only [mkM]
  rw [if_neg (by omega)]
  exact h j hj
theorem Hi.congr (h : Hi M n L) (e : ∀ j, j < n → L j = L' j) : Hi M n L' := fun j hj => by rw [← e j hj]; exact h j hj
theorem Hi.nil : Hi M 0 L := fun j hj => by omega
theorem Hi.live (h : Hi M n L) {j : Nat} {l : List Int} (hj : j < n) (hl : L j = some l) : isLive M (1000 + j) 0 := by
  unfold isLive
  rw [h j hj, hl]
  exact ⟨rfl, rfl⟩
end
def outC (n : Nat) (tg : Nat → Nat) (P : Nat) : List SV := (List.range n).map fun i => .sl (tg i) 0 0 P
abbrev outB (n : Nat) (tg : Nat → Nat) (P : Nat) : Blk := ⟨outC n tg P, 1, 25, 0, true⟩
abbrev tg0 (i : Nat) : Nat := 1000 + i
section
variable {n P : Nat} {tg tg' : Nat → Nat} {f : Nat → Option Nat} {M N : Nat → Nat × Option Blk}
theorem outC_len : (outC n tg P).length = n := by simp [outC]
theorem outC_at {i : Nat} (h : i < n) : (outC n tg P)[i]? = some (.sl (tg i) 0 0 P) := by simp [outC, h]
theorem svLes_of : ∀ {cs ds : List SV}, cs.length = ds.length → (∀ (i : Nat) c d, cs[i]? = some c → ds[i]? = some d → svLe f M N c d) → svLes f M N cs ds
  | [], [], _, _ => by simp only [svLes]
  | c :: cs, d :: ds, hl, h => by
    simp only [svLes]
    exact ⟨h 0 c d rfl rfl, svLes_of (by simpa using hl) fun i c d hc hd => h (i + 1) c d (by simpa using hc) (by simpa using hd)⟩
  | [], _ :: _, hl, _ => by simp at hl
  | _ :: _, [], hl, _ => by simp at hl
theorem out_le {cs : List SV} (hl : cs.length = n) (h : ∀ i, i < n → ∃ t g, cs[i]? = some (.sl t g 0 P) ∧ f (tg' i) = some t ∧ isLive M t g ∧ isLive N (tg' i) 0) : svLes f M N (outC n tg' P) cs := by
  refine svLes_of (by rw [outC_len, hl]) fun i c d hc hd => ?_
  have hi : i < n := by rw [← hl]; exact (List.getElem?_eq_some_iff.1 hd).1
  rw [outC_at hi] at hc
  cases hc
  obtain ⟨t, g, h1, h2, h3, h4⟩ := h i hi
  rw [h1] at hd
  cases hd
  simp only [svLe]
  exact ⟨h2, h3, h4, trivial, trivial⟩
theorem le_blk {t' t g : Nat} {b b' : Blk} (hf : f t' = some t) (hM : M t = (g, some b)) (h1 : b'.esz = b.esz) (h2 : b'.elem = b.elem) (h3 : b'.st = b.st) (h4 : b'.row = b.row) (hc : svLes f M N b'.cells b.cells) : blkLe f M N t' b' := by
  unfold blkLe
  rw [hf]
  exact ⟨b, by rw [hM], h1, h2, h3, h4, hc⟩
theorem le_row {t' t g : Nat} {l : List Int} (hf : f t' = some t) (hM : M t = (g, some (rowK .i64 3 l))) : blkLe f M N t' (rowK .i64 3 l) := le_blk hf hM rfl rfl rfl rfl (svLes_ints.2 rfl)
end
def tauF (τ : List (Nat × Nat)) (t : Nat) : Option Nat := if 1000 ≤ t then some t else tauL τ t
theorem tauF_hi {τ : List (Nat × Nat)} {j : Nat} : tauF τ (1000 + j) = some (1000 + j) := by unfold tauF; rw [if_pos (by omega)]
theorem tauF_inj {τ : List (Nat × Nat)} (h : (τ.map (·.2)).Nodup) (h2 : ∀ p ∈ τ, p.2 < 1000) : ∀ t1 t2 t, tauF τ t1 = some t → tauF τ t2 = some t → t1 = t2 := by
  intro t1 t2 t e1 e2
  unfold tauF at e1 e2
  split at e1 <;> split at e2
  · cases e1; cases e2; rfl
  · cases e1; have := h2 _ (tauL_mem e2); simp only at this; omega
  · cases e2; have := h2 _ (tauL_mem e1); simp only at this; omega
  · exact tauL_inj h _ _ _ e1 e2
section
variable {cx : Cx} {S : St} {l : List (Nat × SV)} {s : List (Nat × Nat × Option Blk)} {n : Nat} {L : Nat → Option (List Int)}
theorem tlG (f : Nat → Option Nat) (s : List (Nat × Nat × Option Blk)) (hg : cx.Good) (hinj : ∀ t1 t2 t, f t1 = some t → f t2 = some t → t1 = t2) (hs : ∀ p ∈ s, p.1 < 1000) (hF : FLe f S (mkM (s ++ famI n L)) l) (hM : MLe f S (mkM (s ++ famI n L)) s)
    (hB : ∀ j l, j < n → L j = some l → blkLe f S.M (mkM (s ++ famI n L)) (1000 + j) (rowK .i64 3 l)) : Le cx S ⟨lk l, mkM (s ++ famI n L)⟩ := by
  rintro a w ⟨μ, h⟩
  refine ⟨_, relab_sim (S' := ⟨lk l, mkM (s ++ famI n L)⟩) hg h (FLe_get hF) (fun t g b e => ?_) hinj⟩
  change mkM (s ++ famI n L) t = (g, some b) at e
  rcases Nat.lt_or_ge t 1000 with h1 | h1
  · rw [mkM_left fun p hp => by obtain ⟨i, h2, rfl⟩ := famI_mem hp; simp; omega] at e
    exact MLe_get hM t g b e
  · rw [mkM_right fun p hp => by have := hs p hp; omega] at e
    rcases Nat.lt_or_ge t (1000 + n) with h2 | h2
    · obtain ⟨i, rfl⟩ : ∃ i, t = 1000 + i := ⟨t - 1000, by omega⟩
      rw [famI_at (by omega)] at e
      cases hL : L i with
      | none => rw [hL] at e; simp at e
      | some l =>
        rw [hL] at e
        simp only [Option.map_some, Prod.mk.injEq, Option.some.injEq] at e
        obtain ⟨_, rfl⟩ := e
        exact hB i l (by omega) hL
    · rw [famI_out (.inr h2)] at e
      simp at e
theorem tlI (τ : List (Nat × Nat)) (s : List (Nat × Nat × Option Blk)) (hS : Hi S.M n L) (hF : FLe (tauF τ) S (mkM (s ++ famI n L)) l) (hM : MLe (tauF τ) S (mkM (s ++ famI n L)) s) (hs : ∀ p ∈ s, p.1 < 1000 := by simp) (hτ : (τ.map (·.2)).Nodup := by decide) (hτ2 : ∀ p ∈ τ, p.2 < 1000 := by decide) (hg : cx.Good := by assumption) : Le cx S ⟨lk l, mkM (s ++ famI n L)⟩ :=
  tlG (tauF τ) s hg (tauF_inj hτ hτ2) hs hF hM fun j r hj hr => le_row tauF_hi (g := 0) (by rw [hS j hj, hr]; rfl)
end
section
variable {f : Nat → Option Nat} {S : St} {N : Nat → Nat × Option Blk} {k g : Nat} {b : Blk} {l : List (Nat × Nat × Option Blk)} {ob : Option Blk}
theorem mle_s (h : blkLe f S.M N k b) (h2 : MLe f S N l) : MLe f S N ((k, g, some b) :: l) := by simp only [MLe]; exact ⟨h, h2⟩
theorem nvE_c (h : (match ob with | some b => b.st != 2 | none => true) = true) (h2 : nvE l = true) : nvE ((k, g, ob) :: l) = true := by
  unfold nvE at h2 ⊢
  rw [List.all_cons, h2, Bool.and_true]
  exact h
end
theorem freeC_of {md : Region.Mode} {ops : Array Oper} {m : List (Nat × Nat × Option Blk)} {its : List It} {anc : List Nat} (h1 : nvE m = true) (h2 : (nvI its && freeB md ops (its.map It.unkv) anc) = true) : freeC md ops m its anc = true := by
  unfold freeC; rw [h1, h2]; simp
def Cut (q : SV) (n a : Nat) : Prop := (a < n ∧ q = .sl 5 0 a (n - a)) ∨ (a = n ∧ a = 0 ∧ q = .sl 5 0 0 0) ∨ (a = n ∧ q = .dv (.list []))
section
variable {cx : Cx} {P : Program} {N : Nat} {ops : Array Oper} {rest : List Oper} {l : List (Nat × SV)} {m : List (Nat × Nat × Option Blk)} {K : St → Prop} {d n a : Nat} {x z : Operand} {ty t : TypeId} {p : String} {af : Array Edge} {k : IntKind} {ai : Int} {blk : Blk}
theorem cut_out {S : St} (he : elemP P t = some 25) (hs : szP P 25 = some 1) (hx : S.look x = (.sl 5 0 0 n, some blk)) (hz : blk.esz = 1) (hy : S.ev z = .dv (.int k ai)) (hai : ai = (a : Int)) (ha : a ≤ n) : ∃ q, outOf P S (.slice t x (some z) none none) = some (.val q) ∧ Cut q n a := by
  subst hai
  have hb : numOf 0 (some (S.ev z)) = some (a : Int) := by rw [hy]; rfl
  have h2 : numOf n none = some (n : Int) := rfl
  simp only [outOf, cutSV, hx, he, Option.map_none, Option.map_some, hb, h2]
  rw [if_pos ⟨by omega, by omega, by omega, by rw [hz]; exact hs⟩]
  by_cases h0 : (a : Int) = n
  · rw [if_pos h0]
    by_cases h1 : (a : Int) = 0
    · rw [if_pos h1]; exact ⟨_, rfl, .inr (.inl ⟨by omega, by omega, rfl⟩)⟩
    · rw [if_neg h1]; exact ⟨_, rfl, .inr (.inr ⟨by omega, rfl⟩)⟩
  · rw [if_neg h0]
    exact ⟨_, rfl, .inl ⟨by omega, by rw [show 0 + (a : Int).toNat = a by omega, show ((n : Int) - (a : Int)).toNat = n - a by omega]⟩⟩
theorem q_cut (he : elemP P t = some 25) (hs : szP P 25 = some 1) (hx : St.look ⟨lk l, mkM m⟩ x = (.sl 5 0 0 n, some blk)) (hz : blk.esz = 1) (hy : St.ev ⟨lk l, mkM m⟩ z = .dv (.int k ai)) (hai : ai = (a : Int)) (ha : a ≤ n)
    (kk : ∀ q, Cut q n a → Chain cx ops rest ⟨lk ((d, q) :: l), mkM m⟩ K) (hP : cx.P = P := by assumption) (hn : cx.n = N := by assumption) (hd : d < N := by decide) : Chain cx ops (⟨some d, .slice t x (some z) none none, ty, p, af, none⟩ :: rest) ⟨lk l, mkM m⟩ K := by
  obtain ⟨q, h1, h2⟩ := cut_out (a := a) he hs hx hz hy hai ha
  exact qv h1 (kk q h2) hP hn hd trivial
theorem m_lenQ {S : St} {q : SV} (hl : isSliceP P t = true) (hq : Cut q n a) (hx : S.ev x = q) (hM : S.M 5 = (0, some blk)) : outOf P S (.call { callee := .builtin .len, args := #[x], argTypes := #[t] }) = some (.val (.dv (.int .i64 ((n - a : Nat) : Int)))) := by
  have hb : ∀ o len, blkOf S.M (.sl 5 0 o len) = some blk := fun o len => by simp [blkOf, hM]
  rcases hq with ⟨h, rfl⟩ | ⟨h, h0, rfl⟩ | ⟨h, rfl⟩
  · exact m_lenR hl (blk := blk) (by show (S.ev x, blkOf S.M (S.ev x)) = _; rw [hx, hb])
  · have := m_lenR (x := x) hl (blk := blk) (S := S) (by show (S.ev x, blkOf S.M (S.ev x)) = _; rw [hx, hb])
    rw [this, show n - a = 0 by omega]
  · have := m_len (x := x) (L := ([] : List DV)) (F := id) (S := S) (ob := none) hl (by show (S.ev x, blkOf S.M (S.ev x)) = _; rw [hx]; rfl)
    rw [this, show n - a = 0 by omega]; rfl
theorem putCells_one {l : List SV} {o : Nat} {c : SV} (h : o < l.length) : putCells l o [c] = l.set o c := by
  have := putCells_set (fun c : SV => c) l o c h
  simpa using this
end
end Go.Ab
set_option linter.all false
namespace Go.Ab.Try
open Go Go.Ab Go.Proofs
open Go.Ab.Rank
open Go.Ab.Heap (Mat)
def rl (W : Mat) (P i : Nat) : List Int := (List.range P).map (W i)
section
variable {W V : Mat} {P i j c n r : Nat}
theorem rl_len : (rl W P i).length = P := by simp [rl]
theorem rl_at (h : c < P) : (rl W P i)[c]? = some (W i c) := by simp [rl, h]
theorem rl_congr (h : ∀ c, c < P → W i c = V j c) : rl W P i = rl V P j := List.map_congr_left fun c hc => h c (List.mem_range.1 hc)
theorem rl_sg (h : c < P) : sg (rl W P i) c = W i c := by
  have h1 := rl_at (W := W) (i := i) h
  have h2 := sg_get (l := rl W P i) (i := c) (by rw [rl_len]; exact h)
  rw [h1] at h2
  exact (Option.some.inj h2).symm
theorem rl_tbl {y : Yd} {s : Stp} {i : Nat} (h : y.steps[i]? = some s) : rl (mq (tbl y)) y.places.toNat i = dif s y.places.toNat := by
  refine List.ext_getElem? fun c => ?_
  rcases Nat.lt_or_ge c y.places.toNat with hc | hc
  · rw [rl_at hc, mq_tbl, h]
    show some ((dif s y.places.toNat).getD c 0) = _
    rw [List.getD_eq_getElem?_getD, List.getElem?_eq_getElem (by rw [dif_len]; exact hc)]; rfl
  · rw [List.getElem?_eq_none (by rw [rl_len]; exact hc), List.getElem?_eq_none (by rw [dif_len]; exact hc)]
def mix (v w : Nat → Int) (P c : Nat) : List Int := (List.range P).map fun l => if l < c then v l else w l
theorem mix_len {v w : Nat → Int} : (mix v w P c).length = P := by simp [mix]
theorem mix_zero {v w : Nat → Int} : mix v w P 0 = (List.range P).map w := by simp [mix]
theorem mix_all {v w : Nat → Int} (h : P ≤ c) : mix v w P c = (List.range P).map v := List.map_congr_left fun l hl => by
  have := List.mem_range.1 hl
  show (if l < c then v l else w l) = v l
  rw [if_pos (by omega)]
theorem mix_at {v w : Nat → Int} (h : c < P) : (mix v w P c)[c]? = some (w c) := by simp [mix, h]
theorem mix_new {v w : Nat → Int} (h : c < P) : (mix v w P (c + 1))[c]? = some (v c) := by simp [mix, h]
theorem mix_set {v w : Nat → Int} (h : c < P) : (mix v w P c).set c (v c) = mix v w P (c + 1) := by
  refine List.ext_getElem? fun l => ?_
  rw [List.getElem?_set]
  by_cases e : c = l
  · subst e
    rw [if_pos rfl, mix_new h, if_pos (by rw [mix_len]; exact h)]
  · rw [if_neg e]
    rcases Nat.lt_or_ge l P with hl | hl
    · simp only [mix, List.getElem?_map, List.getElem?_range hl, Option.map_some]
      congr 1
      by_cases e2 : l < c
      · rw [if_pos e2, if_pos (by omega)]
      · rw [if_neg e2, if_neg (by omega)]
    · rw [List.getElem?_eq_none (by rw [mix_len]; exact hl), List.getElem?_eq_none (by rw [mix_len]; exact hl)]
abbrev cmb (V : Mat) (r p k : Nat) : Nat → Int := fun l => V k l * V r p - V r l * V k p
def part (P r p : Nat) (V : Mat) (k : Nat) : Mat := fun i => if i ≤ r then V i else if i < r + 1 + k then nrm (cmb V r p i) P else V i
theorem part_zero {p : Nat} : part P r p V 0 = V := by
  funext i; unfold part
  by_cases h : i ≤ r
  · rw [if_pos h]
  · rw [if_neg h, if_neg (by omega)]
theorem part_lo {p k : Nat} (h : i ≤ r) : part P r p V k i = V i := by unfold part; rw [if_pos h]
theorem part_hi {p k : Nat} (h : r + 1 + k ≤ i) : part P r p V k i = V i := by unfold part; rw [if_neg (by omega), if_neg (by omega)]
theorem part_now {p k : Nat} : part P r p V (k + 1) (r + 1 + k) = nrm (cmb V r p (r + 1 + k)) P := by unfold part; rw [if_neg (by omega), if_pos (by omega)]
theorem part_off {p k : Nat} (h : i ≠ r + 1 + k) : part P r p V (k + 1) i = part P r p V k i := by
  unfold part
  by_cases h1 : i ≤ r
  · rw [if_pos h1, if_pos h1]
  · rw [if_neg h1, if_neg h1]
    by_cases h2 : i < r + 1 + k
    · rw [if_pos h2, if_pos (by omega)]
    · rw [if_neg h2, if_neg (by omega)]
theorem part_elm {p k : Nat} (h : i < r + 1 + k) : part P r p V k i = elm P r p V i := by
  unfold part elm
  by_cases h1 : i ≤ r
  · rw [if_pos h1, if_pos h1]
  · rw [if_neg h1, if_neg h1, if_pos h]
theorem gl_succ {w : Nat → Int} {k : Nat} : gl w (k + 1) = Nat.gcd (gl w k) (w k).natAbs := rfl
theorem max_one {g : Nat} : (if (g : Int) > 1 then (g : Int) else 1) = max 1 (g : Int) := by omega
end
end Go.Ab.Try
namespace Go.Ab.Rank
open Go.Ab.Heap (Mat)
theorem EInv.rp {n P r p : Nat} {R W : Mat} {s q : Nat → Nat} (I : EInv n P R W r p s q) : r ≤ p := by
  have h : ∀ i, i < r → i ≤ q i := by
    intro i
    induction i with
    | zero => intro _; exact Nat.zero_le _
    | succ i ih =>
      intro hi
      have h1 := ih (by omega)
      have h2 := I.qm i (i + 1) (by omega) hi
      omega
  rcases Nat.eq_zero_or_pos r with h0 | h0
  · omega
  · have h1 := h (r - 1) (by omega)
    have h2 := I.qp (r - 1) (by omega)
    omega
end Go.Ab.Rank
namespace Go.Ab.Try
open Go Go.Ab Go.Proofs
open Go.Ab.Rank
open Go.Ab.Heap (Mat)
section
variable {n P r p F : Nat} {R W : Mat} {s q : Nat → Nat}
theorem tr_hi {i : Nat} (h1 : r ≤ F) (h2 : F < n) (hi : i < n) (hr : r ≤ i) : r ≤ tr r F i ∧ tr r F i < n := by unfold tr; (repeat' split) <;> omega
theorem tr_lt {i : Nat} (h1 : r < n) (h2 : F < n) (hi : i < n) : tr r F i < n := by unfold tr; (repeat' split) <;> omega
theorem sw_bd (I : EInv n P R W r p s q) (hn : n ≤ 6) (hR : ∀ t c, -3 ≤ R t c ∧ R t c ≤ 3) (h1 : r ≤ F) (h2 : F < n) {i c : Nat} (hr : r ≤ i) (hi : i < n) (hc : c < P) : -524880 ≤ swR r F W i c ∧ swR r F W i c ≤ 524880 := by
  obtain ⟨h3, h4⟩ := tr_hi h1 h2 hi hr
  exact I.bd hn (fun t c _ _ => hR t c) h3 h4 hc
theorem mul_bd5 {a b : Int} (ha : -524880 ≤ a ∧ a ≤ 524880) (hb : -524880 ≤ b ∧ b ≤ 524880) : -275499014400 ≤ a * b ∧ a * b ≤ 275499014400 := by
  have h1 : a.natAbs ≤ 524880 := by omega
  have h2 : b.natAbs ≤ 524880 := by omega
  have h3 : (a * b).natAbs ≤ 524880 * 524880 := by rw [Int.natAbs_mul]; exact Nat.mul_le_mul h1 h2
  omega
def from_ (W : Mat) (P n r : Nat) : List (List Int) := (List.range (n - r)).map fun i => rl W P (r + i)
theorem from_len : (from_ W P n r).length = n - r := by simp [from_]
theorem from_at {i : Nat} (h : i < n - r) : (from_ W P n r)[i]? = some (rl W P (r + i)) := by simp [from_, h]
theorem from_w {l : List Int} (h : l ∈ from_ W P n r) : l.length = P := by
  obtain ⟨i, _, rfl⟩ := List.mem_map.1 h
  exact rl_len
theorem idx_cases (hp : p < P) : (idxF (fun l => sg l p != 0) (from_ W P n r) = -1 ∧ ∀ i, r ≤ i → i < n → W i p = 0) ∨ ∃ f : Nat, r + f < n ∧ idxF (fun l => sg l p != 0) (from_ W P n r) = f ∧ W (r + f) p ≠ 0 := by
  unfold idxF
  cases h : (from_ W P n r).any fun l => sg l p != 0 with
  | true =>
    right
    rw [if_pos rfl]
    obtain ⟨x, hx, hp2⟩ := List.any_eq_true.1 h
    have h1 : (from_ W P n r).findIdx (fun l => sg l p != 0) < (from_ W P n r).length := List.findIdx_lt_length_of_exists ⟨x, hx, hp2⟩
    have h2 := List.findIdx_getElem (w := h1)
    rw [from_len] at h1
    refine ⟨_, by omega, rfl, ?_⟩
    have h3 := from_at (W := W) (P := P) h1
    rw [List.getElem?_eq_getElem (by rw [from_len]; exact h1)] at h3
    rw [Option.some.inj h3, rl_sg hp] at h2
    simpa using h2
  | false =>
    left
    rw [if_neg (by simp)]
    refine ⟨rfl, fun i h1 h2 => ?_⟩
    rw [List.any_eq_false] at h
    have h3 := h (rl W P i) (List.mem_map.2 ⟨i - r, List.mem_range.2 (by omega), by rw [show r + (i - r) = i by omega]⟩)
    rw [rl_sg hp] at h3
    simpa using h3
end
def tgk (k r i : Nat) : Nat := if i = k then 500 else if i = r then 501 else 1000 + i
theorem tgk_k {k r : Nat} : tgk k r k = 500 := by simp [tgk]
theorem tgk_r {k r : Nat} (h : r ≠ k) : tgk k r r = 501 := by simp [tgk, h]
theorem tgk_o {k r i : Nat} (h1 : i ≠ k) (h2 : i ≠ r) : tgk k r i = 1000 + i := by simp [tgk, h1, h2]
def Lw (W : Mat) (P : Nat) : Nat → Option (List Int) := fun i => some (rl W P i)
def Lk (W : Mat) (P k r : Nat) : Nat → Option (List Int) := fun i => if i = k ∨ i = r then none else some (rl W P i)
section
variable {n P k r : Nat} {W V : Mat} {f : Nat → Option Nat} {M N : Nat → Nat × Option Blk}
theorem Lk_o {i : Nat} (h1 : i ≠ k) (h2 : i ≠ r) : Lk W P k r i = some (rl W P i) := by simp [Lk, h1, h2]
theorem out_0 (hf : ∀ j, f (1000 + j) = some (1000 + j)) (hM : Hi M n (Lw W P)) (hN : Hi N n (Lw V P)) : svLes f M N (outC n tg0 P) (outC n tg0 P) :=
  out_le outC_len fun i hi => ⟨_, _, outC_at hi, hf i, hM.live hi rfl, hN.live hi rfl⟩
theorem out_k (h5 : f 500 = some 500) (h51 : f 501 = some 501) (hf : ∀ j, f (1000 + j) = some (1000 + j)) (l1 : isLive M 500 0) (l2 : isLive M 501 0) (l3 : isLive N 500 0) (l4 : isLive N 501 0) (hM : Hi M n (Lk W P k r)) (hN : Hi N n (Lk W P k r)) : svLes f M N (outC n (tgk k r) P) (outC n (tgk k r) P) :=
  out_le outC_len fun i hi => by
    refine ⟨_, _, outC_at hi, ?_⟩
    by_cases e1 : i = k
    · subst e1; rw [tgk_k]; exact ⟨h5, l1, l3⟩
    · by_cases e2 : i = r
      · subst e2; rw [tgk_r e1]; exact ⟨h51, l2, l4⟩
      · rw [tgk_o e1 e2]; exact ⟨hf i, hM.live hi (Lk_o e1 e2), hN.live hi (Lk_o e1 e2)⟩
def tauT (τ : List (Nat × Nat)) (k r t : Nat) : Option Nat := if t = 500 then some (1000 + k) else if t = 501 then some (1000 + r) else if 1000 ≤ t then (if t = 1000 + k ∨ t = 1000 + r then none else some t) else tauL τ t
theorem tauT_inj {τ : List (Nat × Nat)} (hkr : k ≠ r) (h : (τ.map (·.2)).Nodup) (h2 : ∀ p ∈ τ, p.2 < 1000) : ∀ t1 t2 t, tauT τ k r t1 = some t → tauT τ k r t2 = some t → t1 = t2 := by
  intro t1 t2 t e1 e2
  have key : ∀ t1, tauT τ k r t1 = some t → (t1 = 500 ∧ t = 1000 + k) ∨ (t1 = 501 ∧ t = 1000 + r) ∨ (t = t1 ∧ 1000 ≤ t ∧ t ≠ 1000 + k ∧ t ≠ 1000 + r) ∨ (t < 1000 ∧ tauL τ t1 = some t) := by
    intro t1 e
    unfold tauT at e
    split at e
    · rename_i h1; have e := Option.some.inj e; exact .inl ⟨h1, e.symm⟩
    · split at e
      · rename_i h1; have e := Option.some.inj e; exact .inr (.inl ⟨h1, e.symm⟩)
      · split at e
        · split at e
          · cases e
          · have e := Option.some.inj e; exact .inr (.inr (.inl (by omega)))
        · exact .inr (.inr (.inr ⟨h2 _ (tauL_mem e), e⟩))
  rcases key t1 e1 with a | a | a | a <;> rcases key t2 e2 with b | b | b | b <;> first | omega | exact tauL_inj h _ _ _ a.2 b.2
def tauG (τ : List (Nat × Nat)) (k r t : Nat) : Option Nat := if t < 1000 then tauL τ t else if t = 1000 + k then some 500 else if t = 1000 + r then some 501 else some t
theorem tauG_inj {τ : List (Nat × Nat)} (hkr : k ≠ r) (h : (τ.map (·.2)).Nodup) (h2 : ∀ p ∈ τ, p.2 < 500) : ∀ t1 t2 t, tauG τ k r t1 = some t → tauG τ k r t2 = some t → t1 = t2 := by
  intro t1 t2 t e1 e2
  have key : ∀ t1, tauG τ k r t1 = some t → (t1 = 1000 + k ∧ t = 500) ∨ (t1 = 1000 + r ∧ t = 501) ∨ (t = t1 ∧ 1000 ≤ t ∧ t ≠ 1000 + k ∧ t ≠ 1000 + r) ∨ (t < 500 ∧ tauL τ t1 = some t) := by
    intro t1 e
    unfold tauG at e
    split at e
    · exact .inr (.inr (.inr ⟨h2 _ (tauL_mem e), e⟩))
    · split at e
      · rename_i h1; have e := Option.some.inj e; exact .inl ⟨h1, e.symm⟩
      · split at e
        · rename_i h1; have e := Option.some.inj e; exact .inr (.inl ⟨h1, e.symm⟩)
        · have e := Option.some.inj e; exact .inr (.inr (.inl (by omega)))
  rcases key t1 e1 with a | a | a | a <;> rcases key t2 e2 with b | b | b | b <;> first | omega | exact tauL_inj h _ _ _ a.2 b.2
def tauS (τ : List (Nat × Nat)) (r F t : Nat) : Option Nat := if 1000 ≤ t then some (1000 + tr r F (t - 1000)) else tauL τ t
theorem tauS_hi {τ : List (Nat × Nat)} {F j : Nat} : tauS τ r F (1000 + j) = some (1000 + tr r F j) := by unfold tauS; rw [if_pos (by omega), show 1000 + j - 1000 = j by omega]
theorem tauS_inj {τ : List (Nat × Nat)} {F : Nat} (h : (τ.map (·.2)).Nodup) (h2 : ∀ p ∈ τ, p.2 < 1000) : ∀ t1 t2 t, tauS τ r F t1 = some t → tauS τ r F t2 = some t → t1 = t2 := by
  intro t1 t2 t e1 e2
  unfold tauS at e1 e2
  split at e1 <;> split at e2
  · have e1 := Option.some.inj e1
    have e2 := Option.some.inj e2
    have h3 : tr r F (tr r F (t2 - 1000)) = tr r F (tr r F (t1 - 1000)) := by rw [show tr r F (t2 - 1000) = tr r F (t1 - 1000) by omega]
    rw [tr_tr, tr_tr] at h3
    omega
  · have e1 := Option.some.inj e1; have := h2 _ (tauL_mem e2); simp only at this; omega
  · have e2 := Option.some.inj e2; have := h2 _ (tauL_mem e1); simp only at this; omega
  · exact tauL_inj h _ _ _ e1 e2
theorem sw_at {F i : Nat} (hr : r < n) (hF : F < n) (hi : i < n) : (((outC n tg0 P).set r (.sl (1000 + F) 0 0 P)).set F (.sl (1000 + r) 0 0 P))[i]? = some (.sl (1000 + tr r F i) 0 0 P) := by
  rw [List.getElem?_set, List.getElem?_set, outC_at hi]
  simp only [List.length_set, outC_len, if_pos hr, if_pos hF]
  unfold tr
  by_cases h1 : F = i
  · subst h1
    rw [if_pos rfl]
    by_cases h2 : F = r
    · subst h2; rw [if_pos rfl]
    · rw [if_neg h2, if_pos rfl]
  · rw [if_neg h1]
    by_cases h2 : r = i
    · subst h2; rw [if_pos rfl, if_pos rfl]
    · rw [if_neg h2, if_neg (fun e => h2 e.symm), if_neg (fun e => h1 e.symm)]
theorem from_data {ok : Nat → Prop} {okd : DV → Prop} {t g : Nat} (hM5 : M t = (g, some (outB n tg0 P))) (hM : Hi M n (Lw W P)) (hok : ok 0) (hd : ∀ q, okd (.int .i64 q)) (hr : r < n) : Data ok okd M (.sl t g r (n - r)) (.list ((from_ W P n r).map ints)) := by
  have hf : flat ((from_ W P n r).map ints) = (from_ W P n r).map ints := flat_one fun _ => rfl
  refine .sl t g r (n - r) _ _ (fun j => .sl (1000 + (r + j)) 0 0 P) hM5 hok (by rw [List.length_map, from_len]) (fun d hd => by obtain ⟨l, _, rfl⟩ := List.mem_map.1 hd; rfl) (fun j c hj => ?_) fun j c hj => ?_
  · have h1 : j < n - r := by rw [hf] at hj; have := (List.getElem?_eq_some_iff.1 hj).1; simpa [from_len] using this
    show (outC n tg0 P)[r * 1 + j]? = _
    rw [Nat.mul_one, outC_at (by omega)]
  · have h1 : j < n - r := by rw [hf] at hj; have := (List.getElem?_eq_some_iff.1 hj).1; simpa [from_len] using this
    rw [hf, List.getElem?_map, from_at h1] at hj
    cases hj
    exact data_ints (hM _ (by omega)) hok rl_len rfl rfl hd
theorem cut_data {q : SV} (hq : Cut q n r) (hM5 : M 5 = (0, some (outB n tg0 P))) (hM : Hi M n (Lw W P)) : Borrow M q (.list ((from_ W P n r).map ints)) := by
  have hnil : r = n → (from_ W P n r).map ints = [] := fun h => by subst h; simp [from_]
  rcases hq with ⟨h, rfl⟩ | ⟨h, h0, rfl⟩ | ⟨h, rfl⟩
  · exact from_data hM5 hM trivial (fun _ => trivial) h
  · rw [hnil h]
    exact .sl 5 0 0 0 _ [] (fun _ => .dead) hM5 trivial rfl (fun d hd => by cases hd) (fun j c hj => by simp [flat] at hj) fun j c hj => by simp [flat] at hj
  · rw [hnil h]
    exact .dv _ trivial
theorem swap_row {τ : List (Nat × Nat)} {p F : Nat} (hV : V = swR r F W) (hr : r < n) (hF : F < n) (hM : Hi M n (Lw W P)) {j : Nat} {l : List Int} (hj : j < n) (hl : Lw (part P r p V 0) P j = some l) : blkLe (tauS τ r F) M N (1000 + j) (rowK .i64 3 l) := by
  refine le_row tauS_hi (g := 0) ?_
  rw [hM _ (tr_lt hr hF hj)]
  rw [part_zero, hV] at hl
  rw [← Option.some.inj hl]; rfl
theorem tauT_o {τ : List (Nat × Nat)} {j : Nat} (h1 : j ≠ k) (h2 : j ≠ r) : tauT τ k r (1000 + j) = some (1000 + j) := by unfold tauT; rw [if_neg (by omega), if_neg (by omega), if_pos (by omega), if_neg (by omega)]
theorem tauG_o {τ : List (Nat × Nat)} {j : Nat} (h1 : j ≠ k) (h2 : j ≠ r) : tauG τ k r (1000 + j) = some (1000 + j) := by unfold tauG; rw [if_neg (by omega), if_neg (by omega), if_neg (by omega)]
theorem tauG_k {τ : List (Nat × Nat)} : tauG τ k r (1000 + k) = some 500 := by unfold tauG; rw [if_neg (by omega), if_pos rfl]
theorem tauG_r {τ : List (Nat × Nat)} (h : k ≠ r) : tauG τ k r (1000 + r) = some 501 := by unfold tauG; rw [if_neg (by omega), if_neg (by omega), if_pos rfl]
theorem take_out {τ : List (Nat × Nat)} (hM : Hi M n (Lw W P)) (l3 : isLive N 500 0) (l4 : isLive N 501 0) (hN : Hi N n (Lk W P k r)) (hkr : k ≠ r) : svLes (tauT τ k r) M N (outC n (tgk k r) P) (outC n tg0 P) :=
  out_le outC_len fun i hi => by
    refine ⟨_, _, outC_at hi, ?_⟩
    by_cases e1 : i = k
    · subst e1; rw [tgk_k]; exact ⟨rfl, hM.live hi rfl, l3⟩
    · by_cases e2 : i = r
      · subst e2; rw [tgk_r e1]; exact ⟨rfl, hM.live hi rfl, l4⟩
      · rw [tgk_o e1 e2]; exact ⟨tauT_o e1 e2, hM.live hi rfl, hN.live hi (Lk_o e1 e2)⟩
theorem take_B {τ : List (Nat × Nat)} (hM : Hi M n (Lw W P)) {j : Nat} {l : List Int} (hj : j < n) (hl : Lk W P k r j = some l) : blkLe (tauT τ k r) M N (1000 + j) (rowK .i64 3 l) := by
  unfold Lk at hl
  split at hl
  · cases hl
  · rename_i h
    refine le_row (tauT_o (fun e => h (.inl e)) fun e => h (.inr e)) (g := 0) ?_
    rw [hM j hj, ← Option.some.inj hl]; rfl
theorem take_k {τ : List (Nat × Nat)} (hM : Hi M n (Lw W P)) (hk : k < n) (h : ∀ c, W k c = V k c) : blkLe (tauT τ k r) M N 500 (rowK .i64 3 (rl V P k)) := by
  refine le_row (t := 1000 + k) rfl (g := 0) ?_
  rw [hM k hk]
  show (0, some (rowK .i64 3 (rl W P k))) = _
  rw [rl_congr fun c _ => h c]
theorem take_r {τ : List (Nat × Nat)} (hM : Hi M n (Lw W P)) (hk : r < n) (h : ∀ c, W r c = V r c) : blkLe (tauT τ k r) M N 501 (rowK .i64 3 (rl V P r)) := by
  refine le_row (t := 1000 + r) rfl (g := 0) ?_
  rw [hM r hk]
  show (0, some (rowK .i64 3 (rl W P r))) = _
  rw [rl_congr fun c _ => h c]
theorem give_out {τ : List (Nat × Nat)} (hkr : k ≠ r) (hM : Hi M n (Lk W P k r)) (l1 : isLive M 500 0) (l2 : isLive M 501 0) (hN : Hi N n (Lw V P)) : svLes (tauG τ k r) M N (outC n tg0 P) (outC n (tgk k r) P) :=
  out_le outC_len fun i hi => by
    by_cases e1 : i = k
    · subst e1; exact ⟨500, 0, by rw [outC_at hi, tgk_k], tauG_k, l1, hN.live hi rfl⟩
    · by_cases e2 : i = r
      · subst e2; exact ⟨501, 0, by rw [outC_at hi, tgk_r e1], tauG_r hkr, l2, hN.live hi rfl⟩
      · exact ⟨1000 + i, 0, by rw [outC_at hi, tgk_o e1 e2], tauG_o e1 e2, hM.live hi (Lk_o e1 e2), hN.live hi rfl⟩
theorem give_B {τ : List (Nat × Nat)} {p j : Nat} (hM : Hi M n (Lk (part P r p V j) P (r + 1 + j) r)) (h5 : M 500 = (0, some (rowK .i64 3 (mix (nrm (cmb V r p (r + 1 + j)) P) (cmb V r p (r + 1 + j)) P P)))) (h51 : M 501 = (0, some (rowK .i64 3 (rl V P r)))) {i : Nat} {l : List Int} (hi : i < n) (hl : Lw (part P r p V (j + 1)) P i = some l) : blkLe (tauG τ (r + 1 + j) r) M N (1000 + i) (rowK .i64 3 l) := by
  have hl := (Option.some.inj hl).symm
  subst hl
  by_cases e1 : i = r + 1 + j
  · subst e1
    refine le_row tauG_k (g := 0) ?_
    rw [h5, mix_all (Nat.le_refl _)]
    unfold rl
    rw [part_now]
  · by_cases e2 : i = r
    · subst e2
      refine le_row (tauG_r (by omega)) (g := 0) ?_
      rw [h51]
      unfold rl
      rw [part_lo (Nat.le_refl _)]
    · refine le_row (tauG_o e1 e2) (g := 0) ?_
      rw [hM i hi, Lk_o e1 e2]
      unfold rl
      rw [part_off e1]; rfl
end
end Go.Ab.Try
