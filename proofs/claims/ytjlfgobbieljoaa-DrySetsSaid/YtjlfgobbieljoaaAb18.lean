/- The abstract layer, part 18: what a step changes, and what it looks at; steps that do not touch one another. -/
import Derived.Test.YtjlfgobbieljoaaAb17
import Derived.StillTail
set_option linter.unusedVariables false
namespace Go.Ab
open Go.RowKit

/-- What a step changes: one slot; all views fall; some tags. -/
structure Eff where
  dst : Option Nat
  val : SV
  kv : Bool
  ms : List (Nat × Nat × Option Blk)

def setM (M : Nat → Nat × Option Blk) : List (Nat × Nat × Option Blk) → (Nat → Nat × Option Blk)
  | [] => M
  | (t, e) :: l => setM (upd M t e) l

def Eff.app (S : St) (e : Eff) : St := ⟨match e.dst with | some d => upd S.F d e.val | none => S.F, setM (if e.kv then noViews S.M else S.M) e.ms⟩

def Eff.hits (e : Eff) (t : Nat) : Bool := e.kv || e.ms.any fun p => p.1 == t

def putOnly (e : Nat → Nat × Option Blk) : Prop := True

theorem setM_get : ∀ (l : List (Nat × Nat × Option Blk)) (M M' : Nat → Nat × Option Blk) (t : Nat), M t = M' t → setM M l t = setM M' l t
  | [], _, _, _, h => h
  | (k, e) :: l, M, M', t, h => setM_get l _ _ t (by by_cases hk : t = k <;> simp [upd, hk, h])

theorem setM_off : ∀ (l : List (Nat × Nat × Option Blk)) (M : Nat → Nat × Option Blk) (t : Nat), (l.any fun p => p.1 == t) = false → setM M l t = M t
  | [], _, _, _ => rfl
  | (k, e) :: l, M, t, h => by
    simp only [List.any_cons, Bool.or_eq_false_iff, beq_eq_false_iff_ne, ne_eq] at h
    rw [setM, setM_off l _ t h.2, upd_ne _ _ _ _ (fun e => h.1 e.symm)]

theorem setM_on : ∀ (l : List (Nat × Nat × Option Blk)) (M M' : Nat → Nat × Option Blk) (t : Nat), (l.any fun p => p.1 == t) = true → setM M l t = setM M' l t
  | [], _, _, _, h => by simp at h
  | (k, e) :: l, M, M', t, h => by
    by_cases hk : t = k
    · exact setM_get l _ _ t (by simp [upd, hk])
    · simp only [List.any_cons, Bool.or_eq_true, beq_iff_eq] at h
      exact setM_on l _ _ t (h.resolve_left fun e => hk e.symm)

theorem noViews_get {M M' : Nat → Nat × Option Blk} {t : Nat} (h : M t = M' t) : noViews M t = noViews M' t := by
  unfold noViews
  simp only [h]

def foldE (l : List Eff) (S : St) : St := l.foldl (fun S e => e.app S) S

theorem app_F {e : Eff} {S S' : St} {s : Nat} (h : S.F s = S'.F s) : (e.app S).F s = (e.app S').F s := by
  unfold Eff.app
  cases e.dst with
  | none => exact h
  | some d => by_cases hd : s = d <;> simp [upd, hd, h]
theorem app_F_off {e : Eff} {S : St} {s : Nat} (h : (e.dst == some s) = false) : (e.app S).F s = S.F s := by
  unfold Eff.app
  cases hd : e.dst with
  | none => rfl
  | some d =>
    have hne : s ≠ d := fun he => by rw [hd, he] at h; simp at h
    exact upd_ne _ _ _ _ hne
theorem app_F_on {e : Eff} {S : St} {s : Nat} (h : (e.dst == some s) = true) : (e.app S).F s = e.val := by
  simp only [beq_iff_eq] at h
  unfold Eff.app
  rw [h]
  exact upd_same _ _ _
theorem app_M {e : Eff} {S S' : St} {t : Nat} (h : S.M t = S'.M t) : (e.app S).M t = (e.app S').M t := by
  unfold Eff.app
  apply setM_get
  cases e.kv
  · exact h
  · exact noViews_get h
theorem app_M_off {e : Eff} {S : St} {t : Nat} (h : e.hits t = false) : (e.app S).M t = S.M t := by
  simp only [Eff.hits, Bool.or_eq_false_iff] at h
  unfold Eff.app
  rw [h.1]
  exact setM_off _ _ _ h.2

theorem fold_F : ∀ (l : List Eff) (S S' : St) (s : Nat), S.F s = S'.F s → (foldE l S).F s = (foldE (l.filter fun e => e.dst == some s) S').F s
  | [], _, _, _, h => h
  | e :: l, S, S', s, h => by
    cases he : e.dst == some s with
    | false =>
      rw [List.filter_cons_of_neg (by simp [he])]
      exact fold_F l _ _ s ((app_F_off he).trans h)
    | true =>
      rw [List.filter_cons_of_pos (by simp [he])]
      exact fold_F l _ _ s (app_F h)
theorem fold_M : ∀ (l : List Eff) (S S' : St) (t : Nat), S.M t = S'.M t → (foldE l S).M t = (foldE (l.filter fun e => e.hits t) S').M t
  | [], _, _, _, h => h
  | e :: l, S, S', t, h => by
    cases he : e.hits t with
    | false =>
      rw [List.filter_cons_of_neg (by simp [he])]
      exact fold_M l _ _ t ((app_M_off he).trans h)
    | true =>
      rw [List.filter_cons_of_pos (by simp [he])]
      exact fold_M l _ _ t (app_M h)

/-- The step, and from what it is the same: slots and tags. -/
def GStepL (cx : Cx) (ops : Array Oper) (R : List Nat) (S : St) (o : Oper) (e : Eff) : Prop :=
  ∀ T : St, (∀ s ∈ o.looksAt ops, T.F s = S.F s) → (∀ t ∈ R, T.M t = S.M t) → GStep cx ops T o (e.app T)

/-- One operation with its footprint. -/
structure It where
  R : List Nat
  e : Eff

/-- Neither of the two touches what the other one looks at or changes. -/
def indep (ops : Array Oper) (x y : Oper) (i j : It) : Bool :=
  x.apart ops y && (i.e.ms.all fun p => !j.R.contains p.1) && (j.e.ms.all fun p => !i.R.contains p.1) && (!i.e.kv || j.R.isEmpty) && (!j.e.kv || i.R.isEmpty)

/-- For each operation, which ones come ahead of it in every order (as bits). -/
def ancs (md : Region.Mode) : List Oper → List Nat → List Nat
  | [], acc => acc
  | o :: l, acc => ancs md l (acc ++ [o.after.toList.foldl (fun s e => if Region.binds md e then s ||| 2 ^ e.on ||| acc.getD e.on 0 else s) 0])

/-- Every operation waits for earlier ones only. -/
def backB (md : Region.Mode) : List Oper → Nat → Bool
  | [], _ => true
  | o :: l, n => (o.after.toList.all fun e => !Region.binds md e || decide (e.on < n)) && backB md l (n + 1)

/-- Two that may be turned round do not touch one another. -/
def freeB (md : Region.Mode) (ops : Array Oper) (its : List It) (anc : List Nat) : Bool :=
  (List.range ops.size).all fun j => (List.range j).all fun i =>
    (anc.getD j 0).testBit i ||
    match ops[i]?, ops[j]?, its[i]?, its[j]? with
    | some x, some y, some a, some b => indep ops x y a b
    | _, _, _, _ => false

section
variable {cx : Cx} {ops : Array Oper} {its : List It} {S0 : St}

/-- The state behind the operations of a set. -/
def stL (its : List It) (S0 : St) (L : Nat → Bool) : St := foldE ((its.zipIdx.filter fun p => L p.2).map (·.1.e)) S0

theorem filt (c : Eff → Bool) (L : Nat → Bool) : (((its.zipIdx.filter fun p => L p.2).map (·.1.e)).filter c) = (its.zipIdx.filter fun p => L p.2 && c p.1.e).map (·.1.e) := by
  rw [List.filter_map, List.filter_filter]
  congr 1
  apply List.filter_congr
  intro p _
  simp [Bool.and_comm]

/-- What the steps' footprints say. -/
structure ItsOk (cx : Cx) (ops : Array Oper) (its : List It) (S0 : St) : Prop where
  len : its.length = ops.size
  one : ∀ (i : Nat) o it, ops[i]? = some o → its[i]? = some it → it.e.dst = o.dst ∧ (∀ p ∈ it.e.ms, p.1 ∈ it.R) ∧ (it.e.kv = true → it.R ≠ []) ∧ GStepL cx ops it.R (stL its S0 fun k => decide (k < i)) o it.e

theorem mem_zip {p : It × Nat} (h : p ∈ its.zipIdx) : its[p.2]? = some p.1 := by
  obtain ⟨it, i⟩ := p
  have := List.mem_zipIdx_iff_getElem?.1 h
  exact this

theorem zip_at {i : Nat} {it : It} (h : its[i]? = some it) : ∃ A B, its.zipIdx = A ++ (it, i) :: B ∧ (∀ p ∈ A, p.2 < i) ∧ (∀ p ∈ B, i < p.2) := by
  have hi := (List.getElem?_eq_some_iff.1 h).1
  refine ⟨(its.take i).zipIdx, (its.drop (i + 1)).zipIdx (i + 1), ?_, fun p hp => ?_, fun p hp => ?_⟩
  · have e : its = its.take i ++ it :: its.drop (i + 1) := by
      have h1 := (List.getElem?_eq_some_iff.1 h).2
      rw [← h1, List.getElem_cons_drop, List.take_append_drop]
    have e2 : its.zipIdx = (its.take i ++ it :: its.drop (i + 1)).zipIdx := by rw [← e]
    rw [e2, List.zipIdx_append, List.zipIdx_cons]
    have hl : (its.take i).length = i := by rw [List.length_take]; omega
    rw [hl, Nat.zero_add]
  · have := List.mem_zipIdx hp
    have hl : (its.take i).length = i := by rw [List.length_take]; omega
    omega
  · have := List.mem_zipIdx hp
    omega

structure Free (md : Region.Mode) (ops : Array Oper) (its : List It) : Prop where
  back : ∀ (i : Nat) o, ops[i]? = some o → ∀ e ∈ o.after, Region.binds md e = true → e.on < i
  anc : ∀ (i j : Nat) x y a b, i < j → ops[i]? = some x → ops[j]? = some y → its[i]? = some a → its[j]? = some b →
    indep ops x y a b = true ∨ ∀ L : Nat → Bool, (∀ k o, ops[k]? = some o → L k = true → ∀ e ∈ o.after, Region.binds md e = true → L e.on = true) → (∀ e ∈ y.after, Region.binds md e = true → L e.on = true) → L i = true

/-- Down-closed. -/
def Clo (md : Region.Mode) (ops : Array Oper) (L : Nat → Bool) : Prop := ∀ k o, ops[k]? = some o → L k = true → ∀ e ∈ o.after, Region.binds md e = true → L e.on = true

theorem indep_slot {x y : Oper} {a b : It} (h : indep ops x y a b = true) : x.apart ops y = true := by
  simp only [indep, Bool.and_eq_true] at h
  exact h.1.1.1.1

theorem indep_tag {x y : Oper} {a b : It} (h : indep ops x y a b = true) (ha : ∀ p ∈ a.e.ms, p.1 ∈ a.R) (hb : ∀ p ∈ b.e.ms, p.1 ∈ b.R) (hka : a.e.kv = true → a.R ≠ []) (hkb : b.e.kv = true → b.R ≠ []) {t : Nat} :
    (a.e.hits t = true → t ∉ b.R) ∧ (b.e.hits t = true → t ∉ a.R) ∧ ¬ (a.e.hits t = true ∧ b.e.hits t = true) := by
  simp only [indep, Bool.and_eq_true, List.all_eq_true, Bool.not_eq_true', Bool.or_eq_true, List.isEmpty_iff, List.contains_eq_mem, decide_eq_false_iff_not] at h
  obtain ⟨⟨⟨⟨_, h1⟩, h2⟩, h3⟩, h4⟩ := h
  have hit : ∀ e : Eff, e.hits t = true → e.kv = true ∨ ∃ p ∈ e.ms, p.1 = t := fun e he => by
    simp only [Eff.hits, Bool.or_eq_true, List.any_eq_true, beq_iff_eq] at he
    exact he
  have p1 : a.e.hits t = true → t ∉ b.R := fun he ht => by
    rcases hit _ he with hk | ⟨p, hp, rfl⟩
    · rcases h3 with h3 | h3
      · rw [h3] at hk; cases hk
      · rw [h3] at ht; cases ht
    · exact h1 p hp ht
  have p2 : b.e.hits t = true → t ∉ a.R := fun he ht => by
    rcases hit _ he with hk | ⟨p, hp, rfl⟩
    · rcases h4 with h4 | h4
      · rw [h4] at hk; cases hk
      · rw [h4] at ht; cases ht
    · exact h2 p hp ht
  refine ⟨p1, p2, fun ⟨e1, e2⟩ => ?_⟩
  rcases hit _ e1 with hk | ⟨p, hp, rfl⟩
  · rcases h3 with h3 | h3
    · rw [h3] at hk; cases hk
    · rcases hit _ e2 with hk2 | ⟨p, hp, _⟩
      · exact hkb hk2 h3
      · have := hb p hp; rw [h3] at this; cases this
  · exact p2 e2 (ha p hp)

variable {md : Region.Mode}

theorem agree_at (ok : ItsOk cx ops its S0) (fr : Free md ops its) {L : Nat → Bool} (hc : Clo md ops L) {i : Nat} {o : Oper} {it : It} (ho : ops[i]? = some o) (hit : its[i]? = some it) (hiL : L i = false)
    (hpre : ∀ e ∈ o.after, Region.binds md e = true → L e.on = true) (c : Eff → Bool)
    (hself : True) (hdep : ∀ (j : Nat) oj b, ops[j]? = some oj → its[j]? = some b → c b.e = true → (indep ops o oj it b = true ∨ indep ops oj o b it = true) → False) :
    (((its.zipIdx.filter fun p => L p.2).map (·.1.e)).filter c) = (((its.zipIdx.filter fun p => decide (p.2 < i)).map (·.1.e)).filter c) := by
  rw [filt c L, filt c fun k => decide (k < i)]
  congr 1
  apply List.filter_congr
  rintro ⟨b, j⟩ hp
  have hb : its[j]? = some b := mem_zip hp
  have hj : j < ops.size := by rw [← ok.len]; exact (List.getElem?_eq_some_iff.1 hb).1
  have hoj : ops[j]? = some ops[j] := by simp [hj]
  cases hcb : c b.e with
  | false => simp
  | true =>
    simp only [Bool.and_true]
    rcases Nat.lt_trichotomy j i with h | h | h
    · have : L j = true := by
        rcases fr.anc j i _ _ _ _ h hoj ho hb hit with h1 | h1
        · exact (hdep j _ b hoj hb hcb (.inr h1)).elim
        · exact h1 L hc hpre
      rw [this]; simp [h]
    · subst h; simp [hiL]
    · have : L j = false := by
        cases hLj : L j with
        | false => rfl
        | true =>
          rcases fr.anc i j _ _ _ _ h ho hoj hit hb with h1 | h1
          · exact (hdep j _ b hoj hb hcb (.inl h1)).elim
          · rw [h1 L hc (hc j _ hoj hLj)] at hiL; cases hiL
      rw [this]
      have : ¬ j < i := by omega
      simp [this]

theorem step_at (ok : ItsOk cx ops its S0) (fr : Free md ops its) {L : Nat → Bool} (hc : Clo md ops L) {i : Nat} {o : Oper} {it : It} (ho : ops[i]? = some o) (hit : its[i]? = some it) (hiL : L i = false)
    (hpre : ∀ e ∈ o.after, Region.binds md e = true → L e.on = true) : GStep cx ops (stL its S0 L) o (it.e.app (stL its S0 L)) := by
  obtain ⟨k1, k2, k3, k4⟩ := ok.one i o it ho hit
  refine k4 _ (fun s hs => ?_) (fun t ht => ?_)
  · unfold stL
    rw [fold_F _ S0 S0 s rfl, fold_F ((its.zipIdx.filter fun p => decide (p.2 < i)).map (·.1.e)) S0 S0 s rfl]
    rw [agree_at ok fr hc ho hit hiL hpre (fun e => e.dst == some s) trivial]
    intro j oj b hoj hb hcb hin
    obtain ⟨q1, q2, q3, _⟩ := ok.one j oj b hoj hb
    simp only [beq_iff_eq] at hcb
    rw [q1] at hcb
    rcases hin with h | h
    · exact (Oper.apart_spec (indep_slot h)).2.2 s hcb hs
    · exact (Oper.apart_spec (indep_slot h)).1 s hcb hs
  · unfold stL
    rw [fold_M _ S0 S0 t rfl, fold_M ((its.zipIdx.filter fun p => decide (p.2 < i)).map (·.1.e)) S0 S0 t rfl]
    rw [agree_at ok fr hc ho hit hiL hpre (fun e => e.hits t) trivial]
    intro j oj b hoj hb hcb hin
    obtain ⟨q1, q2, q3, _⟩ := ok.one j oj b hoj hb
    rcases hin with h | h
    · exact (indep_tag h k2 q2 k3 q3).2.1 hcb ht
    · exact (indep_tag h q2 k2 q3 k3).1 hcb ht

theorem insert_at (ok : ItsOk cx ops its S0) (fr : Free md ops its) {L : Nat → Bool} (hc : Clo md ops L) {i : Nat} {o : Oper} {it : It} (ho : ops[i]? = some o) (hit : its[i]? = some it) (hiL : L i = false) (c : Eff → Bool)
    (hdep : c it.e = true → ∀ (j : Nat) oj b, ops[j]? = some oj → its[j]? = some b → c b.e = true → indep ops o oj it b = true → False) :
    (((its.zipIdx.filter fun p => (L p.2 || p.2 == i)).map (·.1.e)).filter c) = (((its.zipIdx.filter fun p => L p.2).map (·.1.e)).filter c) ++ (if c it.e then [it.e] else []) := by
  rw [filt c fun k => (L k || k == i), filt c L]
  obtain ⟨A, B, e, hA, hB⟩ := zip_at hit
  have hmem : ∀ p ∈ A ++ (it, i) :: B, its[p.2]? = some p.1 := fun p hp => mem_zip (by rw [e]; exact hp)
  rw [e]
  simp only [List.filter_append, List.map_append]
  have e1 : (A.filter fun p => (L p.2 || p.2 == i) && c p.1.e) = A.filter fun p => L p.2 && c p.1.e := by
    apply List.filter_congr
    intro p hp
    have : p.2 ≠ i := by have := hA p hp; omega
    rw [beq_false_of_ne this, Bool.or_false]
  have e2 : (B.filter fun p => (L p.2 || p.2 == i) && c p.1.e) = B.filter fun p => L p.2 && c p.1.e := by
    apply List.filter_congr
    intro p hp
    have : p.2 ≠ i := by have := hB p hp; omega
    rw [beq_false_of_ne this, Bool.or_false]
  rw [e1, List.append_assoc]
  congr 1
  cases hci : c it.e with
  | false => simp [hci, e2]
  | true =>
    have e3 : (B.filter fun p => L p.2 && c p.1.e) = [] := by
      rw [List.filter_eq_nil_iff]
      rintro ⟨b, j⟩ hp
      have hb := hmem (b, j) (by simp [hp])
      simp only at hb
      have hj : j < ops.size := by rw [← ok.len]; exact (List.getElem?_eq_some_iff.1 hb).1
      have hoj : ops[j]? = some ops[j] := by simp [hj]
      intro hh
      simp only [Bool.and_eq_true] at hh
      rcases fr.anc i j _ _ _ _ (hB _ hp) ho hoj hit hb with h1 | h1
      · exact hdep hci j _ b hoj hb hh.2 h1
      · rw [h1 L hc (hc j _ hoj hh.1)] at hiL; cases hiL
    simp [hci, e2, e3, hiL]

theorem foldE_snoc (l : List Eff) (e : Eff) (S : St) : foldE (l ++ [e]) S = e.app (foldE l S) := by simp [foldE]

theorem stL_insert (ok : ItsOk cx ops its S0) (fr : Free md ops its) {L : Nat → Bool} (hc : Clo md ops L) {i : Nat} {o : Oper} {it : It} (ho : ops[i]? = some o) (hit : its[i]? = some it) (hiL : L i = false) :
    stL its S0 (fun k => (L k || k == i)) = it.e.app (stL its S0 L) := by
  obtain ⟨k1, k2, k3, _⟩ := ok.one i o it ho hit
  have hF : ∀ s, (stL its S0 (fun k => (L k || k == i))).F s = (it.e.app (stL its S0 L)).F s := fun s => by
    unfold stL
    rw [fold_F _ S0 S0 s rfl, insert_at ok fr hc ho hit hiL (fun e => e.dst == some s)]
    · cases hd : it.e.dst == some s with
      | true =>
        simp only [if_true]
        rw [foldE_snoc, app_F_on hd, app_F_on hd]
      | false =>
        simp only [Bool.false_eq_true, if_false, List.append_nil]
        rw [app_F_off hd, ← fold_F _ S0 S0 s rfl]
    · intro h1 j oj b hoj hb h2 hin
      obtain ⟨q1, _⟩ := ok.one j oj b hoj hb
      simp only [beq_iff_eq] at h1 h2
      rw [k1] at h1
      rw [q1] at h2
      exact (Oper.apart_spec (indep_slot hin)).2.1 s h1 h2
  have hM : ∀ t, (stL its S0 (fun k => (L k || k == i))).M t = (it.e.app (stL its S0 L)).M t := fun t => by
    unfold stL
    rw [fold_M _ S0 S0 t rfl, insert_at ok fr hc ho hit hiL (fun e => e.hits t)]
    · cases hd : it.e.hits t with
      | true =>
        simp only [if_true]
        rw [foldE_snoc]
        exact app_M (fold_M _ S0 S0 t rfl).symm
      | false =>
        simp only [Bool.false_eq_true, if_false, List.append_nil]
        rw [app_M_off hd, ← fold_M _ S0 S0 t rfl]
    · intro h1 j oj b hoj hb h2 hin
      obtain ⟨q1, q2, q3, _⟩ := ok.one j oj b hoj hb
      exact (indep_tag hin k2 q2 k3 q3).2.2 ⟨h1, h2⟩
  generalize stL its S0 (fun k => (L k || k == i)) = A at *
  generalize it.e.app (stL its S0 L) = B at *
  cases A; cases B
  simp only [St.mk.injEq]
  exact ⟨funext hF, funext hM⟩

end

end Go.Ab
