/- The abstract layer, part 20: the steps' footprints; states that are lists. -/
import Derived.Test.YtjlfgobbieljoaaAb19
set_option linter.unusedVariables false
namespace Go.Ab
open Go.RowKit

/-! lists as frames -/
def lk : List (Nat × SV) → Nat → SV
  | [], _ => .dead
  | (k, v) :: l, i => if i = k then v else lk l i
def mkM : List (Nat × Nat × Option Blk) → Nat → Nat × Option Blk
  | [], _ => (0, none)
  | (k, v) :: l, i => if i = k then v else mkM l i

theorem upd_lk (l : List (Nat × SV)) (d : Nat) (v : SV) : upd (lk l) d v = lk ((d, v) :: l) := by
  funext i; simp [upd, lk]
theorem upd_mkM (l : List (Nat × Nat × Option Blk)) (d : Nat) (v : Nat × Option Blk) : upd (mkM l) d v = mkM ((d, v) :: l) := by
  funext i; simp [upd, mkM]
theorem dead_lk : (fun _ => SV.dead) = lk [] := by funext i; rfl
theorem none_mkM : (fun _ => ((0, none) : Nat × Option Blk)) = mkM [] := by funext i; rfl

def zipSV : Nat → List DV → List (Nat × SV)
  | _, [] => []
  | n, d :: ds => (n, .dv d) :: zipSV (n + 1) ds
theorem startF_lk (ds : List DV) : startF ds = lk (zipSV 0 ds) := by
  have : ∀ (ds : List DV) (n i : Nat), lk (zipSV n ds) i = if n ≤ i then startF ds (i - n) else .dead := by
    intro ds
    induction ds with
    | nil => intro n i; simp [zipSV, lk, startF]
    | cons d ds ih =>
      intro n i
      simp only [zipSV, lk, ih]
      by_cases h : i = n
      · subst h; simp [startF]
      · by_cases h2 : n ≤ i
        · have : n + 1 ≤ i := by omega
          have e : i - n = (i - (n + 1)) + 1 := by omega
          simp only [h, if_false, this, if_true, h2, e, startF, List.getElem?_cons_succ]
        · have : ¬ n + 1 ≤ i := by omega
          simp [h, this, h2]
  funext i
  rw [this]
  simp

def killV (e : Nat × Option Blk) : Nat × Option Blk :=
  match e.2 with
  | some b => if b.st = 2 then (e.1, none) else e
  | none => e
def nvL : List (Nat × Nat × Option Blk) → List (Nat × Nat × Option Blk)
  | [] => []
  | (k, v) :: l => (k, killV v) :: nvL l
theorem noViews_mkM (l : List (Nat × Nat × Option Blk)) : noViews (mkM l) = mkM (nvL l) := by
  funext i
  induction l with
  | nil => rfl
  | cons p l ih =>
    obtain ⟨k, v⟩ := p
    by_cases h : i = k
    · subst h
      simp only [noViews, mkM, nvL, if_true]
      obtain ⟨g, b⟩ := v
      cases b <;> rfl
    · have e1 : mkM ((k, v) :: l) i = mkM l i := by simp [mkM, h]
      have e2 : mkM (nvL ((k, v) :: l)) i = mkM (nvL l) i := by simp [mkM, nvL, h]
      rw [e2, ← ih]
      unfold noViews
      rw [e1]

/-! footprints -/
def svTag : SV → List Nat
  | .sl t _ _ _ => [t]
  | .pt t _ _ => [t]
  | _ => []

/-- The operands whose block is looked into. -/
def deref : Op → List Operand
  | .fieldAddr _ x _ => [x]
  | .indexAddr _ x _ => [x]
  | .load _ x => [x]
  | .slice _ x _ _ _ => [x]
  | .nilCheck x => [x]
  | .store _ x _ => [x]
  | .call c => match c.callee with
    | .builtin .append => c.args.toList
    | .builtin .len => c.args.toList
    | _ => []
  | _ => []

def opTags (S : St) (op : Op) : List Nat := (deref op).flatMap fun x => svTag (S.ev x)

def outTags (dst : Option Nat) : Out → List Nat
  | .val _ => []
  | .mk _ _ => dst.toList
  | .app t _ _ => dst.toList ++ t.toList
  | .put t _ => [t]

def effOf (n : Nat) (S : St) (dst : Option Nat) : Out → Option Eff
  | .val r => match dst with
    | some d => if d < n then some ⟨some d, r, false, []⟩ else none
    | none => some ⟨none, .dead, false, []⟩
  | .mk blk k => match dst with
    | some d => if d < n then some ⟨some d, if blk.row then .sl d ((S.M d).1 + 1) 0 k else .pt d ((S.M d).1 + 1) 0, false, [(d, (S.M d).1 + 1, some blk)]⟩ else none
    | none => none
  | .app t blk k => match dst with
    | some d => if d < n then
        match t with
        | none => some ⟨some d, .sl d ((S.M d).1 + 1) 0 k, false, [(d, (S.M d).1 + 1, some blk)]⟩
        | some t => match (S.M t).2 with
          | some b => if OwS b.st then some ⟨some d, .sl d ((S.M d).1 + 1) 0 k, false, [(t, (S.M t).1, some { b with st := 2 }), (d, (S.M d).1 + 1, some blk)]⟩ else none
          | none => none
      else none
    | none => none
  | .put t blk => match dst with
    | some _ => none
    | none => match (S.M t).2 with
      | some b => if OwS b.st then some ⟨none, .dead, true, [(t, (S.M t).1, some blk)]⟩ else none
      | none => none

theorem apply_eff {n : Nat} {S : St} {dst : Option Nat} {out : Out} {e : Eff} (h : effOf n S dst out = some e) : S.apply n dst out = some (e.app S) := by
  cases out with
  | val r =>
    cases dst with
    | none => simp only [effOf, Option.some.injEq] at h; subst h; rfl
    | some d =>
      simp only [effOf] at h
      split at h
      · rename_i hd; simp only [Option.some.injEq] at h; subst h; simp [St.apply, hd, Eff.app, setM]
      · cases h
  | mk blk k =>
    cases dst with
    | none => simp [effOf] at h
    | some d =>
      simp only [effOf] at h
      split at h
      · rename_i hd; simp only [Option.some.injEq] at h; subst h; simp [St.apply, hd, Eff.app, setM]
      · cases h
  | app t blk k =>
    cases dst with
    | none => simp [effOf] at h
    | some d =>
      simp only [effOf] at h
      split at h
      · rename_i hd
        cases t with
        | none => simp only [Option.some.injEq] at h; subst h; simp [St.apply, hd, Eff.app, setM]
        | some t =>
          simp only at h
          split at h
          · rename_i b hb
            split at h
            · rename_i hst
              simp only [Option.some.injEq] at h; subst h; simp [St.apply, hd, Eff.app, setM, hb, hst]
            · cases h
          · cases h
      · cases h
  | put t blk =>
    cases dst with
    | some d => simp [effOf] at h
    | none =>
      simp only [effOf] at h
      split at h
      · rename_i b hb
        split at h
        · rename_i hst
          simp only [Option.some.injEq] at h; subst h; simp [St.apply, Eff.app, setM, hb, hst]
        · cases h
      · cases h

theorem eff_dst {n : Nat} {S : St} {dst : Option Nat} {out : Out} {e : Eff} (h : effOf n S dst out = some e) : e.dst = dst ∧ (∀ p ∈ e.ms, p.1 ∈ outTags dst out) ∧ (e.kv = true → outTags dst out ≠ []) := by
  cases out with
  | val r => cases dst <;> simp only [effOf] at h <;> (try split at h) <;> (first | (simp only [Option.some.injEq] at h; subst h; simp; done) | cases h)
  | mk blk k => cases dst <;> simp only [effOf] at h <;> (try split at h) <;> (first | (simp only [Option.some.injEq] at h; subst h; simp [outTags]; done) | cases h)
  | app t blk k =>
    cases dst with
    | none => simp [effOf] at h
    | some d =>
      simp only [effOf] at h
      split at h
      · cases t with
        | none => simp only [Option.some.injEq] at h; subst h; simp [outTags]
        | some t =>
          simp only at h
          split at h
          · split at h
            · simp only [Option.some.injEq] at h; subst h; simp [outTags]
            · cases h
          · cases h
      · cases h
  | put t blk =>
    cases dst with
    | some d => simp [effOf] at h
    | none =>
      simp only [effOf] at h
      split at h
      · split at h
        · simp only [Option.some.injEq] at h; subst h; simp [outTags]
        · cases h
      · cases h

theorem eff_congr {n : Nat} {S T : St} {dst : Option Nat} {out : Out} (h : ∀ t ∈ outTags dst out, T.M t = S.M t) : effOf n T dst out = effOf n S dst out := by
  cases out with
  | val r => rfl
  | mk blk k =>
    cases dst with
    | none => rfl
    | some d => have := h d (by simp [outTags]); simp only [effOf, this]
  | app t blk k =>
    cases dst with
    | none => rfl
    | some d =>
      have h1 := h d (by simp [outTags])
      cases t with
      | none => simp only [effOf, h1]
      | some t => have h2 := h t (by simp [outTags]); simp only [effOf, h1, h2]
  | put t blk =>
    cases dst with
    | some d => rfl
    | none => have h1 := h t (by simp [outTags]); simp only [effOf, h1]

theorem blkOf_congr {M M' : Nat → Nat × Option Blk} {s : SV} (h : ∀ t ∈ svTag s, M' t = M t) : blkOf M' s = blkOf M s := by
  cases s with
  | sl t g o n => simp only [blkOf, h t (by simp [svTag])]
  | pt t g o => simp only [blkOf, h t (by simp [svTag])]
  | _ => rfl

theorem outOf_congr {P : Program} {S T : St} {op : Op} (h1 : ∀ x ∈ op.operands, T.ev x = S.ev x) (h2 : ∀ x ∈ deref op, blkOf T.M (S.ev x) = blkOf S.M (S.ev x)) : outOf P T op = outOf P S op := by
  have lk1 : ∀ x ∈ deref op, T.ev x = S.ev x → T.look x = S.look x := fun x hx he => by
    unfold St.look
    rw [he, h2 x hx]
  cases op with
  | move x => simp only [outOf, h1 x (by simp [Op.operands])]
  | assign x => simp only [outOf, h1 x (by simp [Op.operands])]
  | pick c x y => simp only [outOf, h1 c (by simp [Op.operands]), h1 x (by simp [Op.operands]), h1 y (by simp [Op.operands])]
  | binOp op t x y t' => simp only [outOf, h1 x (by simp [Op.operands]), h1 y (by simp [Op.operands])]
  | unOp op t x => simp only [outOf, h1 x (by simp [Op.operands])]
  | convert s d x => simp only [outOf, h1 x (by simp [Op.operands])]
  | extract x i => simp only [outOf, h1 x (by simp [Op.operands])]
  | fieldAddr s x f => simp only [outOf, lk1 x (by simp [deref]) (h1 x (by simp [Op.operands]))]
  | indexAddr t x y => simp only [outOf, lk1 x (by simp [deref]) (h1 x (by simp [Op.operands])), h1 y (by simp [Op.operands])]
  | load t x => simp only [outOf, lk1 x (by simp [deref]) (h1 x (by simp [Op.operands]))]
  | nilCheck x => simp only [outOf, lk1 x (by simp [deref]) (h1 x (by simp [Op.operands]))]
  | slice t x lo hi mx =>
    have e : ∀ z : Option Operand, (∀ y, z = some y → y ∈ (Op.slice t x lo hi mx).operands) → z.map T.ev = z.map S.ev := fun z hz => by
      cases z with
      | none => rfl
      | some y => simp [h1 y (hz y rfl)]
    simp only [outOf, lk1 x (by simp [deref]) (h1 x (by simp [Op.operands]))]
    rw [e lo (fun y hy => by subst hy; simp [Op.operands]), e hi (fun y hy => by subst hy; simp [Op.operands]), e mx (fun y hy => by subst hy; simp [Op.operands])]
  | build t ps =>
    simp only [outOf]
    rw [List.map_congr_left (g := fun p : Nat × Operand => (p.1, S.ev p.2)) fun p hp => by
      rw [h1 p.2 (by simp only [Op.operands, List.mem_toArray, List.mem_map]; exact ⟨p, hp, rfl⟩)]]
  | alloc t => rfl
  | box t x => simp only [outOf, h1 x (by simp [Op.operands])]
  | makeSlice t l c => simp only [outOf, h1 l (by simp [Op.operands]), h1 c (by simp [Op.operands])]
  | buildSlice t n ps =>
    simp only [outOf]
    rw [List.map_congr_left (g := fun p : Nat × Operand => (p.1, S.ev p.2)) fun p hp => by
      rw [h1 p.2 (by simp only [Op.operands, List.mem_toArray, List.mem_map]; exact ⟨p, hp, rfl⟩)]]
  | store t x v => simp only [outOf, lk1 x (by simp [deref]) (h1 x (by simp [Op.operands])), h1 v (by simp [Op.operands])]
  | call c =>
    obtain ⟨callee, args, ts⟩ := c
    simp only [outOf, callOut]
    have ha : ∀ x ∈ args.toList, T.ev x = S.ev x := fun x hx => h1 x (by simp [Op.operands, Call.operands]; exact .inr (by simpa using hx))
    cases callee with
    | builtin b =>
      simp only
      generalize hl : args.toList = l at ha
      unfold builtinOut
      split
      · rename_i s x t tx _
        rw [lk1 s (by simp [deref, hl]) (ha s (by simp)), lk1 x (by simp [deref, hl]) (ha x (by simp))]
      · rename_i x t _
        rw [lk1 x (by simp [deref, hl]) (ha x (by simp))]
      · rename_i x y
        rw [ha x (by simp), ha y (by simp)]
      · rename_i x y
        rw [ha x (by simp), ha y (by simp)]
      · rfl
    | _ => rfl
  | _ => rfl

theorem looks_tmp {ops : Array Oper} {o : Oper} {t : Nat} (h : Operand.tmp t ∈ o.op.operands) : t ∈ o.looksAt ops :=
  List.mem_append_left _ (List.mem_filterMap.2 ⟨.tmp t, by simpa using h, rfl⟩)

theorem ev_congr {S T : St} {ops : Array Oper} {o : Oper} (h : ∀ s ∈ o.looksAt ops, T.F s = S.F s) : ∀ x ∈ o.op.operands, T.ev x = S.ev x := fun x hx => by
  cases x with
  | tmp t => exact h t (looks_tmp hx)
  | _ => rfl

section
variable {cx : Cx} {ops : Array Oper} {S : St} {o : Oper}

theorem stepL_out {out : Out} {e : Eff} (h : outOf cx.P S o.op = some out) (he : effOf cx.n S o.dst out = some e) (T : St) (h1 : ∀ s ∈ o.looksAt ops, T.F s = S.F s) (h2 : ∀ t ∈ opTags S o.op ++ outTags o.dst out, T.M t = S.M t) : Step cx T o (e.app T) := by
  refine .out out ?_ (apply_eff ?_)
  · rw [outOf_congr (ev_congr h1) fun x hx => ?_]
    · exact h
    · exact blkOf_congr fun t ht => h2 t (List.mem_append_left _ (List.mem_flatMap.2 ⟨x, hx, ht⟩))
  · rw [eff_congr fun t ht => h2 t (List.mem_append_right _ ht)]
    exact he

theorem gstepL_out {out : Out} {e : Eff} (hgd : o.guard = none) (h : outOf cx.P S o.op = some out) (he : effOf cx.n S o.dst out = some e) : GStepL cx ops (opTags S o.op ++ outTags o.dst out) S o e := by
  intro T h1 h2
  unfold GStep
  rw [hgd]
  exact stepL_out h he T h1 h2

theorem looks_guard {j t : Nat} {want : Bool} (hgd : o.guard = some (j, want)) (ht : slotOf ops j = some t) : t ∈ o.looksAt ops := by
  unfold Oper.looksAt
  refine List.mem_append_right _ ?_
  rw [hgd]
  unfold slotOf at ht
  simp [ht]

theorem gstepL_guard {out : Out} {e : Eff} {j t : Nat} {want : Bool} (hgd : o.guard = some (j, want)) (ht : slotOf ops j = some t) (hb : S.F t = .dv (.bool want)) (h : outOf cx.P S o.op = some out) (he : effOf cx.n S o.dst out = some e) :
    GStepL cx ops (opTags S o.op ++ outTags o.dst out) S o e := by
  intro T h1 h2
  unfold GStep
  rw [hgd]
  exact ⟨t, ht, .inl ⟨by rw [h1 t (looks_guard hgd ht)]; exact hb, stepL_out h he T h1 h2⟩⟩

theorem gstepL_skip {j t : Nat} {want : Bool} (hgd : o.guard = some (j, want)) (ht : slotOf ops j = some t) (hb : NotW want (S.F t)) : GStepL cx ops [] S o ⟨o.dst, .tup [], false, []⟩ := by
  intro T h1 h2
  unfold GStep
  rw [hgd]
  refine ⟨t, ht, .inr ⟨by rw [h1 t (looks_guard hgd ht)]; exact hb, ?_⟩⟩
  cases o.dst <;> rfl

/-! calls -/
def rst (R : List Nat) (M : Nat → Nat × Option Blk) : Nat → Nat × Option Blk := fun t => if R.contains t then M t else ((M t).1, none)

theorem Data.weakM {ok : Nat → Prop} {okd : DV → Prop} {M M' : Nat → Nat × Option Blk} (hM : ∀ t g blk, M t = (g, some blk) → M' t = (g, some blk)) {s : SV} {d : DV} (h : Data ok okd M s d) : Data ok okd M' s d := by
  induction h with
  | dv d hd => exact .dv d hd
  | nils => exact .nils
  | emp b => exact .emp b
  | sl t g off n blk l s e hst hn he hc _ ih => exact .sl t g off n blk l s (hM _ _ _ e) hst hn he hc ih
  | pt t g off blk cs s e hst hc _ ih => exact .pt t g off blk cs s (hM _ _ _ e) hst hc ih
  | agg ss ds hl _ ih => exact .agg ss ds hl ih

theorem ArgsSV.weakM {ok : Nat → Prop} {okd : DV → Prop} {M M' : Nat → Nat × Option Blk} (hM : ∀ t g blk, M t = (g, some blk) → M' t = (g, some blk)) : ∀ {ss : List SV} {ds : List DV}, ArgsSV (Data ok okd M) ss ds → ArgsSV (Data ok okd M') ss ds
  | [], [], _ => trivial
  | _ :: _, _ :: _, h => ⟨h.1.weakM hM, ArgsSV.weakM hM h.2⟩
  | [], _ :: _, h => h.elim
  | _ :: _, [], h => h.elim

theorem rst_le {R : List Nat} {M M' : Nat → Nat × Option Blk} (h : ∀ t ∈ R, M' t = M t) : ∀ t g blk, rst R M t = (g, some blk) → M' t = (g, some blk) := fun t g blk e => by
  unfold rst at e
  split at e
  · rename_i hc
    rw [h t (by simpa using hc)]; exact e
  · simp at e

/-- The results' tags, and what they become. -/
def impTags (d : Nat) : Nat → List R1 → List Nat
  | _, [] => []
  | j, .dv _ :: rs => impTags d (j + 1) rs
  | j, .row .. :: rs => (d + 1000 * j) :: impTags d (j + 1) rs
def resTags (d : Nat) : Res → List Nat
  | .one r => impTags d 0 [r]
  | .many rs => impTags d 0 rs
def impMs (d : Nat) : Nat → List R1 → (Nat → Nat × Option Blk) → List (Nat × Nat × Option Blk)
  | _, [], _ => []
  | j, .dv _ :: rs, M => impMs d (j + 1) rs M
  | j, .row esz elem n cs :: rs, M => (d + 1000 * j, (M (d + 1000 * j)).1 + 1, some ⟨cs.map .dv, esz, elem, 0, true⟩) :: impMs d (j + 1) rs (upd M (d + 1000 * j) ((M (d + 1000 * j)).1 + 1, some ⟨cs.map .dv, esz, elem, 0, true⟩))

theorem imp_ms (d : Nat) : ∀ (rs : List R1) (j : Nat) (M T : Nat → Nat × Option Blk), (∀ t ∈ impTags d j rs, T t = M t) → (impSV d j rs T).1 = (impSV d j rs M).1 ∧ (impSV d j rs T).2 = setM T (impMs d j rs M)
  | [], j, M, T, h => ⟨rfl, rfl⟩
  | .dv x :: rs, j, M, T, h => by
    obtain ⟨h1, h2⟩ := imp_ms d rs (j + 1) M T h
    exact ⟨by simp only [impSV, h1], by simp only [impSV, impMs, h2]⟩
  | .row esz elem n cs :: rs, j, M, T, h => by
    have h0 := h (d + 1000 * j) (by simp [impTags])
    have := imp_ms d rs (j + 1) (upd M (d + 1000 * j) ((M (d + 1000 * j)).1 + 1, some ⟨cs.map .dv, esz, elem, 0, true⟩)) (upd T (d + 1000 * j) ((M (d + 1000 * j)).1 + 1, some ⟨cs.map .dv, esz, elem, 0, true⟩)) (fun t ht => by
      by_cases e : t = d + 1000 * j
      · subst e; rw [upd_same, upd_same]
      · rw [upd_ne _ _ _ _ e, upd_ne _ _ _ _ e]; exact h t (by simp [impTags, ht]))
    refine ⟨?_, ?_⟩
    · simp only [impSV, h0, this.1]
    · simp only [impSV, impMs, h0, setM, this.2]

def resMs (d : Nat) (M : Nat → Nat × Option Blk) : Res → List (Nat × Nat × Option Blk)
  | .one r => impMs d 0 [r] M
  | .many rs => impMs d 0 rs M

theorem res_ms (d : Nat) (res : Res) (M T : Nat → Nat × Option Blk) (h : ∀ t ∈ resTags d res, T t = M t) : (impRes d T res).1 = (impRes d M res).1 ∧ (impRes d T res).2 = setM T (resMs d M res) := by
  cases res with
  | one r => have := imp_ms d [r] 0 M T h; exact ⟨by simp only [impRes, this.1], this.2⟩
  | many rs => have := imp_ms d rs 0 M T h; exact ⟨by simp only [impRes, this.1], this.2⟩

theorem impMs_tags (d : Nat) : ∀ (rs : List R1) (j : Nat) (M : Nat → Nat × Option Blk), ∀ p ∈ impMs d j rs M, p.1 ∈ impTags d j rs
  | [], _, _, p, h => by cases h
  | .dv x :: rs, j, M, p, h => impMs_tags d rs (j + 1) M p h
  | .row esz elem n cs :: rs, j, M, p, h => by
    rcases List.mem_cons.1 h with rfl | h
    · simp [impTags]
    · exact List.mem_cons_of_mem _ (impMs_tags d rs (j + 1) _ p h)

def resEff (d : Nat) (S : St) (res : Res) : Eff := ⟨some d, (impRes d S.M res).1, false, resMs d S.M res⟩

theorem resEff_app {n d : Nat} {S T : St} {res : Res} (hd : d < n) (h : ∀ t ∈ resTags d res, T.M t = S.M t) : T.applyRes n (some d) res = some ((resEff d S res).app T) := by
  have := res_ms d res S.M T.M h
  simp [St.applyRes, hd, this.1, this.2, resEff, Eff.app]

theorem stepL_call {d : Nat} (hdst : o.dst = some d) (hdn : d < cx.n) {f' : Operand} {args : Array Operand} {ts : Array TypeId} (ho : o.op = .call { callee := .value f', args := args, argTypes := ts }) {f : FuncId} {pre ds caps : List DV} (hf : S.ev f' = .dv (.fn f pre caps))
    {R : List Nat} {res : Res} (hc : (ArgsSV (Borrow (rst R S.M)) (args.toList.map S.ev) ds ∧ ACallsF cx.P f (pre ++ ds ++ caps) res) ∨ (ArgsSV (Lasting (rst R S.M)) (args.toList.map S.ev) ds ∧ ACalls cx.P f (pre ++ ds ++ caps) res))
    (T : St) (h1 : ∀ s ∈ o.looksAt ops, T.F s = S.F s) (h2 : ∀ t ∈ R ++ resTags d res, T.M t = S.M t) : Step cx T o ((resEff d S res).app T) := by
  have hev := ev_congr h1
  have hf' : T.ev f' = .dv (.fn f pre caps) := by
    rw [hev f' (by rw [ho]; simp [Op.operands, Call.operands])]; exact hf
  have ha : args.toList.map T.ev = args.toList.map S.ev := List.map_congr_left fun x hx => hev x (by rw [ho]; simp [Op.operands, Call.operands]; exact .inr (by simpa using hx))
  have hr : T.applyRes cx.n o.dst res = some ((resEff d S res).app T) := by
    rw [hdst]; exact resEff_app hdn fun t ht => h2 t (List.mem_append_right _ ht)
  have hM := rst_le (R := R) (M := S.M) (M' := T.M) fun t ht => h2 t (List.mem_append_left _ ht)
  rcases hc with ⟨c1, c2⟩ | ⟨c1, c2⟩
  · exact .callF f' args ts f pre caps ds res ho hf' (by rw [ha]; exact c1.weakM hM) c2 hr
  · exact .callA f' args ts f pre caps ds res ho hf' (by rw [ha]; exact c1.weakM hM) c2 hr

end
end Go.Ab
