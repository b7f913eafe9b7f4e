/- The abstract layer, part 16: one step; a chain of steps; a region in the order of the text. -/
import Derived.Test.YtjlfgobbieljoaaAb15
namespace Go.Ab
open Go.RowKit

/-- What a builtin yields. -/
def builtinOut (P : Program) (S : St) (b : Builtin) (args : List Operand) (ts : List TypeId) : Option Out :=
  match b, args, ts with
  | .append, [s, x], [t, tx] => appendOut P t tx (S.look s) (S.look x)
  | .len, [x], [t] => (lenSV P t (S.look x)).map .val
  | .max, [x, y], _ => (minmaxSV true [S.ev x, S.ev y]).map .val
  | .min, [x, y], _ => (minmaxSV false [S.ev x, S.ev y]).map .val
  | _, _, _ => none

def callOut (P : Program) (S : St) (c : Call) : Option Out :=
  match c.callee with
  | .builtin b => builtinOut P S b c.args.toList c.argTypes.toList
  | _ => none

/-- What an operation that is no call of a function yields. -/
def outOf (P : Program) (S : St) : Op → Option Out
  | .move x => some (.val (S.ev x))
  | .assign x => some (.val (S.ev x))
  | .pick c x y => match S.ev c with
    | .dv (.bool b) => some (.val (pickSV b (S.ev x) (S.ev y)))
    | _ => none
  | .binOp op t x y _ => (binSV P op t (S.ev x) (S.ev y)).map .val
  | .unOp op _ x => (unSV op (S.ev x)).map .val
  | .convert s d x => (convSV P s d (S.ev x)).map .val
  | .extract x i => (extractSV (S.ev x) i).map .val
  | .fieldAddr s x f => (fieldSV P s f (S.look x)).map .val
  | .indexAddr t x y => (indexSV P t (S.look x) (S.ev y)).map .val
  | .load t x => (loadSV P t (S.look x)).map .val
  | .slice t x lo hi mx => (cutSV P t (S.look x) (lo.map S.ev) (hi.map S.ev) (mx.map S.ev)).map .val
  | .nilCheck x => (nilckSV (S.look x)).map .val
  | .build t parts => (buildSV P t (parts.toList.map fun p => (p.1, S.ev p.2))).map .val
  | .alloc t => (zeroP P t).map fun cs => .mk ⟨cs, 0, t, 0, false⟩ 0
  | .box t x => (cellsSV (S.ev x)).map fun cs => .mk ⟨cs, 0, t, 0, false⟩ 0
  | .makeSlice t l c => makeOut P t (S.ev l) (S.ev c)
  | .buildSlice t n parts => buildSliceOut P t n (parts.toList.map fun p => (p.1, S.ev p.2))
  | .store t x v => storeOut P t (S.look x) (S.ev v)
  | .call c => callOut P S c
  | _ => none

section
variable {cx : Cx} {S S' : St} {a : Act} {w : World} {μ : Nat → Option (Nat × Nat)} {o : Oper}

theorem outOf_runs (h : SimU cx S a w μ) {out : Out} (hr : outOf cx.P S o.op = some out) (ha : S.apply cx.n o.dst out = some S') : Runs cx S' o a w := by
  have val : ∀ {x : Option SV}, x.map Out.val = some out → ∃ r, x = some r ∧ out = .val r := fun hx => by
    obtain ⟨r, h1, h2⟩ := Option.map_eq_some_iff.1 hx
    exact ⟨r, h1, h2.symm⟩
  generalize hop : o.op = op at hr
  unfold outOf at hr
  split at hr
  · simp only [Option.some.injEq] at hr; subst hr; exact move_runs h (.inl hop) ha
  · simp only [Option.some.injEq] at hr; subst hr; exact move_runs h (.inr hop) ha
  · split at hr
    · rename_i b hb
      simp only [Option.some.injEq] at hr; subst hr; exact pick_runs h hop hb ha
    · cases hr
  · obtain ⟨r, h1, rfl⟩ := val hr; exact bin_runs h hop h1 ha
  · obtain ⟨r, h1, rfl⟩ := val hr; exact un_runs h hop h1 ha
  · obtain ⟨r, h1, rfl⟩ := val hr; exact conv_runs h hop h1 ha
  · obtain ⟨r, h1, rfl⟩ := val hr; exact extract_runs h hop h1 ha
  · obtain ⟨r, h1, rfl⟩ := val hr; exact field_runs h hop h1 ha
  · obtain ⟨r, h1, rfl⟩ := val hr; exact index_runs h hop h1 ha
  · obtain ⟨r, h1, rfl⟩ := val hr; exact load_runs h hop h1 ha
  · obtain ⟨r, h1, rfl⟩ := val hr; exact cut_runs h hop h1 ha
  · obtain ⟨r, h1, rfl⟩ := val hr; exact nilck_runs h hop h1 ha
  · obtain ⟨r, h1, rfl⟩ := val hr; exact build_runs h hop h1 ha
  · obtain ⟨cs, h1, h2⟩ := Option.map_eq_some_iff.1 hr; subst h2; exact alloc_runs h hop h1 ha
  · obtain ⟨cs, h1, h2⟩ := Option.map_eq_some_iff.1 hr; subst h2; exact box_runs h hop h1 ha
  · exact make_runs h hop hr ha
  · exact buildSlice_runs h hop hr ha
  · exact store_runs h hop hr ha
  · rename_i c
    obtain ⟨callee, args, ts⟩ := c
    unfold callOut at hr
    split at hr
    · rename_i b hb
      simp only at hb
      subst hb
      obtain ⟨args⟩ := args
      obtain ⟨ts⟩ := ts
      unfold builtinOut at hr
      simp only at hr
      split at hr
      · exact append_runs h hop hr ha
      · obtain ⟨r, h1, rfl⟩ := val hr; exact len_runs h hop h1 ha
      · obtain ⟨r, h1, rfl⟩ := val hr; exact minmax_runs (mx := true) h hop h1 ha
      · obtain ⟨r, h1, rfl⟩ := val hr; exact minmax_runs (mx := false) h hop h1 ha
      · cases hr
    · cases hr
  · cases hr

/-- The operation goes through, and S' is true behind it. -/
def Does (cx : Cx) (S' : St) (o : Oper) (a : Act) (w : World) : Prop := ∀ Q, o.wp cx.P a w (fun a' w' => Sim cx S' a' w') Q

theorem Runs.does (h : Runs cx S' o a w) : Does cx S' o a w := by
  intro Q
  obtain ⟨v, w', μ', hr, hs⟩ := h
  unfold Oper.wp
  rcases hr with hr | ⟨hr, rfl⟩ <;> rw [hr] <;> exact ⟨μ', hs⟩

/-- The arguments of a call, as data. -/
def ArgsSV (R : SV → DV → Prop) : List SV → List DV → Prop
  | [], [] => True
  | s :: ss, d :: ds => R s d ∧ ArgsSV R ss ds
  | _, _ => False

theorem argsSV_len {R : SV → DV → Prop} : ∀ {ss : List SV} {ds : List DV}, ArgsSV R ss ds → ss.length = ds.length
  | [], [], _ => rfl
  | _ :: ss, _ :: ds, h => by simp [argsSV_len h.2]
  | [], _ :: _, h => h.elim
  | _ :: _, [], h => h.elim

theorem argsSV_get {R : SV → DV → Prop} : ∀ {ss : List SV} {ds : List DV}, ArgsSV R ss ds → ∀ (j : Nat) s d, ss[j]? = some s → ds[j]? = some d → R s d
  | [], [], _, j, s, d, hs, _ => by simp at hs
  | s0 :: ss, d0 :: ds, h, j, s, d, hs, hd => by
    cases j with
    | zero => simp only [List.getElem?_cons_zero, Option.some.injEq] at hs hd; subst hs; subst hd; exact h.1
    | succ j => exact argsSV_get h.2 j s d (by simpa using hs) (by simpa using hd)
  | [], _ :: _, h, _, _, _, _, _ => h.elim
  | _ :: _, [], h, _, _, _, _, _ => h.elim

def St.applyRes (n : Nat) (S : St) (dst : Option Nat) (res : Res) : Option St :=
  match dst with
  | some d => if d < n then some ⟨upd S.F d (impRes d S.M res).1, (impRes d S.M res).2⟩ else none
  | none => none

theorem resRep_sim (h : SimU cx S a w μ) {w' : World} (hb : Below w.heap.size w w') {Y : Nat → Prop} (hY : ∀ b, XX cx S.M μ b → Y b) {res : Res} {v : Value} (hres : ResRep w.heap.size w' Y res v) (d : Nat) :
    ∃ μ', SimU cx ⟨S.F, (impRes d S.M res).2⟩ a w' μ' ∧ SVRep w' (impRes d S.M res).2 μ' (XX cx (impRes d S.M res).2 μ') (impRes d S.M res).1 v := by
  have h1 := h.reserve hb
  have hO : ∀ b, Own S.M μ b → Y b ∨ w.heap.size ≤ b := fun b hb => .inl (hY b (.inl hb))
  have drop : ∀ {M : Nat → Nat × Option Blk} {μ' : Nat → Option (Nat × Nat)} (c : SV) (v : Value), SVRep w' M μ' (XX (cx.res fun b => w.heap.size ≤ b) M μ') c v → SVRep w' M μ' (XX cx M μ') c v := by
    intro M μ' c v hh
    exact SVRep.mono (Nat.le_refl _) (fun b _ hx => ⟨rfl, fun ho => hx (ho.imp id .inl)⟩) (fun _ => Nat.le_refl _) (fun t g blk' e _ => ⟨blk', e, rfl, rfl⟩) c v hh
  have data : ∀ {obs : List (Option (Nat × Nat))} {M : Nat → Nat × Option Blk} {μ' : Nat → Option (Nat × Nat)} {x : DV} {v : Value}, (∀ b, Own M μ' b → Own S.M μ b ∨ usedBy obs b) → RepD w' (fun b => Y b ∨ usedBy obs b) x v → RepD w' (XX cx M μ') x v := by
    intro obs M μ' x v hO' hx
    refine hx.weaken fun b hb => ?_
    rcases hb with hb | hb
    · exact (hO' b hb).imp (fun h => hY b (.inl h)) id
    · exact .inl (hY b (.inr hb))
  have place : ∀ (obs : List (Option (Nat × Nat))) (rs : List R1) (vs : List Value), R1Reps w.heap.size w' (fun b => Y b ∨ usedBy obs b) rs vs obs → ∀ t g blk b cap, S.M t = (g, some blk) → μ t = some (b, cap) → ∀ c, some (b, c) ∉ obs := by
    intro obs rs vs hR t g blk b cap e hm c hc
    have key : ∀ (Y : Nat → Prop) (rs : List R1) (vs : List Value) (obs : List (Option (Nat × Nat))), R1Reps w.heap.size w' Y rs vs obs → some (b, c) ∈ obs → w.heap.size ≤ b := by
      intro Y rs
      induction rs with
      | nil => intro vs obs hR hc; cases vs <;> cases obs <;> first | exact hR.elim | (simp at hc; done) | (cases hR; done)
      | cons r rs ih =>
        intro vs obs hR hc
        cases vs with
        | nil => cases obs <;> cases hR
        | cons v vs =>
          cases obs with
          | nil => cases hR
          | cons ob obs =>
            rcases List.mem_cons.1 hc with h1 | h1
            · subst h1
              cases r with
              | dv x => have := hR.1.1; cases this
              | row esz elem n cs => exact hR.1.2.2.1
            · exact ih vs obs hR.2 h1
    have h1 := key _ rs vs obs hR hc
    have h2 := (h.place t g blk b cap e hm).2
    omega
  have hB : (cx.res fun b => w.heap.size ≤ b).w0.heap.size ≤ w.heap.size := h.below.size
  cases res with
  | one r =>
    obtain ⟨ob, hr⟩ := hres
    have hR : R1Reps w.heap.size w' (fun b => Y b ∨ usedBy [ob] b) [r] [v] [ob] := ⟨hr, trivial⟩
    obtain ⟨μ', i1, i2, i3, i4, i5⟩ := imp_sim (cx := cx.res fun b => w.heap.size ≤ b) hB (fun b hb => .inr hb) d [r] [v] [ob] 0 S μ h1 hR (by simp) (fun b hb => (hO b hb).imp .inl id) (place _ _ _ hR)
    refine ⟨μ', i1.release, ?_⟩
    cases r with
    | dv x =>
      have e := i5 0 x rfl
      have e' : (impRes d S.M (.one (.dv x))).1 = .dv x := by
        show ((impSV d 0 [R1.dv x] S.M).1).getD 0 .dead = _
        rw [List.getD_eq_getElem?_getD, e]
        rfl
      rw [e']
      simp only [SVRep]
      exact data i3 hr.2
    | row esz elem n cs =>
      have := i4 0 (.row esz elem n cs) v (impRes d S.M (.one (.row esz elem n cs))).1 rfl rfl (by simp [impRes, impSV]) (by simp)
      exact drop _ _ this
  | many rs =>
    obtain ⟨vs, obs, rfl, hR, hP⟩ := hres
    obtain ⟨μ', i1, i2, i3, i4, i5⟩ := imp_sim (cx := cx.res fun b => w.heap.size ≤ b) hB (fun b hb => .inr hb) d rs vs obs 0 S μ h1 hR hP (fun b hb => (hO b hb).imp .inl id) (place _ _ _ hR)
    refine ⟨μ', i1.release, ?_⟩
    show SVRep w' _ μ' _ (.tup (impSV d 0 rs S.M).1) _
    simp only [SVRep]
    have len : ∀ (rs : List R1) (j : Nat) (M : Nat → Nat × Option Blk), (impSV d j rs M).1.length = rs.length := by
      intro rs
      induction rs with
      | nil => intro j M; rfl
      | cons r rs ih => intro j M; cases r <;> simp [impSV, ih]
    have len2 : ∀ (Y : Nat → Prop) (rs : List R1) (vs : List Value) (obs : List (Option (Nat × Nat))), R1Reps w.heap.size w' Y rs vs obs → vs.length = rs.length := by
      intro Y rs
      induction rs with
      | nil => intro vs obs hR; cases vs <;> cases obs <;> first | rfl | cases hR
      | cons r rs ih =>
        intro vs obs hR
        cases vs with
        | nil => cases obs <;> cases hR
        | cons v vs =>
          cases obs with
          | nil => cases hR
          | cons ob obs => simp [ih vs obs hR.2]
    have get2 : ∀ (Y : Nat → Prop) (rs : List R1) (vs : List Value) (obs : List (Option (Nat × Nat))), R1Reps w.heap.size w' Y rs vs obs → ∀ (j : Nat) x v, rs[j]? = some (.dv x) → vs[j]? = some v → RepD w' Y x v := by
      intro Y rs
      induction rs with
      | nil => intro vs obs hR j x v h; simp at h
      | cons r rs ih =>
        intro vs obs hR j x v h1 h2
        cases vs with
        | nil => simp at h2
        | cons v0 vs =>
          cases obs with
          | nil => cases hR
          | cons ob obs =>
            cases j with
            | zero =>
              simp only [List.getElem?_cons_zero, Option.some.injEq] at h1 h2
              subst h1; subst h2
              exact hR.1.2
            | succ j => exact ih vs obs hR.2 j x v (by simpa using h1) (by simpa using h2)
    refine ⟨vs, rfl, SVReps.mk (by rw [len, len2 _ _ _ _ hR]) fun j c u hc hu => ?_⟩
    have hj : j < rs.length := by rw [← len rs 0 S.M]; exact (List.getElem?_eq_some_iff.1 hc).1
    have hr : rs[j]? = some rs[j] := by simp [hj]
    cases hq : rs[j] with
    | dv x =>
      rw [hq] at hr
      have := i5 j x hr
      rw [this] at hc
      simp only [Option.some.injEq] at hc
      subst hc
      simp only [SVRep]
      exact data i3 (get2 _ _ _ _ hR j x u hr hu)
    | row esz elem n cs =>
      rw [hq] at hr
      exact drop _ _ (i4 j _ u c hr hu hc (by simp))

theorem enter_run {P : Program} {f : FuncId} (h : EnterP P f) (args : Array Value) (w : World) : (callFunc f args).run P w = .ok (.enter f args) w := by
  obtain ⟨fn, h1, h2, h3⟩ := h
  unfold callFunc
  simp only [Sem.run_bind, run_program, Result.andThen_ok, h1, h2, h3, Bool.false_eq_true, if_false, Sem.run_pure]

theorem call_exec {f' : Operand} {args : Array Operand} {ts : Array TypeId} (ho : o.op = .call { callee := .value f', args := args, argTypes := ts }) {f : FuncId} {vp vc : Array Value} (hf : a.eval f' = .func (.func f) vp vc) (he : EnterP cx.P f) :
    (execOp a.eval o).run cx.P w = .ok (.enter f (vp ++ args.map a.eval ++ vc)) w := by
  unfold execOp
  simp only [ho, resolve, hf, Deferred.ofValue, invoke, Sem.run_bind, Sem.run_pure, Result.andThen_ok, enter_run he]

theorem args_get {w : World} {X : Nat → Prop} {pre ds caps : List DV} {vp va vc : Array Value} (hp : Args w X pre vp) (ha : Args w X ds va) (hc : Args w X caps vc) : Args w X (pre ++ ds ++ caps) (vp ++ va ++ vc) := by
  have two : ∀ (l m : List DV) (vl vm : Array Value), Args w X l vl → Args w X m vm → Args w X (l ++ m) (vl ++ vm) := by
    intro l m vl vm h1 h2
    refine ⟨by simp [h1.1, h2.1], fun j d hj => ?_⟩
    by_cases hlt : j < l.length
    · rw [List.getElem?_append_left hlt] at hj
      have := h1.2 j d hj
      have hv : (vl ++ vm).getD j undef = vl.getD j undef := by
        simp [Array.getElem?_append_left (show j < vl.size by rw [h1.1]; exact hlt)]
      rw [hv]; exact this
    · rw [List.getElem?_append_right (by omega)] at hj
      have := h2.2 _ d hj
      have hv : (vl ++ vm).getD j undef = vm.getD (j - l.length) undef := by
        simp [Array.getElem?_append_right (show vl.size ≤ j by rw [h1.1]; omega), h1.1]
      rw [hv]; exact this
  exact two _ _ _ _ (two _ _ _ _ hp ha) hc

theorem callF_does (hg : cx.Good) (h : SimU cx S a w μ) {f' : Operand} {args : Array Operand} {ts : Array TypeId} (ho : o.op = .call { callee := .value f', args := args, argTypes := ts }) {f : FuncId} {pre caps ds : List DV} (hf : S.ev f' = .dv (.fn f pre caps))
    (hargs : ArgsSV (Borrow S.M) (args.toList.map S.ev) ds) {res : Res} (hcall : ACallsF cx.P f (pre ++ ds ++ caps) res) (ha : S.applyRes cx.n o.dst res = some S') : Does cx S' o a w := by
  have hfv := h.ev f'
  rw [hf] at hfv
  simp only [SVRep] at hfv
  generalize hv : a.eval f' = vf at *
  cases hfv with
  | fn _ _ _ vp vc p1 p2 p3 p4 =>
    cases hd : o.dst with
    | none => rw [hd] at ha; simp [St.applyRes] at ha
    | some d =>
      rw [hd] at ha
      simp only [St.applyRes] at ha
      split at ha
      · rename_i hdn
        simp only [Option.some.injEq] at ha
        subst ha
        intro Q
        unfold Oper.wp
        rw [call_exec ho hv hcall.1]
        have hA : Args w (fun _ => False) (pre ++ ds ++ caps) (vp ++ args.map a.eval ++ vc) := by
          refine args_get ⟨p1, fun j c hj => (p3 j c hj).weaken fun _ h => h.elim⟩ ⟨?_, fun j c hj => ?_⟩ ⟨p2, fun j c hj => (p4 j c hj).weaken fun _ h => h.elim⟩
          · have := argsSV_len hargs; simpa using this
          · have hl := argsSV_len hargs
            have hjl : j < args.size := by
              have := (List.getElem?_eq_some_iff.1 hj).1
              simp only [List.length_map, Array.length_toList] at hl
              omega
            have hb := argsSV_get hargs j (S.ev args[j]) c (by simp [hjl]) hj
            have hv' : (args.map a.eval).getD j undef = a.eval args[j] := by simp [hjl]
            rw [hv']
            exact hb.rep h (h.ev _)
        refine (hcall.2 w _ hA).mono fun e w' ⟨v, he, hb, hres⟩ => ?_
        subst he
        show Sim cx _ (a.put o.dst v) w'
        obtain ⟨μ', i1, i2⟩ := resRep_sim h hb (Y := fun b => b < w.heap.size) (fun b hx => by
          rcases hx with ⟨t, g, blk, cap, e1, _, e3⟩ | hx
          · exact (h.place t g blk b cap e1 e3).2
          · exact Nat.lt_of_lt_of_le (hg b hx).1 h.below.size) hres d
        rw [hd]
        exact ⟨μ', i1.set hdn i2⟩
      · cases ha

theorem callA_does (hg : cx.Good) (h : SimU cx S a w μ) {f' : Operand} {args : Array Operand} {ts : Array TypeId} (ho : o.op = .call { callee := .value f', args := args, argTypes := ts }) {f : FuncId} {pre caps ds : List DV} (hf : S.ev f' = .dv (.fn f pre caps))
    (hargs : ArgsSV (Lasting S.M) (args.toList.map S.ev) ds) {res : Res} (hcall : ACalls cx.P f (pre ++ ds ++ caps) res) (ha : S.applyRes cx.n o.dst res = some S') : Does cx S' o a w := by
  have hfv := h.ev f'
  rw [hf] at hfv
  simp only [SVRep] at hfv
  generalize hv : a.eval f' = vf at *
  cases hfv with
  | fn _ _ _ vp vc p1 p2 p3 p4 =>
    cases hd : o.dst with
    | none => rw [hd] at ha; simp [St.applyRes] at ha
    | some d =>
      rw [hd] at ha
      simp only [St.applyRes] at ha
      split at ha
      · rename_i hdn
        simp only [Option.some.injEq] at ha
        subst ha
        intro Q
        unfold Oper.wp
        rw [call_exec ho hv hcall.1]
        have hA : Args w (XX cx S.M μ) (pre ++ ds ++ caps) (vp ++ args.map a.eval ++ vc) := by
          refine args_get ⟨p1, p3⟩ ⟨?_, fun j c hj => ?_⟩ ⟨p2, p4⟩
          · have := argsSV_len hargs; simpa using this
          · have hl := argsSV_len hargs
            have hjl : j < args.size := by
              have := (List.getElem?_eq_some_iff.1 hj).1
              simp only [List.length_map, Array.length_toList] at hl
              omega
            have hb := argsSV_get hargs j (S.ev args[j]) c (by simp [hjl]) hj
            have hv' : (args.map a.eval).getD j undef = a.eval args[j] := by simp [hjl]
            rw [hv']
            exact hb.rep hg h (h.ev _)
        have hX : ∀ b, XX cx S.M μ b → b < w.heap.size := fun b hx => by
          rcases hx with ⟨t, g, blk, cap, e1, _, e3⟩ | hx
          · exact (h.place t g blk b cap e1 e3).2
          · exact Nat.lt_of_lt_of_le (hg b hx).1 h.below.size
        refine (hcall.2 w (XX cx S.M μ) _ hX hA).mono fun e w' ⟨v, he, hb, hres⟩ => ?_
        subst he
        show Sim cx _ (a.put o.dst v) w'
        obtain ⟨μ', i1, i2⟩ := resRep_sim h hb (Y := XX cx S.M μ) (fun b hx => hx) hres d
        rw [hd]
        exact ⟨μ', i1.set hdn i2⟩
      · cases ha

/-- One operation, carried out. -/
inductive Step (cx : Cx) (S : St) (o : Oper) (S' : St) : Prop
  | out (out : Out) : outOf cx.P S o.op = some out → S.apply cx.n o.dst out = some S' → Step cx S o S'
  | fn (f : FuncId) (pre caps : Array Operand) : o.op = .makeFunc (.func f) pre caps → S.applyFn cx.n o.dst f (pre.toList.map S.look) (caps.toList.map S.look) = some S' → Step cx S o S'
  | callF (f' : Operand) (args : Array Operand) (ts : Array TypeId) (f : FuncId) (pre caps ds : List DV) (res : Res) : o.op = .call { callee := .value f', args := args, argTypes := ts } → S.ev f' = .dv (.fn f pre caps) →
      ArgsSV (Borrow S.M) (args.toList.map S.ev) ds → ACallsF cx.P f (pre ++ ds ++ caps) res → S.applyRes cx.n o.dst res = some S' → Step cx S o S'
  | callA (f' : Operand) (args : Array Operand) (ts : Array TypeId) (f : FuncId) (pre caps ds : List DV) (res : Res) : o.op = .call { callee := .value f', args := args, argTypes := ts } → S.ev f' = .dv (.fn f pre caps) →
      ArgsSV (Lasting S.M) (args.toList.map S.ev) ds → ACalls cx.P f (pre ++ ds ++ caps) res → S.applyRes cx.n o.dst res = some S' → Step cx S o S'
  | sem : (cx.Good → ∀ a w, Sim cx S a w → Does cx S' o a w) → Step cx S o S'

theorem Step.does (hg : cx.Good) (h : Sim cx S a w) (hs : Step cx S o S') : Does cx S' o a w := by
  have h0 := h
  obtain ⟨μ, h⟩ := h
  cases hs with
  | sem h1 => exact h1 hg a w h0
  | out out h1 h2 => exact (outOf_runs h h1 h2).does
  | fn f pre caps h1 h2 => exact (makeFunc_runs hg h h1 h2).does
  | callF f' args ts f pre caps ds res h1 h2 h3 h4 h5 => exact callF_does hg h h1 h2 h3 h4 h5
  | callA f' args ts f pre caps ds res h1 h2 h3 h4 h5 => exact callA_does hg h h1 h2 h3 h4 h5

def slotOf (ops : Array Oper) (j : Nat) : Option Nat := (ops[j]?).bind (·.dst)

def St.skip (S : St) (dst : Option Nat) : St := match dst with | some d => ⟨upd S.F d (.tup []), S.M⟩ | none => S

/-- What a guard finds that does not want: the other truth value, or the nothing of an operation that was itself left out. -/
inductive NotW (want : Bool) : SV → Prop
  | off : NotW want (.dv (.bool (!want)))
  | undef : NotW want (.tup [])

theorem NotW.ne {want c : Bool} (h : c ≠ want) : NotW want (.dv (.bool c)) := by
  have e : c = !want := by cases c <;> cases want <;> simp_all
  subst e; exact .off

/-- An operation under its guard. -/
def GStep (cx : Cx) (ops : Array Oper) (S : St) (o : Oper) (S' : St) : Prop :=
  match o.guard with
  | none => Step cx S o S'
  | some (j, want) => ∃ t, slotOf ops j = some t ∧ ((S.F t = .dv (.bool want) ∧ Step cx S o S') ∨ (NotW want (S.F t) ∧ S' = S.skip o.dst))

def Chain (cx : Cx) (ops : Array Oper) : List Oper → St → (St → Prop) → Prop
  | [], S, K => K S
  | o :: l, S, K => ∃ S', GStep cx ops S o S' ∧ Chain cx ops l S' K

theorem SVRep_tup0 {w : World} {M : Nat → Nat × Option Blk} {μ : Nat → Option (Nat × Nat)} {X : Nat → Prop} : SVRep w M μ X (.tup []) (.tuple #[]) := by
  exact ⟨[], rfl, trivial⟩

theorem SVRep_tup_inv {w : World} {M : Nat → Nat × Option Blk} {μ : Nat → Option (Nat × Nat)} {X : Nat → Prop} {cs : List SV} {v : Value} (h : SVRep w M μ X (.tup cs) v) : ∃ vs, v = .tuple vs := by
  simp only [SVRep] at h
  obtain ⟨vs, h1, _⟩ := h
  exact ⟨_, h1⟩

theorem Sim.skip (h : Sim cx S a w) (dst : Option Nat) : Sim cx (S.skip dst) (a.put dst undef) w := by
  obtain ⟨μ, h⟩ := h
  cases dst with
  | none => exact ⟨μ, h⟩
  | some d =>
    refine ⟨μ, ⟨h.blk, fun i => ?_, h.place, h.uniq, h.anc, h.below, by simpa [Act.put] using h.size, h.defers⟩⟩
    show SVRep w S.M μ _ (upd S.F d (.tup []) i) _
    by_cases hi : i = d
    · subst hi; rw [upd_same]
      have e : (a.put (some i) undef).tmps.getD i undef = .tuple #[] := by
        simp only [Act.put, Array.getD_eq_getD_getElem?, Array.getElem?_setIfInBounds]
        by_cases hq : i < a.tmps.size <;> simp [hq, undef]
      rw [e]
      exact SVRep_tup0
    · rw [upd_ne _ _ _ _ hi]
      have := h.slot i
      have e : (a.put (some d) undef).tmps.getD i undef = a.tmps.getD i undef := by simp [Act.put, Array.getElem?_setIfInBounds_ne (Ne.symm hi)]
      rw [e]
      exact this

theorem sim_yield (h : Sim cx S a w) {ops : Array Oper} {j t : Nat} {b : Bool} (ht : slotOf ops j = some t) (hb : S.F t = .dv (.bool b)) : yielded ops a.tmps j = some b := by
  obtain ⟨μ, h⟩ := h
  have := h.slot t
  rw [hb] at this
  simp only [SVRep] at this
  generalize hv : a.tmps.getD t undef = v at this
  cases this
  unfold yielded
  unfold slotOf at ht
  rw [ht]
  have hv' : a.tmps[t]?.getD undef = .bool b := by simpa using hv
  cases hq : a.tmps[t]? with
  | none => rw [hq] at hv'; simp [undef] at hv'
  | some u =>
    rw [hq] at hv'
    simp only [Option.getD_some] at hv'
    subst hv'
    simp [hq]

theorem sim_yield0 (h : Sim cx S a w) {ops : Array Oper} {j t : Nat} (ht : slotOf ops j = some t) (hb : S.F t = .tup []) : yielded ops a.tmps j = none := by
  obtain ⟨μ, h⟩ := h
  have := h.slot t
  rw [hb] at this
  generalize hv : a.tmps.getD t undef = v at this
  obtain ⟨vs, hvs⟩ := SVRep_tup_inv this
  subst hvs
  unfold yielded
  unfold slotOf at ht
  rw [ht]
  have hv' : a.tmps[t]?.getD undef = .tuple vs := by simpa using hv
  cases hq : a.tmps[t]? with
  | none => simp [hq]
  | some u =>
    rw [hq] at hv'
    simp only [Option.getD_some] at hv'
    subst hv'
    simp [hq]

theorem gstep_cases {ops : Array Oper} (hg : cx.Good) (h : Sim cx S a w) (hs : GStep cx ops S o S') :
    (Region.wanted o (yielded ops a.tmps) = true ∧ Does cx S' o a w) ∨ (Region.wanted o (yielded ops a.tmps) = false ∧ Sim cx S' (a.put o.dst undef) w) := by
  unfold GStep at hs
  split at hs
  · rename_i hgd
    exact .inl ⟨by simp [Region.wanted, hgd], hs.does hg h⟩
  · rename_i j want hgd
    obtain ⟨t, h1, ⟨h2, h3⟩ | ⟨h2, h3⟩⟩ := hs
    · have hy := sim_yield h h1 h2
      exact .inl ⟨by simp [Region.wanted, hgd, hy], h3.does hg h⟩
    · subst h3
      refine .inr ⟨?_, h.skip _⟩
      generalize hs : S.F t = sv at h2
      cases h2 with
      | off => have hy := sim_yield h h1 hs; cases want <;> simp [Region.wanted, hgd, hy]
      | undef => have hy := sim_yield0 h h1 hs; simp [Region.wanted, hgd, hy]

theorem chain_wp (hg : cx.Good) {ops : Array Oper} {K : St → Prop} {Q : Exit → Act → World → Prop} (hK : ∀ S a w, Sim cx S a w → K S → Q .normal a w) :
    ∀ (l : List Oper) (S : St) (a : Act) (w : World), Sim cx S a w → Chain cx ops l S K → wpList cx.P ops Q l a w
  | [], S, a, w, h, hc => hK S a w h hc
  | o :: l, S, a, w, h, hc => by
    obtain ⟨S', hs, hc⟩ := hc
    unfold wpList
    rcases gstep_cases hg h hs with ⟨h1, h2⟩ | ⟨h1, h2⟩
    · rw [if_pos h1]
      refine .inl (Oper.wp_mono (fun a' w' h' => ?_) (h2 Q))
      exact chain_wp hg hK l S' a' w' h' hc
    · rw [if_neg (by simp [h1])]
      exact chain_wp hg hK l S' _ w h2 hc

end
end Go.Ab
