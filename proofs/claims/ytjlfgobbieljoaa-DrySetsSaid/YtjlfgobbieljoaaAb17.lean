/- The abstract layer, part 17: code; how a call begins and ends. -/
import Derived.Test.YtjlfgobbieljoaaAb16
import Derived.Deep.LoopGhost
set_option linter.unusedVariables false
namespace Go.Ab
open Go.RowKit

section
variable {cx : Cx} {S S' : St} {a : Act} {w : World}

/-- From every frame and world of which S is true, the code ends as K says. -/
def AWp (cx : Cx) (c : Code) (K : Exit → St → Prop) (S : St) : Prop :=
  ∀ a w, Sim cx S a w → c.wp cx.P (fun e a' w' => ∃ S', Sim cx S' a' w' ∧ K e S') a w

/-- What is true where S is, S' says no more. -/
def Le (cx : Cx) (S S' : St) : Prop := ∀ a w, Sim cx S a w → Sim cx S' a w

theorem Le.refl (cx : Cx) (S : St) : Le cx S S := fun _ _ h => h
theorem Le.trans {S1 S2 S3 : St} (h : Le cx S1 S2) (k : Le cx S2 S3) : Le cx S1 S3 := fun a w hh => k a w (h a w hh)

theorem AWp.mono {c : Code} {K K' : Exit → St → Prop} (h : AWp cx c K S) (hk : ∀ e S, K e S → K' e S) : AWp cx c K' S :=
  fun a w hs => wp_mono (h a w hs) fun e a' w' ⟨S', h1, h2⟩ => ⟨S', h1, hk e S' h2⟩

theorem AWp.le {c : Code} {K : Exit → St → Prop} {S0 : St} (hl : Le cx S S0) (h : AWp cx c K S0) : AWp cx c K S := fun a w hs => h a w (hl a w hs)

theorem awp_region (hg : cx.Good) {id : Nat} {ops : Array Oper} {K : Exit → St → Prop} (h : Chain cx ops ops.toList S fun S' => K .normal S') : AWp cx (.region id ops false) K S :=
  fun a w hs => wp_region_list (chain_wp hg (fun S' a' w' h1 h2 => ⟨S', h1, h2⟩) ops.toList S a w hs h)

def seqK (cx : Cx) (y : Code) (K : Exit → St → Prop) : Exit → St → Prop
  | .normal, S => AWp cx y K S
  | e, S => K e S

theorem awp_seq {x y : Code} {K : Exit → St → Prop} (h : AWp cx x (seqK cx y K) S) : AWp cx (.seq x y) K S := by
  intro a w hs
  refine wp_seq (wp_mono (h a w hs) fun e a' w' ⟨S', h1, h2⟩ => ?_)
  cases e with
  | normal => exact h2 a' w' h1
  | _ => exact ⟨S', h1, h2⟩

theorem awp_cond {c : Operand} {x y : Code} {b : Bool} {K : Exit → St → Prop} (hc : S.ev c = .dv (.bool b)) (ht : b = true → AWp cx x K S) (hf : b = false → AWp cx y K S) : AWp cx (.cond c x y) K S := by
  intro a w hs
  obtain ⟨μ, h⟩ := hs
  have := h.ev c
  rw [hc] at this
  simp only [SVRep] at this
  generalize hv : a.eval c = v at this
  cases this
  exact wp_cond_split hv (fun hb => ht hb a w ⟨μ, h⟩) (fun hb => hf hb a w ⟨μ, h⟩)

def blockK (id : Nat) (K : Exit → St → Prop) : Exit → St → Prop
  | .exit id', S => if id' = id then K .normal S else K (.exit id') S
  | e, S => K e S

theorem awp_block {id : Nat} {c : Code} {K : Exit → St → Prop} (h : AWp cx c (blockK id K) S) : AWp cx (.block id c) K S := by
  intro a w hs
  refine wp_block (wp_mono (h a w hs) fun e a' w' ⟨S', h1, h2⟩ => ?_)
  cases e with
  | exit id' =>
    simp only [blockK] at h2
    simp only [Exit.inBlock]
    split at h2
    · rename_i e; rw [if_pos e]; exact ⟨S', h1, h2⟩
    · rename_i e; rw [if_neg e]; exact ⟨S', h1, h2⟩
  | _ => exact ⟨S', h1, h2⟩

theorem awp_exit {id : Nat} {K : Exit → St → Prop} (h : K (.exit id) S) : AWp cx (.exit id) K S := fun _ _ hs => wp_exit ⟨S, hs, h⟩
theorem awp_ret {K : Exit → St → Prop} (h : K .ret S) : AWp cx .ret K S := fun _ _ hs => wp_ret ⟨S, hs, h⟩
theorem awp_skip {K : Exit → St → Prop} (h : K .normal S) : AWp cx .skip K S := fun _ _ hs => wp_skip ⟨S, hs, h⟩
theorem awp_label {l : Nat} {K : Exit → St → Prop} (h : K .normal S) : AWp cx (.label l) K S := fun _ _ hs => wp_label ⟨S, hs, h⟩

def loopK {ι : Type} (cx : Cx) (inv : ι → St) (φ : ι → Prop) (m : ι → Nat) (i : ι) (K : Exit → St → Prop) : Exit → St → Prop
  | .normal, S => ∃ j, φ j ∧ m j < m i ∧ Le cx S (inv j)
  | e, S => K e S

theorem awp_loop {ι : Type} {body : Code} {K : Exit → St → Prop} (inv : ι → St) (φ : ι → Prop) (m : ι → Nat) (i : ι) (hi : φ i) (hs : Le cx S (inv i))
    (round : ∀ i, φ i → AWp cx body (loopK cx inv φ m i K) (inv i)) : AWp cx (.loop body) K S := by
  intro a w h
  refine wp_loop_ghost (fun n a w => ∃ i, φ i ∧ m i = n ∧ Sim cx (inv i) a w) (m i) ⟨i, hi, rfl, hs a w h⟩ ?_
  rintro n a w ⟨i, hi, rfl, h⟩
  refine wp_mono (round i hi a w h) fun e a' w' ⟨S', h1, h2⟩ => ?_
  cases e with
  | normal =>
    obtain ⟨j, hj, hlt, hle⟩ := h2
    exact ⟨m j, hlt, j, hj, rfl, hle a' w' h1⟩
  | _ => exact ⟨S', h1, h2⟩

/-! how a call ends -/
def resSV (P : Program) (S : St) : List ResultVar → Option (List SV)
  | [] => some []
  | .tmp t :: r => (resSV P S r).map (S.F t :: ·)
  | .cell t ty :: r => match loadSV P ty (S.look (.tmp t)), resSV P S r with
    | some s, some l => some (s :: l)
    | _, _ => none

/-- A slot value as a result. -/
def RetOk (okd : DV → Prop) (M : Nat → Nat × Option Blk) (s : SV) (r : R1) : Prop :=
  match r with
  | .dv d => Data (fun _ => True) okd M s d
  | .row esz elem n cs => (s = .nils ∧ n = 0 ∧ cs = []) ∨ ∃ t g, s = .sl t g 0 n ∧ M t = (g, some ⟨cs.map .dv, esz, elem, 0, true⟩) ∧ cs.length = n * esz ∧ ∀ c ∈ cs, Scalar c

def Rets (okd : DV → Prop) (M : Nat → Nat × Option Blk) : List SV → List R1 → Prop
  | [], [] => True
  | s :: ss, r :: rs => RetOk okd M s r ∧ Rets okd M ss rs
  | _, _ => False

def tagsOf : List SV → List R1 → List Nat
  | .sl t _ _ _ :: ss, .row .. :: rs => t :: tagsOf ss rs
  | _ :: ss, _ :: rs => tagsOf ss rs
  | _, _ => []

/-- Where rows are handed back, the other results hold no memory, and the rows are apart. -/
def RetsApart (ss : List SV) (rs : List R1) : Prop := (∀ r ∈ rs, ∃ d, r = .dv d) ∨ ((∀ r ∈ rs, ∀ d, r = .dv d → Scalar d) ∧ (tagsOf ss rs).Nodup)

theorem rets_rep {μ : Nat → Option (Nat × Nat)} (h : SimU cx S a w μ) (hW : ∀ b, ¬ cx.Wr b) {okd : DV → Prop} {Y : Nat → Prop} (hYB : ∀ b, Y b → b < cx.w0.heap.size)
    (hd : ∀ d v, okd d → RepD w (XX cx S.M μ) d v → RepD w Y d v) :
    ∀ (ss : List SV) (rs : List R1) (vs : List Value), Rets okd S.M ss rs → SVReps w S.M μ (XX cx S.M μ) ss vs →
      ∃ obs, R1Reps cx.w0.heap.size w Y rs vs obs ∧ ((tagsOf ss rs).Nodup → obs.Pairwise fun x y => ∀ b c c', x = some (b, c) → y ≠ some (b, c')) ∧
        ((∀ r ∈ rs, ∃ d, r = .dv d) → ∀ ob ∈ obs, ob = none) ∧ (∀ b c, some (b, c) ∈ obs → ∃ t ∈ tagsOf ss rs, μ t = some (b, c) ∧ ∃ g blk, S.M t = (g, some blk) ∧ OwS blk.st)
  | [], [], [], _, _ => ⟨[], trivial, fun _ => List.Pairwise.nil, fun _ ob h => absurd h (by simp), fun b c h => absurd h (by simp)⟩
  | s :: ss, r :: rs, v :: vs, hR, hV => by
    simp only [SVReps] at hV
    obtain ⟨obs, i1, i2, i3, i4⟩ := rets_rep h hW hYB hd ss rs vs hR.2 hV.2
    cases r with
    | dv d =>
      have hD := Data.rep h (Y := Y) (fun t g blk b cap e _ hm hy => by
        rcases (h.place t g blk b cap e hm).1 with h1 | h1
        · have := hYB b hy; omega
        · exact hW b h1) hd hR.1 v hV.1
      have ht : tagsOf (s :: ss) (.dv d :: rs) = tagsOf ss rs := by cases s <;> rfl
      refine ⟨none :: obs, ⟨⟨rfl, hD⟩, i1⟩, fun hn => List.Pairwise.cons (fun y _ b c c' hx => by cases hx) (i2 (by rwa [ht] at hn)), fun hall ob hob => ?_, fun b c hbc => ?_⟩
      · rcases List.mem_cons.1 hob with rfl | h1
        · rfl
        · exact i3 (fun r hr => hall r (List.mem_cons_of_mem _ hr)) ob h1
      · rcases List.mem_cons.1 hbc with h1 | h1
        · cases h1
        · rw [ht]; exact i4 b c h1
    | row esz elem n cs =>
      rcases hR.1 with ⟨rfl, rfl, rfl⟩ | ⟨t, g, rfl, e, hlen, hsc⟩
      · have hv := hV.1
        simp only [SVRep] at hv
        refine ⟨none :: obs, ⟨⟨fun c hc => (List.not_mem_nil hc).elim, by simp, hv, rfl⟩, i1⟩, fun hn => List.Pairwise.cons (fun y _ b c c' hx => by cases hx) (i2 (by simpa only [tagsOf] using hn)), fun hall => ?_, fun b c hbc => ?_⟩
        · obtain ⟨d, hd'⟩ := hall (.row esz elem 0 []) (by simp)
          cases hd'
        · rcases List.mem_cons.1 hbc with h1 | h1
          · cases h1
          · simpa only [tagsOf] using i4 b c h1
      have hv := hV.1
      simp only [SVRep] at hv
      have hv2 := hv.2 _ e
      have hb := h.blk t g _ e
      unfold BlkRep at hb
      cases hm : μ t with
      | none =>
        rw [hm] at hv2 hb
        simp only at hv2 hb
        refine ⟨none :: obs, ⟨⟨hsc, hlen, hv2.1, hv2.2.1⟩, i1⟩, fun hn => List.Pairwise.cons (fun y _ b c c' hx => by cases hx) (i2 (by simp only [tagsOf] at hn; exact (List.nodup_cons.1 hn).2)), fun hall => ?_, fun b c hbc => ?_⟩
        · obtain ⟨d, hd'⟩ := hall (.row esz elem n cs) (by simp)
          cases hd'
        · rcases List.mem_cons.1 hbc with h1 | h1
          · cases h1
          · obtain ⟨t', ht', q⟩ := i4 b c h1
            exact ⟨t', by simp only [tagsOf]; exact List.mem_cons_of_mem _ ht', q⟩
      | some p =>
        obtain ⟨b, cap⟩ := p
        rw [hm] at hv2 hb
        simp only at hv2 hb
        obtain ⟨hv3, hcap⟩ := hv2
        obtain ⟨cur, q1, q2, q3, q4, _⟩ := hb
        obtain ⟨q4, q5⟩ := q4 trivial
        simp only [Nat.zero_mul, Nat.sub_zero, Nat.zero_add] at hv3 hcap
        have hpl := h.place t g _ b cap e hm
        have hB : cx.w0.heap.size ≤ b := hpl.1.elim id (fun h1 => (hW b h1).elim)
        refine ⟨some (b, cap) :: obs, ⟨⟨hsc, hlen, hB, hpl.2, hv3, hcap, cur, q1, q4, q5, by simpa using q2, fun j c u hc hu => ?_⟩, i1⟩, fun hn => ?_, fun hall => ?_, fun b' c hbc => ?_⟩
        · have := q3 j (.dv c) u (by simp [hc]) hu
          simp only [SVRep] at this
          exact this.weaken fun _ h => h.elim
        · simp only [tagsOf] at hn
          obtain ⟨hn1, hn2⟩ := List.nodup_cons.1 hn
          refine List.Pairwise.cons (fun y hy b' c c' hx hy' => ?_) (i2 hn2)
          simp only [Option.some.injEq, Prod.mk.injEq] at hx
          obtain ⟨rfl, rfl⟩ := hx
          subst hy'
          obtain ⟨t', ht', hm', g', blk', e', hst'⟩ := i4 b c' hy
          have hne : t ≠ t' := fun h1 => hn1 (h1 ▸ ht')
          have := (h.uniq t g _ t' g' blk' b cap c' hne e e' owS0 hm hm').1
          unfold OwS at hst'; omega
        · obtain ⟨d, hd'⟩ := hall (.row esz elem n cs) (by simp)
          cases hd'
        · rcases List.mem_cons.1 hbc with h1 | h1
          · simp only [Option.some.injEq, Prod.mk.injEq] at h1
            obtain ⟨rfl, rfl⟩ := h1
            exact ⟨t, by simp [tagsOf], hm, g, _, e, owS0⟩
          · obtain ⟨t', ht', q⟩ := i4 b' c h1
            exact ⟨t', by simp only [tagsOf]; exact List.mem_cons_of_mem _ ht', q⟩
  | [], [], _ :: _, _, hV => by simp only [SVReps] at hV
  | [], _ :: _, _, hR, _ => hR.elim
  | _ :: _, [], _, hR, _ => hR.elim
  | _ :: _, _ :: _, [], _, hV => by simp only [SVReps] at hV

theorem scalar_all {Y Y' : Nat → Prop} {B : Nat} {w : World} : ∀ {rs : List R1} {vs : List Value} {obs : List (Option (Nat × Nat))}, (∀ r ∈ rs, ∀ d, r = .dv d → Scalar d) → R1Reps B w Y rs vs obs → R1Reps B w Y' rs vs obs
  | [], [], [], _, _ => trivial
  | r :: rs, v :: vs, ob :: obs, hs, h => by
    refine ⟨?_, scalar_all (fun r hr => hs r (List.mem_cons_of_mem _ hr)) h.2⟩
    have h1 := h.1
    cases r with
    | dv d => exact ⟨h1.1, (hs _ (by simp) d rfl).rep h1.2⟩
    | row esz elem n cs => exact h1
  | [], [], _ :: _, _, h => h.elim
  | [], _ :: _, _, _, h => by cases h
  | _ :: _, [], _, _, h => by cases h
  | _ :: _, _ :: _, [], _, h => by cases h

def resOne (tmps : Array Value) : ResultVar → Sem Value
  | .tmp t => pure (tmps.getD t undef)
  | .cell p t => do loadVar t (← asAddr (tmps.getD p undef))

/-- The results of a frame, as the machine reads them. -/
theorem results_run {μ : Nat → Option (Nat × Nat)} (h : SimU cx S a w μ) : ∀ (rs : List ResultVar) (ss : List SV), resSV cx.P S rs = some ss →
    ∃ vs, (rs.mapM (resOne a.tmps) : Sem (List Value)).run cx.P w = .ok vs w ∧ SVReps w S.M μ (XX cx S.M μ) ss vs
  | [], ss, hr => by
    simp only [resSV, Option.some.injEq] at hr
    subst hr
    exact ⟨[], by simp, trivial⟩
  | .tmp t :: rs, ss, hr => by
    simp only [resSV] at hr
    obtain ⟨l, h1, rfl⟩ := Option.map_eq_some_iff.1 hr
    obtain ⟨vs, i1, i2⟩ := results_run h rs l h1
    refine ⟨a.tmps.getD t undef :: vs, ?_, ?_⟩
    · simp only [List.mapM_cons, resOne, Sem.run_bind, Sem.run_pure, Result.andThen_ok, i1]
    · simp only [SVReps]; exact ⟨h.slot t, i2⟩
  | .cell p t :: rs, ss, hr => by
    simp only [resSV] at hr
    split at hr
    · rename_i s l h0 h1
      simp only [Option.some.injEq] at hr
      subst hr
      obtain ⟨vs, i1, i2⟩ := results_run h rs l h1
      have ld : ∃ v, (resOne a.tmps (.cell p t)).run cx.P w = .ok v w ∧ SVRep w S.M μ (XX cx S.M μ) s v := by
        obtain ⟨v, h1, h2⟩ := load_val (x := .tmp p) h h0
        refine ⟨v, ?_, h2⟩
        rw [← h1]
        show (do loadVar t (← asAddr (a.tmps.getD p undef)) : Sem Value).run cx.P w = (do loadVar t (← Instr.sureAddr (a.tmps.getD p undef)) : Sem Value).run cx.P w
        have h1' : (do loadVar t (← Instr.sureAddr (a.tmps.getD p undef)) : Sem Value).run cx.P w = .ok v w := h1
        generalize a.tmps.getD p undef = x at h1' ⊢
        cases x with
        | pointer q =>
          cases q with
          | some q => rfl
          | none => simp [Instr.sureAddr] at h1'
        | _ => simp [Instr.sureAddr] at h1'
      obtain ⟨v, l1, l2⟩ := ld
      refine ⟨v :: vs, ?_, ?_⟩
      · simp only [List.mapM_cons, Sem.run_bind, l1, Result.andThen_ok, i1, Sem.run_pure]
      · simp only [SVReps]; exact ⟨l2, i2⟩
    · cases hr


def resOf : List R1 → Res
  | [r] => .one r
  | rs => .many rs

def startF (ds : List DV) : Nat → SV := fun i => match ds[i]? with | some d => .dv d | none => .dead

/-- What a body must reach: its results are these. -/
def EndK (P : Program) (okd : DV → Prop) (rv : List ResultVar) (res : Res) : Exit → St → Prop := fun e S =>
  (e = .normal ∨ e = .ret) ∧ ∃ ss rs, resSV P S rv = some ss ∧ Rets okd S.M ss rs ∧ RetsApart ss rs ∧ res = resOf rs

theorem start_sim {P : Program} {n : Nat} {w : World} {X : Nat → Prop} {ds : List DV} {vs : Array Value} (hA : Args w X ds vs) (hn : ds.length ≤ n) :
    SimU ⟨P, w, n, fun _ => False, X, fun _ => none⟩ ⟨startF ds, fun _ => (0, none)⟩ { tmps := vs ++ Array.replicate (n - vs.size) undef, defers := [] } w (fun _ => none) := by
  refine ⟨fun t g blk e => by simp at e, fun i => ?_, fun t g blk b cap e => by simp at e, fun t g blk t' g' blk' b cap cap' _ e => by simp at e, fun t g blk e => by simp at e, BelowW.refl _ _, ?_, rfl⟩
  · show SVRep w _ _ _ (startF ds i) _
    unfold startF
    split
    · rename_i d hd
      have hi : i < vs.size := by rw [hA.1]; exact (List.getElem?_eq_some_iff.1 hd).1
      have e : (vs ++ Array.replicate (n - vs.size) undef).getD i undef = vs.getD i undef := by simp [Array.getElem?_append_left hi]
      simp only [SVRep]
      rw [e]
      refine (hA.2 i d hd).weaken fun b hb => ?_
      rcases hb with ⟨t, g, blk, cap, e1, _, e3⟩ | hx
      · cases e3
      · exact hx
    · trivial
  · show (vs ++ Array.replicate (n - vs.size) undef).size = n
    rw [Array.size_append, Array.size_replicate, hA.1]
    omega

theorem end_res {cx : Cx} {S : St} {a : Act} {w : World} {μ : Nat → Option (Nat × Nat)} (h : SimU cx S a w μ) (hW : ∀ b, ¬ cx.Wr b) {okd : DV → Prop} {Y : Nat → Prop} (hYB : ∀ b, Y b → b < cx.w0.heap.size)
    (hd : ∀ d v, okd d → RepD w (XX cx S.M μ) d v → RepD w Y d v) {fn : Func} {ss : List SV} {rs : List R1} (h1 : resSV cx.P S fn.results.toList = some ss) (h2 : Rets okd S.M ss rs) (h3 : RetsApart ss rs) :
    ∃ v, (results fn a.tmps).run cx.P w = .ok v w ∧ ResRep cx.w0.heap.size w Y (resOf rs) v := by
  obtain ⟨vs, r1, r2⟩ := results_run h _ ss h1
  obtain ⟨obs, o1, o2, o3, _⟩ := rets_rep h hW hYB hd ss rs vs h2 r2
  have len : ∀ (rs : List R1) (vs : List Value) (obs : List (Option (Nat × Nat))), R1Reps cx.w0.heap.size w Y rs vs obs → rs.length = vs.length := by
    intro rs
    induction rs with
    | nil => intro vs obs hR; cases vs <;> cases obs <;> first | rfl | cases hR
    | cons r rs ih =>
      intro vs obs hR
      cases vs with
      | nil => cases obs <;> cases hR
      | cons v vs =>
        cases obs with
        | nil => cases hR
        | cons ob obs => simp [ih vs obs hR.2]
  have hlen := len _ _ _ o1
  have o1' : R1Reps cx.w0.heap.size w (fun b => Y b ∨ usedBy obs b) rs vs obs := by
    rcases h3 with h3 | h3
    · refine o1.weaken fun b hb => hb.elim id fun ⟨c, hc⟩ => ?_
      have := o3 h3 _ hc
      cases this
    · exact scalar_all h3.1 o1
  have pw : ∀ obs : List (Option (Nat × Nat)), (∀ ob ∈ obs, ob = none) → obs.Pairwise fun x y => ∀ b c c', x = some (b, c) → y ≠ some (b, c') := by
    intro obs
    induction obs with
    | nil => intro _; exact .nil
    | cons x obs ih => exact fun hall => .cons (fun y _ b c c' hx => by rw [hall x (by simp)] at hx; cases hx) (ih fun z hz => hall z (List.mem_cons_of_mem _ hz))
  have o2' : obs.Pairwise fun x y => ∀ b c c', x = some (b, c) → y ≠ some (b, c') := by
    rcases h3 with h3 | h3
    · exact pw obs (o3 h3)
    · exact o2 h3.2
  have hrun : (results fn a.tmps).run cx.P w = .ok (if hh : vs.toArray.size = 1 then vs.toArray[0] else .tuple vs.toArray) w := by
    show (do let vs ← fn.results.mapM (resOne a.tmps); pure (if hh : vs.size = 1 then vs[0] else .tuple vs) : Sem Value).run cx.P w = _
    rw [Array.mapM_eq_mapM_toList]
    simp [r1]
  refine ⟨_, hrun, ?_⟩
  match rs, vs, obs, hlen, o1', o2' with
  | [r], [v], [ob], _, o1', o2' => exact ⟨ob, o1'.1⟩
  | [], [], obs, _, o1', o2' => exact ⟨[], obs, rfl, o1', o2'⟩
  | r :: r' :: rs, v :: v' :: vs, obs, _, o1', o2' => exact ⟨v :: v' :: vs, obs, by simp, o1', o2'⟩

theorem enterP_of {P : Program} {f : FuncId} {fn : Func} {c : Code} (hf : P.funcs[f]? = some fn) (hb : fn.body = some c) (hname : (fn.name == "runtime.NumGoroutine") = false) : EnterP P f :=
  ⟨fn, hf, hname, by simp [hb]⟩

/-- A function that hands back new memory, by its body. -/
theorem callsF_of {P : Program} {f : FuncId} {fn : Func} {c : Code} {ds : List DV} {res : Res} (hf : P.funcs[f]? = some fn) (hb : fn.body = some c) (hname : (fn.name == "runtime.NumGoroutine") = false) (hn : ds.length ≤ fn.ntmps)
    (h : ∀ cx : Cx, cx.P = P → cx.n = fn.ntmps → cx.Good → AWp cx c (EndK P Scalar fn.results.toList res) ⟨startF ds, fun _ => (0, none)⟩) : ACallsF P f ds res := by
  refine ⟨enterP_of hf hb hname, fun w vs hA => calls_of_wp hf hb ?_⟩
  have hs := start_sim (P := P) hA hn
  refine wp_mono (h ⟨P, w, fn.ntmps, fun _ => False, fun _ => False, fun _ => none⟩ rfl rfl (fun b hb => hb.elim) _ w ⟨_, hs⟩) ?_
  rintro e a' w' ⟨S', ⟨μ, h1⟩, he, ss, rs, e1, e2, e3, rfl⟩
  obtain ⟨v, v1, v2⟩ := end_res (fn := fn) (Y := fun b => b < w.heap.size) h1 (fun b hb => hb) (fun b hb => hb) (fun d v hd hr => hd.rep hr) e1 e2 e3
  have hbl : Below w.heap.size w w' := ⟨h1.below.os, h1.below.tape, h1.below.output, h1.below.size, fun k hk => h1.below.block k hk (fun hf => hf)⟩
  rcases he with rfl | rfl <;> exact ⟨h1.defers, v, v1, v, rfl, hbl, v2⟩

/-- A function whose result may share its arguments' memory, by its body. -/
theorem callsA_of {P : Program} {f : FuncId} {fn : Func} {c : Code} {ds : List DV} {res : Res} (hf : P.funcs[f]? = some fn) (hb : fn.body = some c) (hname : (fn.name == "runtime.NumGoroutine") = false) (hn : ds.length ≤ fn.ntmps)
    (h : ∀ cx : Cx, cx.P = P → cx.n = fn.ntmps → cx.Good → AWp cx c (EndK P (fun _ => True) fn.results.toList res) ⟨startF ds, fun _ => (0, none)⟩) : ACalls P f ds res := by
  refine ⟨enterP_of hf hb hname, fun w X vs hX hA => calls_of_wp hf hb ?_⟩
  have hs := start_sim (P := P) hA hn
  refine wp_mono (h ⟨P, w, fn.ntmps, fun _ => False, X, fun _ => none⟩ rfl rfl (fun b hb => ⟨hX b hb, fun hf => hf⟩) _ w ⟨_, hs⟩) ?_
  rintro e a' w' ⟨S', ⟨μ, h1⟩, he, ss, rs, e1, e2, e3, rfl⟩
  obtain ⟨v, v1, v2⟩ := end_res (fn := fn) (Y := X) h1 (fun b hb => hb) (fun b hb => hX b hb) (fun d v hd hr => hr.weaken fun b hb => .inr hb) e1 e2 e3
  have hbl : Below w.heap.size w w' := ⟨h1.below.os, h1.below.tape, h1.below.output, h1.below.size, fun k hk => h1.below.block k hk (fun hf => hf)⟩
  rcases he with rfl | rfl <;> exact ⟨h1.defers, v, v1, v, rfl, hbl, v2⟩

end
end Go.Ab
