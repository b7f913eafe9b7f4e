/- Ab17, Ab18. -/
import Derived.Test.YtjlfgobbieljoaaDoorBogG05
import Derived.Deep.LoopGhost
import Derived.StillTail
set_option linter.all false
set_option linter.unusedVariables false
namespace Go.Ab
open Go.RowKit
section
variable {cx : Cx} {S S' : St} {a : Act} {w : World}
def Post (cx : Cx) (K : Exit → St → Prop) (e : Exit) (a' : Act) (w' : World) : Prop := (∃ S', Sim cx S' a' w' ∧ K e S') ∨ (e = .ret ∧ cx.fin a' w')
def AWp (cx : Cx) (c : Code) (K : Exit → St → Prop) (S : St) : Prop :=
  ∀ a w, Sim cx S a w → c.wpIn cx.fence 0 cx.P (Post cx K) a w
def Le (cx : Cx) (S S' : St) : Prop := ∀ a w, Sim cx S a w → Sim cx S' a w
theorem Le.refl (cx : Cx) (S : St) : Le cx S S := fun _ _ h => h
theorem Le.trans {S1 S2 S3 : St} (h : Le cx S1 S2) (k : Le cx S2 S3) : Le cx S1 S3 := fun a w hh => k a w (h a w hh)
theorem AWp.mono {c : Code} {K K' : Exit → St → Prop} (h : AWp cx c K S) (hk : ∀ e S, K e S → K' e S) : AWp cx c K' S :=
  fun a w hs => wpIn_mono (h a w hs) fun e a' w' h1 => h1.imp (fun ⟨S', h1, h2⟩ => ⟨S', h1, hk e S' h2⟩) id
theorem AWp.le {c : Code} {K : Exit → St → Prop} {S0 : St} (hl : Le cx S S0) (h : AWp cx c K S0) : AWp cx c K S := fun a w hs => h a w (hl a w hs)
theorem awp_region (hg : cx.Good) {id : Nat} {ops : Array Oper} {K : Exit → St → Prop} (h : Chain cx ops ops.toList S fun S' => K .normal S') : AWp cx (.region id ops false) K S :=
  fun a w hs => wpIn_region_list (chain_wp hg (fun S' a' w' h1 h2 => .inl ⟨S', h1, h2⟩) ops.toList S a w hs h)
def seqK (cx : Cx) (y : Code) (K : Exit → St → Prop) : Exit → St → Prop
  | .normal, S => AWp cx y K S
  | e, S => K e S
theorem awp_seq {x y : Code} {K : Exit → St → Prop} (h : AWp cx x (seqK cx y K) S) : AWp cx (.seq x y) K S := by
  intro a w hs
  refine wpIn_seq (wpIn_mono (h a w hs) ?_)
  rintro e a' w' (⟨S', h1, h2⟩ | ⟨rfl, hf⟩)
  · cases e with
    | normal => exact h2 a' w' h1
    | _ => exact .inl ⟨S', h1, h2⟩
  · exact .inr ⟨rfl, hf⟩
theorem awp_cond {c : Operand} {x y : Code} {b : Bool} {K : Exit → St → Prop} (hc : S.ev c = .dv (.bool b)) (ht : b = true → AWp cx x K S) (hf : b = false → AWp cx y K S) : AWp cx (.cond c x y) K S := by
  intro a w hs
  obtain ⟨μ, h⟩ := hs
  have := h.ev c
  rw [hc] at this
  simp only [SVRep] at this
  generalize hv : a.eval c = v at this
  cases this
  exact wpIn_cond_split hv (fun hb => ht hb a w ⟨μ, h⟩) (fun hb => hf hb a w ⟨μ, h⟩)
def blockK (id : Nat) (K : Exit → St → Prop) : Exit → St → Prop
  | .exit id', S => if id' = id then K .normal S else K (.exit id') S
  | e, S => K e S
theorem awp_block {id : Nat} {c : Code} {K : Exit → St → Prop} (h : AWp cx c (blockK id K) S) : AWp cx (.block id c) K S := by
  intro a w hs
  refine wpIn_block (wpIn_mono (h a w hs) ?_)
  rintro e a' w' (⟨S', h1, h2⟩ | ⟨rfl, hf⟩)
  · cases e with
    | exit id' =>
      simp only [blockK] at h2
      simp only [Exit.inBlock]
      split at h2
      · rename_i e; rw [if_pos e]; exact .inl ⟨S', h1, h2⟩
      · rename_i e; rw [if_neg e]; exact .inl ⟨S', h1, h2⟩
    | _ => exact .inl ⟨S', h1, h2⟩
  · exact .inr ⟨rfl, hf⟩
theorem awp_exit {id : Nat} {K : Exit → St → Prop} (h : K (.exit id) S) : AWp cx (.exit id) K S := fun _ _ hs => wpIn_exit (.inl ⟨S, hs, h⟩)
theorem awp_ret {K : Exit → St → Prop} (h : K .ret S) : AWp cx .ret K S := fun _ _ hs => wpIn_ret (.inl ⟨S, hs, h⟩)
theorem awp_skip {K : Exit → St → Prop} (h : K .normal S) : AWp cx .skip K S := fun _ _ hs => wpIn_skip (.inl ⟨S, hs, h⟩)
def loopK {ι : Type} (cx : Cx) (inv : ι → St) (φ : ι → Prop) (m : ι → Nat) (i : ι) (K : Exit → St → Prop) : Exit → St → Prop
  | .normal, S => ∃ j, φ j ∧ m j < m i ∧ Le cx S (inv j)
  | e, S => K e S
theorem loop_ghost {F : Fence} {rm : Nat} {P : Program} {Q : Exit → Act → World → Prop} {c : Code} (I : Nat → Act → World → Prop) (n₀ : Nat) (h₀ : I n₀ a w)
    (round : ∀ n a w, I n a w → c.wpIn F rm P (Exit.then (fun a' w' => ∃ n', n' < n ∧ I n' a' w') Q) a w) : (Code.loop c).wpIn F rm P Q a w := by
  refine wpIn_loop (fun a w => ∃ n, I n a w) (fun a w => leastOf (fun n => I n a w)) ⟨n₀, h₀⟩ ?_
  intro a w hI
  refine wpIn_mono (round _ a w (leastOf_spec hI).1) ?_
  intro e a' w' hq
  cases e with
  | normal =>
    obtain ⟨n', hlt, hI'⟩ := hq
    exact show (∃ n, I n a' w') ∧ leastOf (fun n => I n a' w') < leastOf (fun n => I n a w) from ⟨⟨n', hI'⟩, Nat.lt_of_le_of_lt ((leastOf_spec ⟨n', hI'⟩).2 n' hI') hlt⟩
  | _ => exact hq
theorem awp_loop {ι : Type} {body : Code} {K : Exit → St → Prop} (inv : ι → St) (φ : ι → Prop) (m : ι → Nat) (i : ι) (hi : φ i) (hs : Le cx S (inv i))
    (round : ∀ i, φ i → AWp cx body (loopK cx inv φ m i K) (inv i)) : AWp cx (.loop body) K S := by
  intro a w h
  refine loop_ghost (fun n a w => ∃ i, φ i ∧ m i = n ∧ Sim cx (inv i) a w) (m i) ⟨i, hi, rfl, hs a w h⟩ ?_
  rintro n a w ⟨i, hi, rfl, h⟩
  refine wpIn_mono (round i hi a w h) ?_
  rintro e a' w' (⟨S', h1, h2⟩ | ⟨rfl, hf⟩)
  · cases e with
    | normal =>
      obtain ⟨j, hj, hlt, hle⟩ := h2
      exact ⟨m j, hlt, j, hj, rfl, hle a' w' h1⟩
    | _ => exact .inl ⟨S', h1, h2⟩
  · exact .inr ⟨rfl, hf⟩
def resSV (P : Program) (S : St) : List ResultVar → Option (List SV)
  | [] => some []
  | .tmp t :: r => (resSV P S r).map (S.F t :: ·)
  | .cell t ty :: r => match loadSV P ty (S.look (.tmp t)), resSV P S r with
    | some s, some l => some (s :: l)
    | _, _ => none
def RetOk (okd : DV → Prop) (M : Nat → Nat × Option Blk) (s : SV) (r : R1) : Prop :=
  match r with
  | .dv d => Data (fun _ => True) okd M s d
  | .row esz elem n cs => (s = .nils ∧ n = 0 ∧ cs = []) ∨ ∃ t g, s = .sl t g 0 n ∧ M t = (g, some ⟨cs.map .dv, esz, elem, 0, true⟩) ∧ cs.length = n * esz ∧ ∀ c ∈ cs, Scalar c
def Rets (okd : DV → Prop) (M : Nat → Nat × Option Blk) : List SV → List R1 → Prop
  | [], [] => True
  | s :: ss, r :: rs => RetOk okd M s r ∧ Rets okd M ss rs
  | _, _ => False
def tagsOf : List SV → List R1 → List Nat
  | .sl t _ _ _ :: ss, .row .. :: rs => t :: tagsOf ss rs
  | _ :: ss, _ :: rs => tagsOf ss rs
  | _, _ => []
def RetsApart (ss : List SV) (rs : List R1) : Prop := (∀ r ∈ rs, ∃ d, r = .dv d) ∨ ((∀ r ∈ rs, ∀ d, r = .dv d → Scalar d) ∧ (tagsOf ss rs).Nodup)
theorem rets_rep {μ : Nat → Option (Nat × Nat)} (h : SimU cx S a w μ) (hW : ∀ b, ¬ cx.Wr b) {okd : DV → Prop} {Y : Nat → Prop} (hYB : ∀ b, Y b → b < cx.w0.heap.size)
    (hd : ∀ d v, okd d → RepD w (XX cx S.M μ) d v → RepD w Y d v) :
    ∀ (ss : List SV) (rs : List R1) (vs : List Value), Rets okd S.M ss rs → SVReps w S.M μ (XX cx S.M μ) ss vs →
      ∃ obs, R1Reps cx.w0.heap.size w Y rs vs obs ∧ ((tagsOf ss rs).Nodup → obs.Pairwise fun x y => ∀ b c c', x = some (b, c) → y ≠ some (b, c')) ∧
        ((∀ r ∈ rs, ∃ d, r = .dv d) → ∀ ob ∈ obs, ob = none) ∧ (∀ b c, some (b, c) ∈ obs → ∃ t ∈ tagsOf ss rs, μ t = some (b, c) ∧ ∃ g blk, S.M t = (g, some blk) ∧ OwS blk.st)
  | [], [], [], _, _ => ⟨[], trivial, fun _ => List.Pairwise.nil, fun _ ob h => absurd h (by simp), fun b c h => absurd h (by simp)⟩
  | s :: ss, r :: rs, v :: vs, hR, hV => by
    simp only [SVReps] at hV
    obtain ⟨obs, i1, i2, i3, i4⟩ := rets_rep h hW hYB hd ss rs vs hR.2 hV.2
    cases r with
    | dv d =>
      have hD := Data.rep h (Y := Y) (fun t g blk b cap e _ hm hy => by
        rcases (h.place t g blk b cap e hm).1 with h1 | h1
        · have := hYB b hy; omega
        · exact hW b h1) hd hR.1 v hV.1
      have ht : tagsOf (s :: ss) (.dv d :: rs) = tagsOf ss rs := by cases s <;> rfl
      refine ⟨none :: obs, ⟨⟨rfl, hD⟩, i1⟩, fun hn => List.Pairwise.cons (fun y _ b c c' hx => by cases hx) (i2 (by rwa [ht] at hn)), fun hall ob hob => ?_, fun b c hbc => ?_⟩
      · rcases List.mem_cons.1 hob with rfl | h1
        · rfl
        · exact i3 (fun r hr => hall r (List.mem_cons_of_mem _ hr)) ob h1
      · rcases List.mem_cons.1 hbc with h1 | h1
        · cases h1
        · rw [ht]; exact i4 b c h1
    | row esz elem n cs =>
      rcases hR.1 with ⟨rfl, rfl, rfl⟩ | ⟨t, g, rfl, e, hlen, hsc⟩
      · have hv := hV.1
        simp only [SVRep] at hv
        refine ⟨none :: obs, ⟨⟨fun c hc => (List.not_mem_nil hc).elim, by simp, hv, rfl⟩, i1⟩, fun hn => List.Pairwise.cons (fun y _ b c c' hx => by cases hx) (i2 (by simpa only [tagsOf] using hn)), fun hall => ?_, fun b c hbc => ?_⟩
        · obtain ⟨d, hd'⟩ := hall (.row esz elem 0 []) (by simp)
          cases hd'
        · rcases List.mem_cons.1 hbc with h1 | h1
          · cases h1
          · simpa only [tagsOf] using i4 b c h1
      have hv := hV.1
      simp only [SVRep] at hv
      have hv2 := hv.2 _ e
      have hb := h.blk t g _ e
      unfold BlkRep at hb
      cases hm : μ t with
      | none =>
        rw [hm] at hv2 hb
        simp only at hv2 hb
        refine ⟨none :: obs, ⟨⟨hsc, hlen, hv2.1, hv2.2.1⟩, i1⟩, fun hn => List.Pairwise.cons (fun y _ b c c' hx => by cases hx) (i2 (by simp only [tagsOf] at hn; exact (List.nodup_cons.1 hn).2)), fun hall => ?_, fun b c hbc => ?_⟩
        · obtain ⟨d, hd'⟩ := hall (.row esz elem n cs) (by simp)
          cases hd'
        · rcases List.mem_cons.1 hbc with h1 | h1
          · cases h1
          · obtain ⟨t', ht', q⟩ := i4 b c h1
            exact ⟨t', by simp only [tagsOf]; exact List.mem_cons_of_mem _ ht', q⟩
      | some p =>
        obtain ⟨b, cap⟩ := p
        rw [hm] at hv2 hb
        simp only at hv2 hb
        obtain ⟨hv3, hcap⟩ := hv2
        obtain ⟨cur, q1, q2, q3, q4, _⟩ := hb
        obtain ⟨q4, q5⟩ := q4 trivial
        simp only [Nat.zero_mul, Nat.sub_zero, Nat.zero_add] at hv3 hcap
        have hpl := h.place t g _ b cap e hm
        have hB : cx.w0.heap.size ≤ b := hpl.1.elim id (fun h1 => (hW b h1).elim)
        refine ⟨some (b, cap) :: obs, ⟨⟨hsc, hlen, hB, hpl.2, hv3, hcap, cur, q1, q4, q5, by simpa using q2, fun j c u hc hu => ?_⟩, i1⟩, fun hn => ?_, fun hall => ?_, fun b' c hbc => ?_⟩
        · have := q3 j (.dv c) u (by simp [hc]) hu
          simp only [SVRep] at this
          exact this.weaken fun _ h => h.elim
        · simp only [tagsOf] at hn
          obtain ⟨hn1, hn2⟩ := List.nodup_cons.1 hn
          refine List.Pairwise.cons (fun y hy b' c c' hx hy' => ?_) (i2 hn2)
          simp only [Option.some.injEq, Prod.mk.injEq] at hx
          obtain ⟨rfl, rfl⟩ := hx
          subst hy'
          obtain ⟨t', ht', hm', g', blk', e', hst'⟩ := i4 b c' hy
          have hne : t ≠ t' := fun h1 => hn1 (h1 ▸ ht')
          have := (h.uniq t g _ t' g' blk' b cap c' hne e e' owS0 hm hm').1
          unfold OwS at hst'; omega
        · obtain ⟨d, hd'⟩ := hall (.row esz elem n cs) (by simp)
          cases hd'
        · rcases List.mem_cons.1 hbc with h1 | h1
          · simp only [Option.some.injEq, Prod.mk.injEq] at h1
            obtain ⟨rfl, rfl⟩ := h1
            exact ⟨t, by simp [tagsOf], hm, g, _, e, owS0⟩
          · obtain ⟨t', ht', q⟩ := i4 b' c h1
            exact ⟨t', by simp only [tagsOf]; exact List.mem_cons_of_mem _ ht', q⟩
  | [], [], _ :: _, _, hV => by simp only [SVReps] at hV
  | [], _ :: _, _, hR, _ => hR.elim
  | _ :: _, [], _, hR, _ => hR.elim
  | _ :: _, _ :: _, [], _, hV => by simp only [SVReps] at hV
theorem scalar_all {Y Y' : Nat → Prop} {B : Nat} {w : World} : ∀ {rs : List R1} {vs : List Value} {obs : List (Option (Nat × Nat))}, (∀ r ∈ rs, ∀ d, r = .dv d → Scalar d) → R1Reps B w Y rs vs obs → R1Reps B w Y' rs vs obs
  | [], [], [], _, _ => trivial
  | r :: rs, v :: vs, ob :: obs, hs, h => by
    refine ⟨?_, scalar_all (fun r hr => hs r (List.mem_cons_of_mem _ hr)) h.2⟩
    have h1 := h.1
    cases r with
    | dv d => exact ⟨h1.1, (hs _ (by simp) d rfl).rep h1.2⟩
    | row esz elem n cs => exact h1
  | [], [], _ :: _, _, h => h.elim
  | [], _ :: _, _, _, h => by cases h
  | _ :: _, [], _, _, h => by cases h
  | _ :: _, _ :: _, [], _, h => by cases h
def resOne (tmps : Array Value) : ResultVar → Sem Value
  | .tmp t => pure (tmps.getD t undef)
  | .cell p t => do loadVar t (← asAddr (tmps.getD p undef))
theorem results_run {μ : Nat → Option (Nat × Nat)} (h : SimU cx S a w μ) : ∀ (rs : List ResultVar) (ss : List SV), resSV cx.P S rs = some ss →
    ∃ vs, (rs.mapM (resOne a.tmps) : Sem (List Value)).run cx.P w = .ok vs w ∧ SVReps w S.M μ (XX cx S.M μ) ss vs
  | [], ss, hr => by
    simp only [resSV, Option.some.injEq] at hr
    subst hr
    exact ⟨[], by simp, trivial⟩
  | .tmp t :: rs, ss, hr => by
    simp only [resSV] at hr
    obtain ⟨l, h1, rfl⟩ := Option.map_eq_some_iff.1 hr
    obtain ⟨vs, i1, i2⟩ := results_run h rs l h1
    refine ⟨a.tmps.getD t undef :: vs, ?_, ?_⟩
    · simp only [List.mapM_cons, resOne, Sem.run_bind, Sem.run_pure, Result.andThen_ok, i1]
    · simp only [SVReps]; exact ⟨h.slot t, i2⟩
  | .cell p t :: rs, ss, hr => by
    simp only [resSV] at hr
    split at hr
    · rename_i s l h0 h1
      simp only [Option.some.injEq] at hr
      subst hr
      obtain ⟨vs, i1, i2⟩ := results_run h rs l h1
      have ld : ∃ v, (resOne a.tmps (.cell p t)).run cx.P w = .ok v w ∧ SVRep w S.M μ (XX cx S.M μ) s v := by
        obtain ⟨v, h1, h2⟩ := load_val (x := .tmp p) h h0
        refine ⟨v, ?_, h2⟩
        rw [← h1]
        show (do loadVar t (← asAddr (a.tmps.getD p undef)) : Sem Value).run cx.P w = (do loadVar t (← Instr.sureAddr (a.tmps.getD p undef)) : Sem Value).run cx.P w
        have h1' : (do loadVar t (← Instr.sureAddr (a.tmps.getD p undef)) : Sem Value).run cx.P w = .ok v w := h1
        generalize a.tmps.getD p undef = x at h1' ⊢
        cases x with
        | pointer q =>
          cases q with
          | some q => rfl
          | none => simp [Instr.sureAddr] at h1'
        | _ => simp [Instr.sureAddr] at h1'
      obtain ⟨v, l1, l2⟩ := ld
      refine ⟨v :: vs, ?_, ?_⟩
      · simp only [List.mapM_cons, Sem.run_bind, l1, Result.andThen_ok, i1, Sem.run_pure]
      · simp only [SVReps]; exact ⟨l2, i2⟩
    · cases hr
def resOf : List R1 → Res
  | [r] => .one r
  | rs => .many rs
def startF (ds : List DV) : Nat → SV := fun i => match ds[i]? with | some d => .dv d | none => .dead
def EndK (P : Program) (okd : DV → Prop) (rv : List ResultVar) (res : Res) : Exit → St → Prop := fun e S =>
  (e = .normal ∨ e = .ret) ∧ ∃ ss rs, resSV P S rv = some ss ∧ Rets okd S.M ss rs ∧ RetsApart ss rs ∧ res = resOf rs
theorem start_sim {P : Program} {n : Nat} {w : World} {X : Nat → Prop} {ds : List DV} {vs : Array Value} (hA : Args w X ds vs) (hn : ds.length ≤ n) :
    SimU { P := P, w0 := w, n := n, Wr := fun _ => False, X0 := X } ⟨startF ds, fun _ => (0, none)⟩ { tmps := vs ++ Array.replicate (n - vs.size) undef, defers := [] } w (fun _ => none) := by
  refine ⟨fun t g blk e => by simp at e, fun i => ?_, fun t g blk b cap e => by simp at e, fun t g blk t' g' blk' b cap cap' _ e => by simp at e, fun t g blk e => by simp at e, BelowW.refl _ _, ?_, rfl⟩
  · show SVRep w _ _ _ (startF ds i) _
    unfold startF
    split
    · rename_i d hd
      have hi : i < vs.size := by rw [hA.1]; exact (List.getElem?_eq_some_iff.1 hd).1
      have e : (vs ++ Array.replicate (n - vs.size) undef).getD i undef = vs.getD i undef := by simp [Array.getElem?_append_left hi]
      simp only [SVRep]
      rw [e]
      refine (hA.2 i d hd).weaken fun b hb => ?_
      rcases hb with ⟨t, g, blk, cap, e1, _, e3⟩ | hx
      · cases e3
      · exact hx
    · trivial
  · show (vs ++ Array.replicate (n - vs.size) undef).size = n
    rw [Array.size_append, Array.size_replicate, hA.1]
    omega
theorem end_res {cx : Cx} {S : St} {a : Act} {w : World} {μ : Nat → Option (Nat × Nat)} (h : SimU cx S a w μ) (hW : ∀ b, ¬ cx.Wr b) {okd : DV → Prop} {Y : Nat → Prop} (hYB : ∀ b, Y b → b < cx.w0.heap.size)
    (hd : ∀ d v, okd d → RepD w (XX cx S.M μ) d v → RepD w Y d v) {fn : Func} {ss : List SV} {rs : List R1} (h1 : resSV cx.P S fn.results.toList = some ss) (h2 : Rets okd S.M ss rs) (h3 : RetsApart ss rs) :
    ∃ v, (results fn a.tmps).run cx.P w = .ok v w ∧ ResRep cx.w0.heap.size w Y (resOf rs) v := by
  obtain ⟨vs, r1, r2⟩ := results_run h _ ss h1
  obtain ⟨obs, o1, o2, o3, _⟩ := rets_rep h hW hYB hd ss rs vs h2 r2
  have len : ∀ (rs : List R1) (vs : List Value) (obs : List (Option (Nat × Nat))), R1Reps cx.w0.heap.size w Y rs vs obs → rs.length = vs.length := by
    intro rs
    induction rs with
    | nil => intro vs obs hR; cases vs <;> cases obs <;> first | rfl | cases hR
    | cons r rs ih =>
      intro vs obs hR
      cases vs with
      | nil => cases obs <;> cases hR
      | cons v vs =>
        cases obs with
        | nil => cases hR
        | cons ob obs => simp [ih vs obs hR.2]
  have hlen := len _ _ _ o1
  have o1' : R1Reps cx.w0.heap.size w (fun b => Y b ∨ usedBy obs b) rs vs obs := by
    rcases h3 with h3 | h3
    · refine o1.weaken fun b hb => hb.elim id fun ⟨c, hc⟩ => ?_
      have := o3 h3 _ hc
      cases this
    · exact scalar_all h3.1 o1
  have pw : ∀ obs : List (Option (Nat × Nat)), (∀ ob ∈ obs, ob = none) → obs.Pairwise fun x y => ∀ b c c', x = some (b, c) → y ≠ some (b, c') := by
    intro obs
    induction obs with
    | nil => intro _; exact .nil
    | cons x obs ih => exact fun hall => .cons (fun y _ b c c' hx => by rw [hall x (by simp)] at hx; cases hx) (ih fun z hz => hall z (List.mem_cons_of_mem _ hz))
  have o2' : obs.Pairwise fun x y => ∀ b c c', x = some (b, c) → y ≠ some (b, c') := by
    rcases h3 with h3 | h3
    · exact pw obs (o3 h3)
    · exact o2 h3.2
  have hrun : (results fn a.tmps).run cx.P w = .ok (if hh : vs.toArray.size = 1 then vs.toArray[0] else .tuple vs.toArray) w := by
    show (do let vs ← fn.results.mapM (resOne a.tmps); pure (if hh : vs.size = 1 then vs[0] else .tuple vs) : Sem Value).run cx.P w = _
    rw [Array.mapM_eq_mapM_toList]
    simp [r1]
  refine ⟨_, hrun, ?_⟩
  match rs, vs, obs, hlen, o1', o2' with
  | [r], [v], [ob], _, o1', o2' => exact ⟨ob, o1'.1⟩
  | [], [], obs, _, o1', o2' => exact ⟨[], obs, rfl, o1', o2'⟩
  | r :: r' :: rs, v :: v' :: vs, obs, _, o1', o2' => exact ⟨v :: v' :: vs, obs, by simp, o1', o2'⟩
theorem enterP_of {P : Program} {f : FuncId} {fn : Func} {c : Code} (hf : P.funcs[f]? = some fn) (hb : fn.body = some c) (hname : (fn.name == "runtime.NumGoroutine") = false) : EnterP P f :=
  ⟨fn, hf, hname, by simp [hb]⟩
theorem callsF_of {P : Program} {f : FuncId} {fn : Func} {c : Code} {ds : List DV} {res : Res} (hf : P.funcs[f]? = some fn) (hb : fn.body = some c) (hname : (fn.name == "runtime.NumGoroutine") = false) (hn : ds.length ≤ fn.ntmps)
    (h : ∀ cx : Cx, cx.P = P → cx.n = fn.ntmps → cx.Good → AWp cx c (EndK P Scalar fn.results.toList res) ⟨startF ds, fun _ => (0, none)⟩) : ACallsF P f ds res := by
  refine ⟨enterP_of hf hb hname, fun w vs hL hA => callsIn_wide.1 (callsIn_of_wp (F := Fence.wide) (n := 0) hf hb trivial ?_)⟩
  have hs := start_sim (P := P) hA hn
  refine wpIn_mono (h { P := P, w0 := w, n := fn.ntmps, Wr := fun _ => False, X0 := fun _ => False } rfl rfl ⟨fun b hb => hb.elim, hL, fun g _ => ⟨fun h => h, fun h => h⟩⟩ _ w ⟨_, hs⟩) ?_
  rintro e a' w' (⟨S', ⟨μ, h1⟩, he, ss, rs, e1, e2, e3, rfl⟩ | ⟨_, hf⟩)
  rotate_left
  · exact (show False from hf).elim
  obtain ⟨v, v1, v2⟩ := end_res (fn := fn) (Y := fun b => b < w.heap.size) h1 (fun b hb => hb) (fun b hb => hb) (fun d v hd hr => hd.rep hr) e1 e2 e3
  have hbl : Below w.heap.size w w' := ⟨h1.below.os, h1.below.tape, h1.below.output, h1.below.size, fun k hk => h1.below.block k hk (fun hf => hf)⟩
  rcases he with rfl | rfl <;> exact ⟨h1.defers, v, v1, v, rfl, hbl, v2⟩
theorem callsA_of {P : Program} {f : FuncId} {fn : Func} {c : Code} {ds : List DV} {res : Res} (hf : P.funcs[f]? = some fn) (hb : fn.body = some c) (hname : (fn.name == "runtime.NumGoroutine") = false) (hn : ds.length ≤ fn.ntmps)
    (h : ∀ cx : Cx, cx.P = P → cx.n = fn.ntmps → cx.Good → AWp cx c (EndK P (fun _ => True) fn.results.toList res) ⟨startF ds, fun _ => (0, none)⟩) : ACalls P f ds res := by
  refine ⟨enterP_of hf hb hname, fun w X vs hX hL hL2 hA => callsIn_wide.1 (callsIn_of_wp (F := Fence.wide) (n := 0) hf hb trivial ?_)⟩
  have hs := start_sim (P := P) hA hn
  refine wpIn_mono (h { P := P, w0 := w, n := fn.ntmps, Wr := fun _ => False, X0 := X } rfl rfl ⟨fun b hb => ⟨hX b hb, fun hf => hf⟩, hL, fun g hg => ⟨hL2 g hg, fun h => h⟩⟩ _ w ⟨_, hs⟩) ?_
  rintro e a' w' (⟨S', ⟨μ, h1⟩, he, ss, rs, e1, e2, e3, rfl⟩ | ⟨_, hf⟩)
  rotate_left
  · exact (show False from hf).elim
  obtain ⟨v, v1, v2⟩ := end_res (fn := fn) (Y := X) h1 (fun b hb => hb) (fun b hb => hX b hb) (fun d v hd hr => hr.weaken fun b hb => .inr hb) e1 e2 e3
  have hbl : Below w.heap.size w w' := ⟨h1.below.os, h1.below.tape, h1.below.output, h1.below.size, fun k hk => h1.below.block k hk (fun hf => hf)⟩
  rcases he with rfl | rfl <;> exact ⟨h1.defers, v, v1, v, rfl, hbl, v2⟩
end
end Go.Ab
set_option linter.unusedVariables false
namespace Go.Ab
open Go.RowKit
structure Eff where
  dst : Option Nat
  val : SV
  kv : Bool
  ms : List (Nat × Nat × Option Blk)
def setM (M : Nat → Nat × Option Blk) : List (Nat × Nat × Option Blk) → (Nat → Nat × Option Blk)
  | [] => M
  | (t, e) :: l => setM (upd M t e) l
def Eff.app (S : St) (e : Eff) : St := ⟨match e.dst with | some d => upd S.F d e.val | none => S.F, setM (if e.kv then noViews S.M else S.M) e.ms⟩
def Eff.hits (e : Eff) (t : Nat) : Bool := e.kv || e.ms.any fun p => p.1 == t
theorem setM_get : ∀ (l : List (Nat × Nat × Option Blk)) (M M' : Nat → Nat × Option Blk) (t : Nat), M t = M' t → setM M l t = setM M' l t
  | [], _, _, _, h => h
  | (k, e) :: l, M, M', t, h => setM_get l _ _ t (by by_cases hk : t = k <;> simp [upd, hk, h])
theorem setM_off : ∀ (l : List (Nat × Nat × Option Blk)) (M : Nat → Nat × Option Blk) (t : Nat), (l.any fun p => p.1 == t) = false → setM M l t = M t
  | [], _, _, _ => rfl
  | (k, e) :: l, M, t, h => by
    simp only [List.any_cons, Bool.or_eq_false_iff, beq_eq_false_iff_ne, ne_eq] at h
    rw [setM, setM_off l _ t h.2, upd_ne _ _ _ _ (fun e => h.1 e.symm)]
theorem noViews_get {M M' : Nat → Nat × Option Blk} {t : Nat} (h : M t = M' t) : noViews M t = noViews M' t := by
  unfold noViews
  simp only [h]
def foldE (l : List Eff) (S : St) : St := l.foldl (fun S e => e.app S) S
theorem app_F {e : Eff} {S S' : St} {s : Nat} (h : S.F s = S'.F s) : (e.app S).F s = (e.app S').F s := by
  unfold Eff.app
  cases e.dst with
  | none => exact h
  | some d => by_cases hd : s = d <;> simp [upd, hd, h]
theorem app_F_off {e : Eff} {S : St} {s : Nat} (h : (e.dst == some s) = false) : (e.app S).F s = S.F s := by
  unfold Eff.app
  cases hd : e.dst with
  | none => rfl
  | some d =>
    have hne : s ≠ d := fun he => by rw [hd, he] at h; simp at h
    exact upd_ne _ _ _ _ hne
theorem app_F_on {e : Eff} {S : St} {s : Nat} (h : (e.dst == some s) = true) : (e.app S).F s = e.val := by
  simp only [beq_iff_eq] at h
  unfold Eff.app
  rw [h]
  exact upd_same _ _ _
theorem app_M {e : Eff} {S S' : St} {t : Nat} (h : S.M t = S'.M t) : (e.app S).M t = (e.app S').M t := by
  unfold Eff.app
  apply setM_get
  cases e.kv
  · exact h
  · exact noViews_get h
theorem app_M_off {e : Eff} {S : St} {t : Nat} (h : e.hits t = false) : (e.app S).M t = S.M t := by
  simp only [Eff.hits, Bool.or_eq_false_iff] at h
  unfold Eff.app
  rw [h.1]
  exact setM_off _ _ _ h.2
theorem fold_F : ∀ (l : List Eff) (S S' : St) (s : Nat), S.F s = S'.F s → (foldE l S).F s = (foldE (l.filter fun e => e.dst == some s) S').F s
  | [], _, _, _, h => h
  | e :: l, S, S', s, h => by
    cases he : e.dst == some s with
    | false =>
      rw [List.filter_cons_of_neg (by simp [he])]
      exact fold_F l _ _ s ((app_F_off he).trans h)
    | true =>
      rw [List.filter_cons_of_pos (by simp [he])]
      exact fold_F l _ _ s (app_F h)
theorem fold_M : ∀ (l : List Eff) (S S' : St) (t : Nat), S.M t = S'.M t → (foldE l S).M t = (foldE (l.filter fun e => e.hits t) S').M t
  | [], _, _, _, h => h
  | e :: l, S, S', t, h => by
    cases he : e.hits t with
    | false =>
      rw [List.filter_cons_of_neg (by simp [he])]
      exact fold_M l _ _ t ((app_M_off he).trans h)
    | true =>
      rw [List.filter_cons_of_pos (by simp [he])]
      exact fold_M l _ _ t (app_M h)
def GStepL (cx : Cx) (ops : Array Oper) (R : List Nat) (S : St) (o : Oper) (e : Eff) : Prop :=
  ∀ T : St, (∀ s ∈ o.looksAt ops, T.F s = S.F s) → (∀ t ∈ R, T.M t = S.M t) → GStep cx ops T o (e.app T)
structure It where
  R : List Nat
  e : Eff
def It.unkv (i : It) : It := ⟨i.R, { i.e with kv := false }⟩
def nvE (l : List (Nat × Nat × Option Blk)) : Bool := l.all fun p => match p.2.2 with | some b => b.st != 2 | none => true
def nvI (its : List It) : Bool := its.all fun i => nvE i.e.ms
def NoV (M : Nat → Nat × Option Blk) : Prop := ∀ t g b, M t = (g, some b) → b.st ≠ 2
theorem NoV.views {M : Nat → Nat × Option Blk} (h : NoV M) : noViews M = M := by
  funext t
  unfold noViews
  split
  · rename_i b hb
    rw [if_neg (h t (M t).1 b (by rw [← hb]))]
  · rfl
theorem NoV.setM : ∀ {l : List (Nat × Nat × Option Blk)} {M : Nat → Nat × Option Blk}, NoV M → nvE l = true → NoV (setM M l)
  | [], _, h, _ => h
  | (k, g, ob) :: l, M, h, hl => by
    simp only [nvE, List.all_cons, Bool.and_eq_true] at hl
    refine NoV.setM (l := l) (fun t g' b e => ?_) (by simpa [nvE] using hl.2)
    by_cases ht : t = k
    · subst ht
      rw [upd_same] at e
      simp only [Prod.mk.injEq] at e
      obtain ⟨_, rfl⟩ := e
      simpa using hl.1
    · rw [upd_ne _ _ _ _ ht] at e
      exact h t g' b e
theorem Eff.app_unkv {S : St} {i : It} (h : NoV S.M) : i.unkv.e.app S = i.e.app S := by
  unfold It.unkv Eff.app
  cases i.e.kv
  · rfl
  · simp only [if_true, Bool.false_eq_true, if_false, h.views]
theorem foldE_unkv : ∀ {l : List It} {S : St}, NoV S.M → nvI l = true → foldE (l.map fun i => i.unkv.e) S = foldE (l.map (·.e)) S ∧ NoV (foldE (l.map (·.e)) S).M
  | [], S, h, _ => ⟨rfl, h⟩
  | i :: l, S, h, hl => by
    simp only [nvI, List.all_cons, Bool.and_eq_true] at hl
    have h2 : NoV (i.e.app S).M := by
      show NoV (Go.Ab.setM (if i.e.kv then noViews S.M else S.M) i.e.ms)
      rw [h.views, ite_self]
      exact h.setM hl.1
    have ih := foldE_unkv (l := l) h2 (by simpa [nvI] using hl.2)
    simp only [List.map_cons, foldE, List.foldl_cons] at ih ⊢
    rw [Eff.app_unkv h]
    exact ih
theorem zip_unkv (L : Nat → Bool) : ∀ (l : List It) (n : Nat), ((((l.map It.unkv).zipIdx n).filter fun p => L p.2).map (·.1.e)) = (((l.zipIdx n).filter fun p => L p.2).map (·.1)).map fun i => i.unkv.e
  | [], n => by simp
  | i :: l, n => by
    have ih := zip_unkv L l (n + 1)
    rw [List.map_cons, List.zipIdx_cons, List.zipIdx_cons]
    cases h : L n with
    | true =>
      rw [List.filter_cons_of_pos (by simpa using h), List.filter_cons_of_pos (by simpa using h)]
      simp only [List.map_cons, ih]
    | false =>
      rw [List.filter_cons_of_neg (by simp [h]), List.filter_cons_of_neg (by simp [h])]
      exact ih
def GStepP (Φ : St → Prop) (cx : Cx) (ops : Array Oper) (R : List Nat) (S : St) (o : Oper) (e : Eff) : Prop :=
  ∀ T : St, Φ T → (∀ s ∈ o.looksAt ops, T.F s = S.F s) → (∀ t ∈ R, T.M t = S.M t) → GStep cx ops T o (e.app T)
def indep (ops : Array Oper) (x y : Oper) (i j : It) : Bool :=
  x.apart ops y && (i.e.ms.all fun p => !j.R.contains p.1) && (j.e.ms.all fun p => !i.R.contains p.1) && (!i.e.kv || j.R.isEmpty) && (!j.e.kv || i.R.isEmpty)
def ancs (md : Region.Mode) : List Oper → List Nat → List Nat
  | [], acc => acc
  | o :: l, acc => ancs md l (acc ++ [o.after.toList.foldl (fun s e => if Region.binds md e then s ||| 2 ^ e.on ||| acc.getD e.on 0 else s) 0])
def backB (md : Region.Mode) : List Oper → Nat → Bool
  | [], _ => true
  | o :: l, n => (o.after.toList.all fun e => !Region.binds md e || decide (e.on < n)) && backB md l (n + 1)
def freeB (md : Region.Mode) (ops : Array Oper) (its : List It) (anc : List Nat) : Bool :=
  (List.range ops.size).all fun j => (List.range j).all fun i =>
    (anc.getD j 0).testBit i ||
    match ops[i]?, ops[j]?, its[i]?, its[j]? with
    | some x, some y, some a, some b => indep ops x y a b
    | _, _, _, _ => false
section
variable {cx : Cx} {ops : Array Oper} {its : List It} {S0 : St} {Φ : St → Prop}
def stL (its : List It) (S0 : St) (L : Nat → Bool) : St := foldE ((its.zipIdx.filter fun p => L p.2).map (·.1.e)) S0
theorem filt (c : Eff → Bool) (L : Nat → Bool) : (((its.zipIdx.filter fun p => L p.2).map (·.1.e)).filter c) = (its.zipIdx.filter fun p => L p.2 && c p.1.e).map (·.1.e) := by
  rw [List.filter_map, List.filter_filter]
  congr 1
  apply List.filter_congr
  intro p _
  simp [Bool.and_comm]
structure ItsOk (Φ : St → Prop) (cx : Cx) (ops : Array Oper) (its : List It) (S0 : St) : Prop where
  len : its.length = ops.size
  one : ∀ (i : Nat) o it, ops[i]? = some o → its[i]? = some it → it.e.dst = o.dst ∧ (∀ p ∈ it.e.ms, p.1 ∈ it.R) ∧ (it.e.kv = true → it.R ≠ []) ∧ GStepP Φ cx ops it.R (stL its S0 fun k => decide (k < i)) o it.e
  phi : ∀ L : Nat → Bool, Φ (stL its S0 L)
theorem mem_zip {p : It × Nat} (h : p ∈ its.zipIdx) : its[p.2]? = some p.1 := by
  obtain ⟨it, i⟩ := p
  have := List.mem_zipIdx_iff_getElem?.1 h
  exact this
theorem zip_at {i : Nat} {it : It} (h : its[i]? = some it) : ∃ A B, its.zipIdx = A ++ (it, i) :: B ∧ (∀ p ∈ A, p.2 < i) ∧ (∀ p ∈ B, i < p.2) := by
  have hi := (List.getElem?_eq_some_iff.1 h).1
  refine ⟨(its.take i).zipIdx, (its.drop (i + 1)).zipIdx (i + 1), ?_, fun p hp => ?_, fun p hp => ?_⟩
  · have e : its = its.take i ++ it :: its.drop (i + 1) := by
      have h1 := (List.getElem?_eq_some_iff.1 h).2
      rw [← h1, List.getElem_cons_drop, List.take_append_drop]
    have e2 : its.zipIdx = (its.take i ++ it :: its.drop (i + 1)).zipIdx := by rw [← e]
    rw [e2, List.zipIdx_append, List.zipIdx_cons]
    have hl : (its.take i).length = i := by rw [List.length_take]; omega
    rw [hl, Nat.zero_add]
  · have := List.mem_zipIdx hp
    have hl : (its.take i).length = i := by rw [List.length_take]; omega
    omega
  · have := List.mem_zipIdx hp
    omega
structure Free (md : Region.Mode) (ops : Array Oper) (its : List It) : Prop where
  back : ∀ (i : Nat) o, ops[i]? = some o → ∀ e ∈ o.after, Region.binds md e = true → e.on < i
  anc : ∀ (i j : Nat) x y a b, i < j → ops[i]? = some x → ops[j]? = some y → its[i]? = some a → its[j]? = some b →
    indep ops x y a b = true ∨ ∀ L : Nat → Bool, (∀ k o, ops[k]? = some o → L k = true → ∀ e ∈ o.after, Region.binds md e = true → L e.on = true) → (∀ e ∈ y.after, Region.binds md e = true → L e.on = true) → L i = true
def Clo (md : Region.Mode) (ops : Array Oper) (L : Nat → Bool) : Prop := ∀ k o, ops[k]? = some o → L k = true → ∀ e ∈ o.after, Region.binds md e = true → L e.on = true
theorem indep_slot {x y : Oper} {a b : It} (h : indep ops x y a b = true) : x.apart ops y = true := by
  simp only [indep, Bool.and_eq_true] at h
  exact h.1.1.1.1
theorem indep_tag {x y : Oper} {a b : It} (h : indep ops x y a b = true) (ha : ∀ p ∈ a.e.ms, p.1 ∈ a.R) (hb : ∀ p ∈ b.e.ms, p.1 ∈ b.R) (hka : a.e.kv = true → a.R ≠ []) (hkb : b.e.kv = true → b.R ≠ []) {t : Nat} :
    (a.e.hits t = true → t ∉ b.R) ∧ (b.e.hits t = true → t ∉ a.R) ∧ ¬ (a.e.hits t = true ∧ b.e.hits t = true) := by
  simp only [indep, Bool.and_eq_true, List.all_eq_true, Bool.not_eq_true', Bool.or_eq_true, List.isEmpty_iff, List.contains_eq_mem, decide_eq_false_iff_not] at h
  obtain ⟨⟨⟨⟨_, h1⟩, h2⟩, h3⟩, h4⟩ := h
  have hit : ∀ e : Eff, e.hits t = true → e.kv = true ∨ ∃ p ∈ e.ms, p.1 = t := fun e he => by
    simp only [Eff.hits, Bool.or_eq_true, List.any_eq_true, beq_iff_eq] at he
    exact he
  have p1 : a.e.hits t = true → t ∉ b.R := fun he ht => by
    rcases hit _ he with hk | ⟨p, hp, rfl⟩
    · rcases h3 with h3 | h3
      · rw [h3] at hk; cases hk
      · rw [h3] at ht; cases ht
    · exact h1 p hp ht
  have p2 : b.e.hits t = true → t ∉ a.R := fun he ht => by
    rcases hit _ he with hk | ⟨p, hp, rfl⟩
    · rcases h4 with h4 | h4
      · rw [h4] at hk; cases hk
      · rw [h4] at ht; cases ht
    · exact h2 p hp ht
  refine ⟨p1, p2, fun ⟨e1, e2⟩ => ?_⟩
  rcases hit _ e1 with hk | ⟨p, hp, rfl⟩
  · rcases h3 with h3 | h3
    · rw [h3] at hk; cases hk
    · rcases hit _ e2 with hk2 | ⟨p, hp, _⟩
      · exact hkb hk2 h3
      · have := hb p hp; rw [h3] at this; cases this
  · exact p2 e2 (ha p hp)
variable {md : Region.Mode}
theorem agree_at (ok : ItsOk Φ cx ops its S0) (fr : Free md ops its) {L : Nat → Bool} (hc : Clo md ops L) {i : Nat} {o : Oper} {it : It} (ho : ops[i]? = some o) (hit : its[i]? = some it) (hiL : L i = false)
    (hpre : ∀ e ∈ o.after, Region.binds md e = true → L e.on = true) (c : Eff → Bool)
    (hself : True) (hdep : ∀ (j : Nat) oj b, ops[j]? = some oj → its[j]? = some b → c b.e = true → (indep ops o oj it b = true ∨ indep ops oj o b it = true) → False) :
    (((its.zipIdx.filter fun p => L p.2).map (·.1.e)).filter c) = (((its.zipIdx.filter fun p => decide (p.2 < i)).map (·.1.e)).filter c) := by
  rw [filt c L, filt c fun k => decide (k < i)]
  congr 1
  apply List.filter_congr
  rintro ⟨b, j⟩ hp
  have hb : its[j]? = some b := mem_zip hp
  have hj : j < ops.size := by rw [← ok.len]; exact (List.getElem?_eq_some_iff.1 hb).1
  have hoj : ops[j]? = some ops[j] := by simp [hj]
  cases hcb : c b.e with
  | false => simp
  | true =>
    simp only [Bool.and_true]
    rcases Nat.lt_trichotomy j i with h | h | h
    · have : L j = true := by
        rcases fr.anc j i _ _ _ _ h hoj ho hb hit with h1 | h1
        · exact (hdep j _ b hoj hb hcb (.inr h1)).elim
        · exact h1 L hc hpre
      rw [this]; simp [h]
    · subst h; simp [hiL]
    · have : L j = false := by
        cases hLj : L j with
        | false => rfl
        | true =>
          rcases fr.anc i j _ _ _ _ h ho hoj hit hb with h1 | h1
          · exact (hdep j _ b hoj hb hcb (.inl h1)).elim
          · rw [h1 L hc (hc j _ hoj hLj)] at hiL; cases hiL
      rw [this]
      have : ¬ j < i := by omega
      simp [this]
theorem step_at (ok : ItsOk Φ cx ops its S0) (fr : Free md ops its) {L : Nat → Bool} (hc : Clo md ops L) {i : Nat} {o : Oper} {it : It} (ho : ops[i]? = some o) (hit : its[i]? = some it) (hiL : L i = false)
    (hpre : ∀ e ∈ o.after, Region.binds md e = true → L e.on = true) : GStep cx ops (stL its S0 L) o (it.e.app (stL its S0 L)) := by
  obtain ⟨k1, k2, k3, k4⟩ := ok.one i o it ho hit
  refine k4 _ (ok.phi L) (fun s hs => ?_) (fun t ht => ?_)
  · unfold stL
    rw [fold_F _ S0 S0 s rfl, fold_F ((its.zipIdx.filter fun p => decide (p.2 < i)).map (·.1.e)) S0 S0 s rfl]
    rw [agree_at ok fr hc ho hit hiL hpre (fun e => e.dst == some s) trivial]
    intro j oj b hoj hb hcb hin
    obtain ⟨q1, q2, q3, _⟩ := ok.one j oj b hoj hb
    simp only [beq_iff_eq] at hcb
    rw [q1] at hcb
    rcases hin with h | h
    · exact (Oper.apart_spec (indep_slot h)).2.2 s hcb hs
    · exact (Oper.apart_spec (indep_slot h)).1 s hcb hs
  · unfold stL
    rw [fold_M _ S0 S0 t rfl, fold_M ((its.zipIdx.filter fun p => decide (p.2 < i)).map (·.1.e)) S0 S0 t rfl]
    rw [agree_at ok fr hc ho hit hiL hpre (fun e => e.hits t) trivial]
    intro j oj b hoj hb hcb hin
    obtain ⟨q1, q2, q3, _⟩ := ok.one j oj b hoj hb
    rcases hin with h | h
    · exact (indep_tag h k2 q2 k3 q3).2.1 hcb ht
    · exact (indep_tag h q2 k2 q3 k3).1 hcb ht
theorem insert_at (ok : ItsOk Φ cx ops its S0) (fr : Free md ops its) {L : Nat → Bool} (hc : Clo md ops L) {i : Nat} {o : Oper} {it : It} (ho : ops[i]? = some o) (hit : its[i]? = some it) (hiL : L i = false) (c : Eff → Bool)
    (hdep : c it.e = true → ∀ (j : Nat) oj b, ops[j]? = some oj → its[j]? = some b → c b.e = true → indep ops o oj it b = true → False) :
    (((its.zipIdx.filter fun p => (L p.2 || p.2 == i)).map (·.1.e)).filter c) = (((its.zipIdx.filter fun p => L p.2).map (·.1.e)).filter c) ++ (if c it.e then [it.e] else []) := by
  rw [filt c fun k => (L k || k == i), filt c L]
  obtain ⟨A, B, e, hA, hB⟩ := zip_at hit
  have hmem : ∀ p ∈ A ++ (it, i) :: B, its[p.2]? = some p.1 := fun p hp => mem_zip (by rw [e]; exact hp)
  rw [e]
  simp only [List.filter_append, List.map_append]
  have e1 : (A.filter fun p => (L p.2 || p.2 == i) && c p.1.e) = A.filter fun p => L p.2 && c p.1.e := by
    apply List.filter_congr
    intro p hp
    have : p.2 ≠ i := by have := hA p hp; omega
    rw [beq_false_of_ne this, Bool.or_false]
  have e2 : (B.filter fun p => (L p.2 || p.2 == i) && c p.1.e) = B.filter fun p => L p.2 && c p.1.e := by
    apply List.filter_congr
    intro p hp
    have : p.2 ≠ i := by have := hB p hp; omega
    rw [beq_false_of_ne this, Bool.or_false]
  rw [e1, List.append_assoc]
  congr 1
  cases hci : c it.e with
  | false => simp [hci, e2]
  | true =>
    have e3 : (B.filter fun p => L p.2 && c p.1.e) = [] := by
      rw [List.filter_eq_nil_iff]
      rintro ⟨b, j⟩ hp
      have hb := hmem (b, j) (by simp [hp])
      simp only at hb
      have hj : j < ops.size := by rw [← ok.len]; exact (List.getElem?_eq_some_iff.1 hb).1
      have hoj : ops[j]? = some ops[j] := by simp [hj]
      intro hh
      simp only [Bool.and_eq_true] at hh
      rcases fr.anc i j _ _ _ _ (hB _ hp) ho hoj hit hb with h1 | h1
      · exact hdep hci j _ b hoj hb hh.2 h1
      · rw [h1 L hc (hc j _ hoj hh.1)] at hiL; cases hiL
    simp [hci, e2, e3, hiL]
theorem foldE_snoc (l : List Eff) (e : Eff) (S : St) : foldE (l ++ [e]) S = e.app (foldE l S) := by simp [foldE]
theorem stL_insert (ok : ItsOk Φ cx ops its S0) (fr : Free md ops its) {L : Nat → Bool} (hc : Clo md ops L) {i : Nat} {o : Oper} {it : It} (ho : ops[i]? = some o) (hit : its[i]? = some it) (hiL : L i = false) :
    stL its S0 (fun k => (L k || k == i)) = it.e.app (stL its S0 L) := by
  obtain ⟨k1, k2, k3, _⟩ := ok.one i o it ho hit
  have hF : ∀ s, (stL its S0 (fun k => (L k || k == i))).F s = (it.e.app (stL its S0 L)).F s := fun s => by
    unfold stL
    rw [fold_F _ S0 S0 s rfl, insert_at ok fr hc ho hit hiL (fun e => e.dst == some s)]
    · cases hd : it.e.dst == some s with
      | true =>
        simp only [if_true]
        rw [foldE_snoc, app_F_on hd, app_F_on hd]
      | false =>
        simp only [Bool.false_eq_true, if_false, List.append_nil]
        rw [app_F_off hd, ← fold_F _ S0 S0 s rfl]
    · intro h1 j oj b hoj hb h2 hin
      obtain ⟨q1, _⟩ := ok.one j oj b hoj hb
      simp only [beq_iff_eq] at h1 h2
      rw [k1] at h1
      rw [q1] at h2
      exact (Oper.apart_spec (indep_slot hin)).2.1 s h1 h2
  have hM : ∀ t, (stL its S0 (fun k => (L k || k == i))).M t = (it.e.app (stL its S0 L)).M t := fun t => by
    unfold stL
    rw [fold_M _ S0 S0 t rfl, insert_at ok fr hc ho hit hiL (fun e => e.hits t)]
    · cases hd : it.e.hits t with
      | true =>
        simp only [if_true]
        rw [foldE_snoc]
        exact app_M (fold_M _ S0 S0 t rfl).symm
      | false =>
        simp only [Bool.false_eq_true, if_false, List.append_nil]
        rw [app_M_off hd, ← fold_M _ S0 S0 t rfl]
    · intro h1 j oj b hoj hb h2 hin
      obtain ⟨q1, q2, q3, _⟩ := ok.one j oj b hoj hb
      exact (indep_tag hin k2 q2 k3 q3).2.2 ⟨h1, h2⟩
  generalize stL its S0 (fun k => (L k || k == i)) = A at *
  generalize it.e.app (stL its S0 L) = B at *
  cases A; cases B
  simp only [St.mk.injEq]
  exact ⟨funext hF, funext hM⟩
theorem stL_unkv (h0 : NoV S0.M) (hn : nvI its = true) (L : Nat → Bool) : stL (its.map It.unkv) S0 L = stL its S0 L ∧ NoV (stL its S0 L).M := by
  unfold stL
  rw [zip_unkv]
  have h : nvI (((its.zipIdx.filter fun p => L p.2).map (·.1))) = true := by
    simp only [nvI, List.all_eq_true] at hn ⊢
    intro i hi
    obtain ⟨p, hp, rfl⟩ := List.mem_map.1 hi
    exact hn _ (List.mem_of_getElem? (mem_zip (List.mem_filter.1 hp).1))
  have := foldE_unkv h0 h
  have e : ((its.zipIdx.filter fun p => L p.2).map (·.1.e)) = ((its.zipIdx.filter fun p => L p.2).map (·.1)).map (·.e) := by rw [List.map_map]; rfl
  rw [e]
  exact this
theorem ItsOk.unkv (ok : ItsOk Φ cx ops its S0) (h0 : NoV S0.M) (hn : nvI its = true) : ItsOk (fun T => Φ T ∧ NoV T.M) cx ops (its.map It.unkv) S0 := by
  refine ⟨by simp [ok.len], fun i o it ho hit => ?_, fun L => ?_⟩
  · rw [List.getElem?_map, Option.map_eq_some_iff] at hit
    obtain ⟨it0, h1, rfl⟩ := hit
    obtain ⟨a, b, c, d⟩ := ok.one i o it0 ho h1
    refine ⟨a, b, fun hk => by simp [It.unkv] at hk, fun T hT h1 h2 => ?_⟩
    rw [(stL_unkv h0 hn _).1] at h1 h2
    rw [Eff.app_unkv hT.2]
    exact d T hT.1 h1 h2
  · rw [(stL_unkv h0 hn L).1]
    exact ⟨ok.phi L, (stL_unkv h0 hn L).2⟩
end
end Go.Ab
