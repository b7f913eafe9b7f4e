/- Ab15, Ab16. -/
import Derived.Test.YtjlfgobbieljoaaDoorBogG04
import Derived.OrdersIn
import Derived.TacticsIn
set_option linter.all false
namespace Go.Ab
open Go.RowKit
inductive R1 where
  | dv (d : DV)
  | row (esz : Nat) (elem : TypeId) (n : Nat) (cs : List DV)
inductive Res where
  | one (r : R1)
  | many (rs : List R1)
def R1Rep (B : Nat) (w : World) (Y : Nat → Prop) (r : R1) (v : Value) (ob : Option (Nat × Nat)) : Prop :=
  match r with
  | .dv d => ob = none ∧ RepD w Y d v
  | .row esz elem n cs => (∀ c ∈ cs, Scalar c) ∧ cs.length = n * esz ∧ match ob with
    | none => v = .slice none 0 0 ∧ n = 0
    | some (b, cap) => B ≤ b ∧ b < w.heap.size ∧ v = .slice (some ⟨b, 0, none⟩) n cap ∧ n ≤ cap ∧
        ∃ cur, w.heap[b]? = some (.cells cur elem (0, 0)) ∧ cur.size = cap * esz ∧ cap ≤ maxLen ∧ cs.length ≤ cur.size ∧
          ∀ (j : Nat) c u, cs[j]? = some c → cur[j]? = some u → RepD w (fun _ => False) c u
def R1Reps (B : Nat) (w : World) (Y : Nat → Prop) : List R1 → List Value → List (Option (Nat × Nat)) → Prop
  | [], [], [] => True
  | r :: rs, v :: vs, ob :: obs => R1Rep B w Y r v ob ∧ R1Reps B w Y rs vs obs
  | _, _, _ => False
def usedBy (obs : List (Option (Nat × Nat))) (b : Nat) : Prop := ∃ cap, some (b, cap) ∈ obs
def ResRep (B : Nat) (w : World) (Y : Nat → Prop) (res : Res) (v : Value) : Prop :=
  match res with
  | .one r => ∃ ob, R1Rep B w (fun b => Y b ∨ usedBy [ob] b) r v ob
  | .many rs => ∃ (vs : List Value) (obs : List (Option (Nat × Nat))), v = .tuple vs.toArray ∧ R1Reps B w (fun b => Y b ∨ usedBy obs b) rs vs obs ∧
      obs.Pairwise fun x y => ∀ b c c', x = some (b, c) → y ≠ some (b, c')
def Args (w : World) (X : Nat → Prop) (ds : List DV) (vs : Array Value) : Prop :=
  vs.size = ds.length ∧ ∀ (j : Nat) d, ds[j]? = some d → RepD w X d (vs.getD j undef)
def EnterP (P : Program) (f : FuncId) : Prop := ∃ fn, P.funcs[f]? = some fn ∧ (fn.name == "runtime.NumGoroutine") = false ∧ fn.body.isNone = false
def ACallsF (P : Program) (f : FuncId) (ds : List DV) (res : Res) : Prop :=
  EnterP P f ∧ ∀ (w : World) (vs : Array Value), Laid w → Args w (fun _ => False) ds vs →
    Calls P f vs w fun e w' => ∃ v, e = .returned v ∧ Below w.heap.size w w' ∧ ResRep w.heap.size w' (fun b => b < w.heap.size) res v
def ACalls (P : Program) (f : FuncId) (ds : List DV) (res : Res) : Prop :=
  EnterP P f ∧ ∀ (w : World) (X : Nat → Prop) (vs : Array Value), (∀ b, X b → b < w.heap.size) → Laid w → (∀ g, laidK g → ¬ X g) → Args w X ds vs →
    Calls P f vs w fun e w' => ∃ v, e = .returned v ∧ Below w.heap.size w w' ∧ ResRep w.heap.size w' X res v
theorem R1Rep.weaken {B : Nat} {w : World} {Y Y' : Nat → Prop} (hY : ∀ b, Y' b → Y b) {r : R1} {v : Value} {ob : Option (Nat × Nat)} (h : R1Rep B w Y r v ob) : R1Rep B w Y' r v ob := by
  cases r with
  | dv d => exact ⟨h.1, h.2.weaken hY⟩
  | row esz elem n cs => exact h
theorem R1Reps.weaken {B : Nat} {w : World} {Y Y' : Nat → Prop} (hY : ∀ b, Y' b → Y b) : ∀ {rs : List R1} {vs : List Value} {obs : List (Option (Nat × Nat))}, R1Reps B w Y rs vs obs → R1Reps B w Y' rs vs obs
  | [], [], [], _ => trivial
  | _ :: _, _ :: _, _ :: _, h => ⟨h.1.weaken hY, R1Reps.weaken hY h.2⟩
  | [], [], _ :: _, h => h.elim
  | [], _ :: _, _, h => by cases h
  | _ :: _, [], _, h => by cases h
  | _ :: _, _ :: _, [], h => by cases h
theorem ResRep.weaken {B : Nat} {w : World} {Y Y' : Nat → Prop} (hY : ∀ b, Y' b → Y b) {res : Res} {v : Value} (h : ResRep B w Y res v) : ResRep B w Y' res v := by
  cases res with
  | one r =>
    obtain ⟨ob, h⟩ := h
    exact ⟨ob, h.weaken fun b hb => hb.imp (hY b) id⟩
  | many rs =>
    obtain ⟨vs, obs, h1, h2, h3⟩ := h
    exact ⟨vs, obs, h1, h2.weaken fun b hb => hb.imp (hY b) id, h3⟩
theorem Args.weaken {w : World} {X X' : Nat → Prop} (hX : ∀ b, X' b → X b) {ds : List DV} {vs : Array Value} (h : Args w X ds vs) : Args w X' ds vs :=
  ⟨h.1, fun j d hj => (h.2 j d hj).weaken hX⟩
def impSV (d : Nat) : Nat → List R1 → (Nat → Nat × Option Blk) → List SV × (Nat → Nat × Option Blk)
  | _, [], M => ([], M)
  | j, .dv x :: rs, M => let r := impSV d (j + 1) rs M; (.dv x :: r.1, r.2)
  | j, .row esz elem n cs :: rs, M =>
    let t := d + 1000 * j
    let r := impSV d (j + 1) rs (upd M t ((M t).1 + 1, some ⟨cs.map .dv, esz, elem, 0, true⟩))
    (.sl t ((M t).1 + 1) 0 n :: r.1, r.2)
def impRes (d : Nat) (M : Nat → Nat × Option Blk) : Res → SV × (Nat → Nat × Option Blk)
  | .one r => let p := impSV d 0 [r] M; (p.1.getD 0 .dead, p.2)
  | .many rs => let p := impSV d 0 rs M; (.tup p.1, p.2)
def Cx.res (cx : Cx) (R : Nat → Prop) : Cx := { cx with X0 := fun b => cx.X0 b ∨ R b }
theorem SimU.reserve {cx : Cx} {S : St} {a : Act} {w w' : World} {μ : Nat → Option (Nat × Nat)} (h : SimU cx S a w μ) (hb : Below w.heap.size w w') : SimU (cx.res fun b => w.heap.size ≤ b) S a w' μ := by
  have hk : ∀ b, b < w.heap.size → ¬ XX cx S.M μ b → w'.heap[b]? = w.heap[b]? ∧ ¬ XX (cx.res fun b => w.heap.size ≤ b) S.M μ b := fun b hlt hx => ⟨hb.block b hlt, fun ho => by
    rcases ho with h1 | h1 | h1
    · exact hx (.inl h1)
    · exact hx (.inr h1)
    · omega⟩
  have hB : ∀ t g blk', S.M t = (g, some blk') → g ≤ (S.M t).1 → ∃ blk, S.M t = (g, some blk) ∧ μ t = μ t ∧ blk'.esz = blk.esz := fun t g blk' e _ => ⟨blk', e, rfl, rfl⟩
  exact {
    blk := fun t g blk e => (h.blk t g blk e).mono (st := blk.st) hb.size hk (fun _ => Nat.le_refl _) hB rfl (fun b cap hm => hb.block b (h.place t g blk b cap e hm).2)
    slot := fun i => SVRep.mono hb.size hk (fun _ => Nat.le_refl _) hB _ _ (h.slot i)
    place := fun t g blk b cap e hm => ⟨(h.place t g blk b cap e hm).1, Nat.lt_of_lt_of_le (h.place t g blk b cap e hm).2 hb.size⟩
    uniq := h.uniq
    anc := h.anc
    below := h.below.then (Wr' := fun _ => False) ⟨hb.os, hb.tape, hb.output, hb.size, fun k hk _ => hb.block k hk⟩ (fun _ _ _ h => h)
    size := h.size
    defers := h.defers }
theorem SimU.release {cx : Cx} {R : Nat → Prop} {S : St} {a : Act} {w : World} {μ : Nat → Option (Nat × Nat)} (h : SimU (cx.res R) S a w μ) : SimU cx S a w μ := by
  have hk : ∀ b, b < w.heap.size → ¬ XX (cx.res R) S.M μ b → w.heap[b]? = w.heap[b]? ∧ ¬ XX cx S.M μ b := fun b _ hx => ⟨rfl, fun ho => hx (ho.imp id .inl)⟩
  have hB : ∀ t g blk', S.M t = (g, some blk') → g ≤ (S.M t).1 → ∃ blk, S.M t = (g, some blk) ∧ μ t = μ t ∧ blk'.esz = blk.esz := fun t g blk' e _ => ⟨blk', e, rfl, rfl⟩
  exact {
    blk := fun t g blk e => (h.blk t g blk e).mono (st := blk.st) (Nat.le_refl _) hk (fun _ => Nat.le_refl _) hB rfl (fun _ _ _ => rfl)
    slot := fun i => SVRep.mono (Nat.le_refl _) hk (fun _ => Nat.le_refl _) hB _ _ (h.slot i)
    place := h.place
    uniq := h.uniq
    anc := h.anc
    below := h.below
    size := h.size
    defers := h.defers }
theorem SimU.adopt {cx : Cx} {S : St} {a : Act} {w : World} {μ : Nat → Option (Nat × Nat)} (h : SimU cx S a w μ) (t : Nat) (blk : Blk) (cur : Array Value) (b cap : Nat) (hrow : blk.row = true) (hst3 : blk.st < 3)
    (hX : cx.X0 b) (hb0 : cx.w0.heap.size ≤ b) (hb : b < w.heap.size) (hne : ∀ t g blk b' cap', S.M t = (g, some blk) → μ t = some (b', cap') → b' ≠ b) (hh : w.heap[b]? = some (.cells cur blk.elem (0, 0)))
    (hlen : blk.cells.length ≤ cur.size) (hc : ∀ (j : Nat) c u, blk.cells[j]? = some c → cur[j]? = some u → SVRep w S.M μ (XX cx S.M μ) c u)
    (hsz : cur.size = cap * blk.esz ∧ cap ≤ maxLen) :
    SimU cx { S with M := upd S.M t ((S.M t).1 + 1, some blk) } a w (upd μ t (some (b, cap))) := by
  have hown : ∀ b', Own (upd S.M t ((S.M t).1 + 1, some blk)) (upd μ t (some (b, cap))) b' → XX cx S.M μ b' := by
    rintro b' ⟨t', g', blk', cap', e1, e2, e3⟩
    by_cases ht : t' = t
    · subst ht
      rw [upd_same] at e3
      simp only [Option.some.injEq, Prod.mk.injEq] at e3
      exact .inr (e3.1 ▸ hX)
    · rw [upd_ne _ _ _ _ ht] at e1 e3
      exact .inl ⟨t', g', blk', cap', e1, e2, e3⟩
  have hk : ∀ b', b' < w.heap.size → ¬ XX cx S.M μ b' → w.heap[b']? = w.heap[b']? ∧ ¬ XX cx (upd S.M t ((S.M t).1 + 1, some blk)) (upd μ t (some (b, cap))) b' :=
    fun b' _ hx => ⟨rfl, fun ho => ho.elim (fun h1 => hx (hown b' h1)) (fun h1 => hx (.inr h1))⟩
  have hM : ∀ t', (S.M t').1 ≤ (upd S.M t ((S.M t).1 + 1, some blk) t').1 := fun t' => by
    by_cases ht : t' = t
    · subst ht; rw [upd_same]; exact Nat.le_succ _
    · rw [upd_ne _ _ _ _ ht]; exact Nat.le_refl _
  have hB : ∀ t' g blk', upd S.M t ((S.M t).1 + 1, some blk) t' = (g, some blk') → g ≤ (S.M t').1 →
      ∃ blk, S.M t' = (g, some blk) ∧ upd μ t (some (b, cap)) t' = μ t' ∧ blk'.esz = blk.esz := fun t' g blk' e hg => by
    by_cases ht : t' = t
    · subst ht; rw [upd_same] at e; simp at e; omega
    · rw [upd_ne _ _ _ _ ht] at e ⊢; exact ⟨blk', e, rfl, rfl⟩
  refine { blk := ?_, slot := ?_, place := ?_, uniq := ?_, anc := ?anc, below := h.below, size := h.size, defers := h.defers }
  case anc =>
    intro t' g' blk' e h3
    by_cases ht : t' = t
    · subst ht
      simp only [upd_same, Prod.mk.injEq, Option.some.injEq] at e
      obtain ⟨_, rfl⟩ := e
      omega
    · show upd μ t _ t' = _
      rw [upd_ne _ _ _ _ ht]
      simp only [upd_ne _ _ _ _ ht] at e
      exact h.anc t' g' blk' e h3
  · intro t' g blk' e
    by_cases ht : t' = t
    · subst ht
      simp only [upd_same, Prod.mk.injEq, Option.some.injEq] at e
      obtain ⟨_, rfl⟩ := e
      unfold BlkRep
      rw [upd_same]
      refine ⟨cur, hh, hlen, fun j c u hj hu => ?_, fun _ => hsz, fun hf => by rw [hrow] at hf; cases hf⟩
      exact SVRep.mono (Nat.le_refl _) hk hM hB c u (hc j c u hj hu)
    · have e' := e
      simp only [upd_ne _ _ _ _ ht] at e'
      exact (h.blk t' g blk' e').mono (st := blk'.st) (Nat.le_refl _) hk hM hB (upd_ne _ _ _ _ ht) (fun _ _ _ => rfl)
  · exact fun i => SVRep.mono (Nat.le_refl _) hk hM hB _ _ (h.slot i)
  · intro t' g blk' b' cap' e hm
    by_cases ht : t' = t
    · subst ht
      rw [upd_same] at hm
      simp only [Option.some.injEq, Prod.mk.injEq] at hm
      obtain ⟨rfl, rfl⟩ := hm
      exact ⟨.inl hb0, hb⟩
    · simp only [upd_ne _ _ _ _ ht] at e hm
      exact h.place t' g blk' b' cap' e hm
  · intro t1 g1 b1 t2 g2 b2 b' c1 c2 hne' e1 e2 s1 m1 m2
    by_cases h1 : t1 = t
    · subst h1
      have h2 : t2 ≠ t1 := Ne.symm hne'
      rw [upd_same] at m1
      simp only [Option.some.injEq, Prod.mk.injEq] at m1
      simp only [upd_ne _ _ _ _ h2] at e2 m2
      exact absurd m1.1.symm (hne t2 g2 b2 b' c2 e2 m2)
    · by_cases h2 : t2 = t
      · subst h2
        simp only [upd_ne _ _ _ _ h1] at e1 m1
        rw [upd_same] at m2
        simp only [Option.some.injEq, Prod.mk.injEq] at m2
        exact absurd m2.1.symm (hne t1 g1 b1 b' c1 e1 m1)
      · simp only [upd_ne _ _ _ _ h1] at e1 m1
        simp only [upd_ne _ _ _ _ h2] at e2 m2
        exact h.uniq t1 g1 b1 t2 g2 b2 b' c1 c2 hne' e1 e2 s1 m1 m2
theorem imp_sim {cx : Cx} {a : Act} {w : World} {B : Nat} {Y : Nat → Prop} (hBB : cx.w0.heap.size ≤ B) (hres : ∀ b, B ≤ b → cx.X0 b) (d : Nat) :
    ∀ (rs : List R1) (vs : List Value) (obs : List (Option (Nat × Nat))) (j : Nat) (S : St) (μ : Nat → Option (Nat × Nat)), SimU cx S a w μ →
    R1Reps B w Y rs vs obs → (obs.Pairwise fun x y => ∀ b c c', x = some (b, c) → y ≠ some (b, c')) →
    (∀ b, Own S.M μ b → Y b ∨ B ≤ b) → 
    (∀ t g blk b cap, S.M t = (g, some blk) → μ t = some (b, cap) → ∀ c, some (b, c) ∉ obs) →
    ∃ μ', SimU cx ⟨S.F, (impSV d j rs S.M).2⟩ a w μ' ∧ (∀ c v, SVRep w S.M μ (XX cx S.M μ) c v → SVRep w (impSV d j rs S.M).2 μ' (XX cx (impSV d j rs S.M).2 μ') c v) ∧
      (∀ b, Own (impSV d j rs S.M).2 μ' b → Own S.M μ b ∨ usedBy obs b) ∧
      (∀ (i : Nat) r v c, rs[i]? = some r → vs[i]? = some v → (impSV d j rs S.M).1[i]? = some c → (∀ x, r ≠ .dv x) → SVRep w (impSV d j rs S.M).2 μ' (XX cx (impSV d j rs S.M).2 μ') c v) ∧
      (∀ (i : Nat) x, rs[i]? = some (.dv x) → (impSV d j rs S.M).1[i]? = some (.dv x))
  | [], [], [], j, S, μ, h, _, _, _, _ => by
    refine ⟨μ, h, fun c v hh => hh, fun b hb => .inl hb, fun i r v c hr => by simp at hr, fun i x hr => by simp at hr⟩
  | .dv x :: rs, v :: vs, ob :: obs, j, S, μ, h, hR, hP, hO, hD => by
    obtain ⟨μ', i1, i2, i3, i4, i5⟩ := imp_sim hBB hres d rs vs obs (j + 1) S μ h hR.2 (List.pairwise_cons.1 hP).2 hO (fun t g blk b cap e hm c hc => hD t g blk b cap e hm c (List.mem_cons_of_mem _ hc))
    refine ⟨μ', i1, i2, fun b hb => (i3 b hb).imp id (fun ⟨c, hc⟩ => ⟨c, List.mem_cons_of_mem _ hc⟩), ?_, ?_⟩
    · intro i r v' c hr hv hc hx
      cases i with
      | zero => simp only [List.getElem?_cons_zero, Option.some.injEq] at hr; exact absurd hr.symm (hx x)
      | succ i => exact i4 i r v' c (by simpa using hr) (by simpa using hv) (by simpa [impSV] using hc) hx
    · intro i y hr
      cases i with
      | zero => simp only [List.getElem?_cons_zero, Option.some.injEq, R1.dv.injEq] at hr; subst hr; simp [impSV]
      | succ i => simpa [impSV] using i5 i y (by simpa using hr)
  | .row esz elem n cs :: rs, v :: vs, ob :: obs, j, S, μ, h, hR, hP, hO, hD => by
    obtain ⟨⟨hsc, hlen, hob⟩, hR2⟩ := hR
    obtain ⟨hP1, hP2⟩ := List.pairwise_cons.1 hP
    let t := d + 1000 * j
    have step : ∃ μ1, SimU cx ⟨S.F, upd S.M t ((S.M t).1 + 1, some ⟨cs.map .dv, esz, elem, 0, true⟩)⟩ a w μ1 ∧ (∀ t', t' ≠ t → μ1 t' = μ t') ∧
        SVRep w (upd S.M t ((S.M t).1 + 1, some ⟨cs.map .dv, esz, elem, 0, true⟩)) μ1 (XX cx (upd S.M t ((S.M t).1 + 1, some ⟨cs.map .dv, esz, elem, 0, true⟩)) μ1) (.sl t ((S.M t).1 + 1) 0 n) v ∧
        (∀ b cap, μ1 t = some (b, cap) → ob = some (b, cap)) := by
      cases ob with
      | none =>
        obtain ⟨rfl, rfl⟩ := hob
        have hcs : cs = [] := List.eq_nil_of_length_eq_zero (by simpa using hlen)
        subst hcs
        refine ⟨upd μ t none, h.virt t esz elem, fun t' ht => upd_ne _ _ _ _ ht, ?_, fun b cap hm => by rw [upd_same] at hm; cases hm⟩
        simp only [SVRep]
        refine ⟨⟨rfl, by rw [upd_same]; exact Nat.le_refl _⟩, fun blk' e' => ?_⟩
        rw [upd_same]
        exact ⟨trivial, trivial, trivial⟩
      | some p =>
        obtain ⟨b, cap⟩ := p
        obtain ⟨q1, q2, rfl, q3, cur, q4, q5, q6, q7, q8⟩ := hob
        refine ⟨upd μ t (some (b, cap)), h.adopt t ⟨cs.map .dv, esz, elem, 0, true⟩ cur b cap rfl (by simp) (hres b q1) (by omega) q2 (fun t' g blk b' cap' e hm hbb => hD t' g blk b' cap' e hm cap (by rw [hbb]; simp)) q4 (by simpa using q7)
          (fun i c u hc hu => ?_) ⟨q5, q6⟩, fun t' ht => upd_ne _ _ _ _ ht, ?_, fun b' cap' hm => by rw [upd_same] at hm; exact hm⟩
        · simp only [List.getElem?_map, Option.map_eq_some_iff] at hc
          obtain ⟨x, hx, rfl⟩ := hc
          simp only [SVRep]
          exact (hsc x (List.mem_of_getElem? hx)).rep (q8 i x u hx hu)
        · simp only [SVRep]
          refine ⟨⟨rfl, by rw [upd_same]; exact Nat.le_refl _⟩, fun blk' e' => ?_⟩
          rw [upd_same]
          simp [q3]
    obtain ⟨μ1, s1, s2, s3, s4⟩ := step
    have hkeep : ∀ c v', SVRep w S.M μ (XX cx S.M μ) c v' → SVRep w (upd S.M t ((S.M t).1 + 1, some ⟨cs.map .dv, esz, elem, 0, true⟩)) μ1 (XX cx (upd S.M t ((S.M t).1 + 1, some ⟨cs.map .dv, esz, elem, 0, true⟩)) μ1) c v' := by
      intro c v' hh
      refine SVRep.mono (Nat.le_refl _) (fun b _ hx => ⟨rfl, fun ho => ?_⟩) (fun t' => ?_) (fun t' g blk' e hg => ?_) c v' hh
      · rcases ho with ⟨t', g', blk', cap', e1, e2, e3⟩ | ho
        · by_cases ht : t' = t
          · subst ht
            have hq := s4 b cap' e3
            subst hq
            exact hx (.inr (hres b hob.1))
          · rw [upd_ne _ _ _ _ ht] at e1
            rw [s2 t' ht] at e3
            exact hx (.inl ⟨t', g', blk', cap', e1, e2, e3⟩)
        · exact hx (.inr ho)
      · by_cases ht : t' = t
        · subst ht; rw [upd_same]; exact Nat.le_succ _
        · rw [upd_ne _ _ _ _ ht]; exact Nat.le_refl _
      · by_cases ht : t' = t
        · subst ht; rw [upd_same] at e; simp at e; omega
        · rw [upd_ne _ _ _ _ ht] at e; exact ⟨blk', e, s2 t' ht, rfl⟩
    obtain ⟨μ', i1, i2, i3, i4, i5⟩ := imp_sim hBB hres d rs vs obs (j + 1) ⟨S.F, upd S.M t ((S.M t).1 + 1, some ⟨cs.map .dv, esz, elem, 0, true⟩)⟩ μ1 s1 hR2 hP2
      (by
        rintro b ⟨t', g', blk', cap', e1, e2, e3⟩
        by_cases ht : t' = t
        · subst ht
          have hq := s4 b cap' e3
          subst hq
          exact .inr hob.1
        · simp only [upd_ne _ _ _ _ ht] at e1
          rw [s2 t' ht] at e3
          exact hO b ⟨t', g', blk', cap', e1, e2, e3⟩)
      (by
        intro t' g blk b cap e hm c hc
        by_cases ht : t' = t
        · subst ht
          have hq := s4 b cap hm
          exact hP1 _ hc b cap c hq rfl
        · simp only [upd_ne _ _ _ _ ht] at e
          rw [s2 t' ht] at hm
          exact hD t' g blk b cap e hm c (List.mem_cons_of_mem _ hc))
    refine ⟨μ', i1, fun c v' hh => i2 c v' (hkeep c v' hh), ?_, ?_, ?_⟩
    · intro b hb
      rcases i3 b hb with ⟨t', g', blk', cap', e1, e2, e3⟩ | ⟨c, hc⟩
      · by_cases ht : t' = t
        · subst ht
          exact .inr ⟨cap', by rw [← s4 b cap' e3]; simp⟩
        · simp only [upd_ne _ _ _ _ ht] at e1
          rw [s2 t' ht] at e3
          exact .inl ⟨t', g', blk', cap', e1, e2, e3⟩
      · exact .inr ⟨c, List.mem_cons_of_mem _ hc⟩
    · intro i r v' c hr hv hc hx
      cases i with
      | zero =>
        simp only [List.getElem?_cons_zero, Option.some.injEq] at hv
        subst hv
        simp only [impSV, List.getElem?_cons_zero, Option.some.injEq] at hc
        subst hc
        exact i2 _ _ s3
      | succ i => exact i4 i r v' c (by simpa using hr) (by simpa using hv) (by simpa [impSV] using hc) hx
    · intro i y hr
      cases i with
      | zero => simp at hr
      | succ i => simpa [impSV] using i5 i y (by simpa using hr)
  | [], [], _ :: _, _, _, _, _, hR, _, _, _ => hR.elim
  | [], _ :: _, _, _, _, _, _, hR, _, _, _ => by cases hR
  | _ :: _, [], _, _, _, _, _, hR, _, _, _ => by cases hR
  | _ :: _, _ :: _, [], _, _, _, _, hR, _, _, _ => by cases hR
end Go.Ab
namespace Go.Ab
open Go.RowKit
def builtinOut (P : Program) (S : St) (b : Builtin) (args : List Operand) (ts : List TypeId) : Option Out :=
  match b, args, ts with
  | .append, [s, x], [t, tx] => appendOut P t tx (S.look s) (S.look x)
  | .len, [x], [t] => (lenSV P t (S.look x)).map .val
  | .max, [x, y], _ => (minmaxSV true [S.ev x, S.ev y]).map .val
  | .min, [x, y], _ => (minmaxSV false [S.ev x, S.ev y]).map .val
  | _, _, _ => none
def callOut (P : Program) (S : St) (c : Call) : Option Out :=
  match c.callee with
  | .builtin b => builtinOut P S b c.args.toList c.argTypes.toList
  | _ => none
def outOf (P : Program) (S : St) : Op → Option Out
  | .move x => some (.val (S.ev x))
  | .assign x => some (.val (S.ev x))
  | .pick c x y => match S.ev c with
    | .dv (.bool b) => some (.val (pickSV b (S.ev x) (S.ev y)))
    | _ => none
  | .binOp op t x y _ => (binSV P op t (S.ev x) (S.ev y)).map .val
  | .unOp op _ x => (unSV op (S.ev x)).map .val
  | .convert s d x => ((convSV P s d (S.ev x)).or (b2sSV P s d (S.look x))).map .val
  | .index t x y => (strIxSV P t (S.ev x) (S.ev y)).map .val
  | .extract x i => (extractSV (S.ev x) i).map .val
  | .fieldAddr s x f => (fieldSV P s f (S.look x)).map .val
  | .indexAddr t x y => (indexSV P t (S.look x) (S.ev y)).map .val
  | .load t x => (loadSV P t (S.look x)).map .val
  | .slice t x lo hi mx => (cutSV P t (S.look x) (lo.map S.ev) (hi.map S.ev) (mx.map S.ev)).map .val
  | .nilCheck x => (nilckSV (S.look x)).map .val
  | .build t parts => (buildSV P t (parts.toList.map fun p => (p.1, S.ev p.2))).map .val
  | .alloc t => (zeroP P t).map fun cs => .mk ⟨cs, 0, t, 0, false⟩ 0
  | .box t x => (cellsSV (S.ev x)).map fun cs => .mk ⟨cs, 0, t, 0, false⟩ 0
  | .makeSlice t l c => makeOut P t (S.ev l) (S.ev c)
  | .buildSlice t n parts => buildSliceOut P t n (parts.toList.map fun p => (p.1, S.ev p.2))
  | .store t x v => storeOut P t (S.look x) (S.ev v)
  | .call c => callOut P S c
  | _ => none
section
variable {cx : Cx} {S S' : St} {a : Act} {w : World} {μ : Nat → Option (Nat × Nat)} {o : Oper}
theorem outOf_runs (h : SimU cx S a w μ) {out : Out} (hr : outOf cx.P S o.op = some out) (ha : S.apply cx.n o.dst out = some S') : Runs cx S' o a w := by
  have val : ∀ {x : Option SV}, x.map Out.val = some out → ∃ r, x = some r ∧ out = .val r := fun hx => by
    obtain ⟨r, h1, h2⟩ := Option.map_eq_some_iff.1 hx
    exact ⟨r, h1, h2.symm⟩
  generalize hop : o.op = op at hr
  unfold outOf at hr
  split at hr
  · simp only [Option.some.injEq] at hr; subst hr; exact move_runs h (.inl hop) ha
  · simp only [Option.some.injEq] at hr; subst hr; exact move_runs h (.inr hop) ha
  · split at hr
    · rename_i b hb
      simp only [Option.some.injEq] at hr; subst hr; exact pick_runs h hop hb ha
    · cases hr
  · obtain ⟨r, h1, rfl⟩ := val hr; exact bin_runs h hop h1 ha
  · obtain ⟨r, h1, rfl⟩ := val hr; exact un_runs h hop h1 ha
  · obtain ⟨r, h1, rfl⟩ := val hr
    rcases Option.or_eq_some_iff.1 h1 with h1 | ⟨_, h1⟩
    · exact conv_runs h hop h1 ha
    · exact b2s_runs h hop h1 ha
  · obtain ⟨r, h1, rfl⟩ := val hr; exact stridx_runs h hop h1 ha
  · obtain ⟨r, h1, rfl⟩ := val hr; exact extract_runs h hop h1 ha
  · obtain ⟨r, h1, rfl⟩ := val hr; exact field_runs h hop h1 ha
  · obtain ⟨r, h1, rfl⟩ := val hr; exact index_runs h hop h1 ha
  · obtain ⟨r, h1, rfl⟩ := val hr; exact load_runs h hop h1 ha
  · obtain ⟨r, h1, rfl⟩ := val hr; exact cut_runs h hop h1 ha
  · obtain ⟨r, h1, rfl⟩ := val hr; exact nilck_runs h hop h1 ha
  · obtain ⟨r, h1, rfl⟩ := val hr; exact build_runs h hop h1 ha
  · obtain ⟨cs, h1, h2⟩ := Option.map_eq_some_iff.1 hr; subst h2; exact alloc_runs h hop h1 ha
  · obtain ⟨cs, h1, h2⟩ := Option.map_eq_some_iff.1 hr; subst h2; exact box_runs h hop h1 ha
  · exact make_runs h hop hr ha
  · exact buildSlice_runs h hop hr ha
  · exact store_runs h hop hr ha
  · rename_i c
    obtain ⟨callee, args, ts⟩ := c
    unfold callOut at hr
    split at hr
    · rename_i b hb
      simp only at hb
      subst hb
      obtain ⟨args⟩ := args
      obtain ⟨ts⟩ := ts
      unfold builtinOut at hr
      simp only at hr
      split at hr
      · exact append_runs h hop hr ha
      · obtain ⟨r, h1, rfl⟩ := val hr; exact len_runs h hop h1 ha
      · obtain ⟨r, h1, rfl⟩ := val hr; exact minmax_runs (mx := true) h hop h1 ha
      · obtain ⟨r, h1, rfl⟩ := val hr; exact minmax_runs (mx := false) h hop h1 ha
      · cases hr
    · cases hr
  · cases hr
def Does (cx : Cx) (S' : St) (o : Oper) (a : Act) (w : World) : Prop := ∀ Q, o.wp cx.P a w (fun a' w' => Sim cx S' a' w') Q
theorem Runs.does (h : Runs cx S' o a w) : Does cx S' o a w := by
  intro Q
  obtain ⟨v, w', μ', hr, hs⟩ := h
  unfold Oper.wp
  rcases hr with hr | ⟨hr, rfl⟩ <;> rw [hr] <;> exact ⟨μ', hs⟩
def ArgsSV (R : SV → DV → Prop) : List SV → List DV → Prop
  | [], [] => True
  | s :: ss, d :: ds => R s d ∧ ArgsSV R ss ds
  | _, _ => False
theorem argsSV_len {R : SV → DV → Prop} : ∀ {ss : List SV} {ds : List DV}, ArgsSV R ss ds → ss.length = ds.length
  | [], [], _ => rfl
  | _ :: ss, _ :: ds, h => by simp [argsSV_len h.2]
  | [], _ :: _, h => h.elim
  | _ :: _, [], h => h.elim
theorem argsSV_get {R : SV → DV → Prop} : ∀ {ss : List SV} {ds : List DV}, ArgsSV R ss ds → ∀ (j : Nat) s d, ss[j]? = some s → ds[j]? = some d → R s d
  | [], [], _, j, s, d, hs, _ => by simp at hs
  | s0 :: ss, d0 :: ds, h, j, s, d, hs, hd => by
    cases j with
    | zero => simp only [List.getElem?_cons_zero, Option.some.injEq] at hs hd; subst hs; subst hd; exact h.1
    | succ j => exact argsSV_get h.2 j s d (by simpa using hs) (by simpa using hd)
  | [], _ :: _, h, _, _, _, _, _ => h.elim
  | _ :: _, [], h, _, _, _, _, _ => h.elim
def St.applyRes (n : Nat) (S : St) (dst : Option Nat) (res : Res) : Option St :=
  match dst with
  | some d => if d < n then some ⟨upd S.F d (impRes d S.M res).1, (impRes d S.M res).2⟩ else none
  | none => none
theorem resRep_sim (h : SimU cx S a w μ) {w' : World} (hb : Below w.heap.size w w') {Y : Nat → Prop} (hY : ∀ b, XX cx S.M μ b → Y b) {res : Res} {v : Value} (hres : ResRep w.heap.size w' Y res v) (d : Nat) :
    ∃ μ', SimU cx ⟨S.F, (impRes d S.M res).2⟩ a w' μ' ∧ SVRep w' (impRes d S.M res).2 μ' (XX cx (impRes d S.M res).2 μ') (impRes d S.M res).1 v := by
  have h1 := h.reserve hb
  have hO : ∀ b, Own S.M μ b → Y b ∨ w.heap.size ≤ b := fun b hb => .inl (hY b (.inl hb))
  have drop : ∀ {M : Nat → Nat × Option Blk} {μ' : Nat → Option (Nat × Nat)} (c : SV) (v : Value), SVRep w' M μ' (XX (cx.res fun b => w.heap.size ≤ b) M μ') c v → SVRep w' M μ' (XX cx M μ') c v := by
    intro M μ' c v hh
    exact SVRep.mono (Nat.le_refl _) (fun b _ hx => ⟨rfl, fun ho => hx (ho.imp id .inl)⟩) (fun _ => Nat.le_refl _) (fun t g blk' e _ => ⟨blk', e, rfl, rfl⟩) c v hh
  have data : ∀ {obs : List (Option (Nat × Nat))} {M : Nat → Nat × Option Blk} {μ' : Nat → Option (Nat × Nat)} {x : DV} {v : Value}, (∀ b, Own M μ' b → Own S.M μ b ∨ usedBy obs b) → RepD w' (fun b => Y b ∨ usedBy obs b) x v → RepD w' (XX cx M μ') x v := by
    intro obs M μ' x v hO' hx
    refine hx.weaken fun b hb => ?_
    rcases hb with hb | hb
    · exact (hO' b hb).imp (fun h => hY b (.inl h)) id
    · exact .inl (hY b (.inr hb))
  have place : ∀ (obs : List (Option (Nat × Nat))) (rs : List R1) (vs : List Value), R1Reps w.heap.size w' (fun b => Y b ∨ usedBy obs b) rs vs obs → ∀ t g blk b cap, S.M t = (g, some blk) → μ t = some (b, cap) → ∀ c, some (b, c) ∉ obs := by
    intro obs rs vs hR t g blk b cap e hm c hc
    have key : ∀ (Y : Nat → Prop) (rs : List R1) (vs : List Value) (obs : List (Option (Nat × Nat))), R1Reps w.heap.size w' Y rs vs obs → some (b, c) ∈ obs → w.heap.size ≤ b := by
      intro Y rs
      induction rs with
      | nil => intro vs obs hR hc; cases vs <;> cases obs <;> first | exact hR.elim | (simp at hc; done) | (cases hR; done)
      | cons r rs ih =>
        intro vs obs hR hc
        cases vs with
        | nil => cases obs <;> cases hR
        | cons v vs =>
          cases obs with
          | nil => cases hR
          | cons ob obs =>
            rcases List.mem_cons.1 hc with h1 | h1
            · subst h1
              cases r with
              | dv x => have := hR.1.1; cases this
              | row esz elem n cs => exact hR.1.2.2.1
            · exact ih vs obs hR.2 h1
    have h1 := key _ rs vs obs hR hc
    have h2 := (h.place t g blk b cap e hm).2
    omega
  have hB : (cx.res fun b => w.heap.size ≤ b).w0.heap.size ≤ w.heap.size := h.below.size
  cases res with
  | one r =>
    obtain ⟨ob, hr⟩ := hres
    have hR : R1Reps w.heap.size w' (fun b => Y b ∨ usedBy [ob] b) [r] [v] [ob] := ⟨hr, trivial⟩
    obtain ⟨μ', i1, i2, i3, i4, i5⟩ := imp_sim (cx := cx.res fun b => w.heap.size ≤ b) hB (fun b hb => .inr hb) d [r] [v] [ob] 0 S μ h1 hR (by simp) (fun b hb => (hO b hb).imp .inl id) (place _ _ _ hR)
    refine ⟨μ', i1.release, ?_⟩
    cases r with
    | dv x =>
      have e := i5 0 x rfl
      have e' : (impRes d S.M (.one (.dv x))).1 = .dv x := by
        show ((impSV d 0 [R1.dv x] S.M).1).getD 0 .dead = _
        rw [List.getD_eq_getElem?_getD, e]
        rfl
      rw [e']
      simp only [SVRep]
      exact data i3 hr.2
    | row esz elem n cs =>
      have := i4 0 (.row esz elem n cs) v (impRes d S.M (.one (.row esz elem n cs))).1 rfl rfl (by simp [impRes, impSV]) (by simp)
      exact drop _ _ this
  | many rs =>
    obtain ⟨vs, obs, rfl, hR, hP⟩ := hres
    obtain ⟨μ', i1, i2, i3, i4, i5⟩ := imp_sim (cx := cx.res fun b => w.heap.size ≤ b) hB (fun b hb => .inr hb) d rs vs obs 0 S μ h1 hR hP (fun b hb => (hO b hb).imp .inl id) (place _ _ _ hR)
    refine ⟨μ', i1.release, ?_⟩
    show SVRep w' _ μ' _ (.tup (impSV d 0 rs S.M).1) _
    simp only [SVRep]
    have len : ∀ (rs : List R1) (j : Nat) (M : Nat → Nat × Option Blk), (impSV d j rs M).1.length = rs.length := by
      intro rs
      induction rs with
      | nil => intro j M; rfl
      | cons r rs ih => intro j M; cases r <;> simp [impSV, ih]
    have len2 : ∀ (Y : Nat → Prop) (rs : List R1) (vs : List Value) (obs : List (Option (Nat × Nat))), R1Reps w.heap.size w' Y rs vs obs → vs.length = rs.length := by
      intro Y rs
      induction rs with
      | nil => intro vs obs hR; cases vs <;> cases obs <;> first | rfl | cases hR
      | cons r rs ih =>
        intro vs obs hR
        cases vs with
        | nil => cases obs <;> cases hR
        | cons v vs =>
          cases obs with
          | nil => cases hR
          | cons ob obs => simp [ih vs obs hR.2]
    have get2 : ∀ (Y : Nat → Prop) (rs : List R1) (vs : List Value) (obs : List (Option (Nat × Nat))), R1Reps w.heap.size w' Y rs vs obs → ∀ (j : Nat) x v, rs[j]? = some (.dv x) → vs[j]? = some v → RepD w' Y x v := by
      intro Y rs
      induction rs with
      | nil => intro vs obs hR j x v h; simp at h
      | cons r rs ih =>
        intro vs obs hR j x v h1 h2
        cases vs with
        | nil => simp at h2
        | cons v0 vs =>
          cases obs with
          | nil => cases hR
          | cons ob obs =>
            cases j with
            | zero =>
              simp only [List.getElem?_cons_zero, Option.some.injEq] at h1 h2
              subst h1; subst h2
              exact hR.1.2
            | succ j => exact ih vs obs hR.2 j x v (by simpa using h1) (by simpa using h2)
    refine ⟨vs, rfl, SVReps.mk (by rw [len, len2 _ _ _ _ hR]) fun j c u hc hu => ?_⟩
    have hj : j < rs.length := by rw [← len rs 0 S.M]; exact (List.getElem?_eq_some_iff.1 hc).1
    have hr : rs[j]? = some rs[j] := by simp [hj]
    cases hq : rs[j] with
    | dv x =>
      rw [hq] at hr
      have := i5 j x hr
      rw [this] at hc
      simp only [Option.some.injEq] at hc
      subst hc
      simp only [SVRep]
      exact data i3 (get2 _ _ _ _ hR j x u hr hu)
    | row esz elem n cs =>
      rw [hq] at hr
      exact drop _ _ (i4 j _ u c hr hu hc (by simp))
theorem enter_run {P : Program} {f : FuncId} (h : EnterP P f) (args : Array Value) (w : World) : (callFunc f args).run P w = .ok (.enter f args) w := by
  obtain ⟨fn, h1, h2, h3⟩ := h
  unfold callFunc
  simp only [Sem.run_bind, run_program, Result.andThen_ok, h1, h2, h3, Bool.false_eq_true, if_false, Sem.run_pure]
theorem call_exec {f' : Operand} {args : Array Operand} {ts : Array TypeId} (ho : o.op = .call { callee := .value f', args := args, argTypes := ts }) {f : FuncId} {vp vc : Array Value} (hf : a.eval f' = .func (.func f) vp vc) (he : EnterP cx.P f) :
    (execOp a.eval o).run cx.P w = .ok (.enter f (vp ++ args.map a.eval ++ vc)) w := by
  unfold execOp
  simp only [ho, resolve, hf, Deferred.ofValue, invoke, Sem.run_bind, Sem.run_pure, Result.andThen_ok, enter_run he]
theorem args_get {w : World} {X : Nat → Prop} {pre ds caps : List DV} {vp va vc : Array Value} (hp : Args w X pre vp) (ha : Args w X ds va) (hc : Args w X caps vc) : Args w X (pre ++ ds ++ caps) (vp ++ va ++ vc) := by
  have two : ∀ (l m : List DV) (vl vm : Array Value), Args w X l vl → Args w X m vm → Args w X (l ++ m) (vl ++ vm) := by
    intro l m vl vm h1 h2
    refine ⟨by simp [h1.1, h2.1], fun j d hj => ?_⟩
    by_cases hlt : j < l.length
    · rw [List.getElem?_append_left hlt] at hj
      have := h1.2 j d hj
      have hv : (vl ++ vm).getD j undef = vl.getD j undef := by
        simp [Array.getElem?_append_left (show j < vl.size by rw [h1.1]; exact hlt)]
      rw [hv]; exact this
    · rw [List.getElem?_append_right (by omega)] at hj
      have := h2.2 _ d hj
      have hv : (vl ++ vm).getD j undef = vm.getD (j - l.length) undef := by
        simp [Array.getElem?_append_right (show vl.size ≤ j by rw [h1.1]; omega), h1.1]
      rw [hv]; exact this
  exact two _ _ _ _ (two _ _ _ _ hp ha) hc
theorem callF_does (hg : cx.Good) (h : SimU cx S a w μ) {f' : Operand} {args : Array Operand} {ts : Array TypeId} (ho : o.op = .call { callee := .value f', args := args, argTypes := ts }) {f : FuncId} {pre caps ds : List DV} (hf : S.ev f' = .dv (.fn f pre caps))
    (hargs : ArgsSV (Borrow S.M) (args.toList.map S.ev) ds) {res : Res} (hcall : ACallsF cx.P f (pre ++ ds ++ caps) res) (ha : S.applyRes cx.n o.dst res = some S') : Does cx S' o a w := by
  have hfv := h.ev f'
  rw [hf] at hfv
  simp only [SVRep] at hfv
  generalize hv : a.eval f' = vf at *
  cases hfv with
  | fn _ _ _ vp vc p1 p2 p3 p4 =>
    cases hd : o.dst with
    | none => rw [hd] at ha; simp [St.applyRes] at ha
    | some d =>
      rw [hd] at ha
      simp only [St.applyRes] at ha
      split at ha
      · rename_i hdn
        simp only [Option.some.injEq] at ha
        subst ha
        intro Q
        unfold Oper.wp
        rw [call_exec ho hv hcall.1]
        have hA : Args w (fun _ => False) (pre ++ ds ++ caps) (vp ++ args.map a.eval ++ vc) := by
          refine args_get ⟨p1, fun j c hj => (p3 j c hj).weaken fun _ h => h.elim⟩ ⟨?_, fun j c hj => ?_⟩ ⟨p2, fun j c hj => (p4 j c hj).weaken fun _ h => h.elim⟩
          · have := argsSV_len hargs; simpa using this
          · have hl := argsSV_len hargs
            have hjl : j < args.size := by
              have := (List.getElem?_eq_some_iff.1 hj).1
              simp only [List.length_map, Array.length_toList] at hl
              omega
            have hb := argsSV_get hargs j (S.ev args[j]) c (by simp [hjl]) hj
            have hv' : (args.map a.eval).getD j undef = a.eval args[j] := by simp [hjl]
            rw [hv']
            exact hb.rep h (h.ev _)
        refine (hcall.2 w _ (h.laid hg).1 hA).mono fun e w' ⟨v, he, hb, hres⟩ => ?_
        subst he
        show Sim cx _ (a.put o.dst v) w'
        obtain ⟨μ', i1, i2⟩ := resRep_sim h hb (Y := fun b => b < w.heap.size) (fun b hx => by
          rcases hx with ⟨t, g, blk, cap, e1, _, e3⟩ | hx
          · exact (h.place t g blk b cap e1 e3).2
          · exact Nat.lt_of_lt_of_le (hg.1 b hx).1 h.below.size) hres d
        rw [hd]
        exact ⟨μ', i1.set hdn i2⟩
      · cases ha
theorem callA_does (hg : cx.Good) (h : SimU cx S a w μ) {f' : Operand} {args : Array Operand} {ts : Array TypeId} (ho : o.op = .call { callee := .value f', args := args, argTypes := ts }) {f : FuncId} {pre caps ds : List DV} (hf : S.ev f' = .dv (.fn f pre caps))
    (hargs : ArgsSV (Lasting S.M) (args.toList.map S.ev) ds) {res : Res} (hcall : ACalls cx.P f (pre ++ ds ++ caps) res) (ha : S.applyRes cx.n o.dst res = some S') : Does cx S' o a w := by
  have hfv := h.ev f'
  rw [hf] at hfv
  simp only [SVRep] at hfv
  generalize hv : a.eval f' = vf at *
  cases hfv with
  | fn _ _ _ vp vc p1 p2 p3 p4 =>
    cases hd : o.dst with
    | none => rw [hd] at ha; simp [St.applyRes] at ha
    | some d =>
      rw [hd] at ha
      simp only [St.applyRes] at ha
      split at ha
      · rename_i hdn
        simp only [Option.some.injEq] at ha
        subst ha
        intro Q
        unfold Oper.wp
        rw [call_exec ho hv hcall.1]
        have hA : Args w (XX cx S.M μ) (pre ++ ds ++ caps) (vp ++ args.map a.eval ++ vc) := by
          refine args_get ⟨p1, p3⟩ ⟨?_, fun j c hj => ?_⟩ ⟨p2, p4⟩
          · have := argsSV_len hargs; simpa using this
          · have hl := argsSV_len hargs
            have hjl : j < args.size := by
              have := (List.getElem?_eq_some_iff.1 hj).1
              simp only [List.length_map, Array.length_toList] at hl
              omega
            have hb := argsSV_get hargs j (S.ev args[j]) c (by simp [hjl]) hj
            have hv' : (args.map a.eval).getD j undef = a.eval args[j] := by simp [hjl]
            rw [hv']
            exact hb.rep hg h (h.ev _)
        have hX : ∀ b, XX cx S.M μ b → b < w.heap.size := fun b hx => by
          rcases hx with ⟨t, g, blk, cap, e1, _, e3⟩ | hx
          · exact (h.place t g blk b cap e1 e3).2
          · exact Nat.lt_of_lt_of_le (hg.1 b hx).1 h.below.size
        refine (hcall.2 w (XX cx S.M μ) _ hX (h.laid hg).1 (h.laid hg).2 hA).mono fun e w' ⟨v, he, hb, hres⟩ => ?_
        subst he
        show Sim cx _ (a.put o.dst v) w'
        obtain ⟨μ', i1, i2⟩ := resRep_sim h hb (Y := XX cx S.M μ) (fun b hx => hx) hres d
        rw [hd]
        exact ⟨μ', i1.set hdn i2⟩
      · cases ha
inductive Step (cx : Cx) (S : St) (o : Oper) (S' : St) : Prop
  | out (out : Out) : outOf cx.P S o.op = some out → S.apply cx.n o.dst out = some S' → Step cx S o S'
  | fn (f : FuncId) (pre caps : Array Operand) : o.op = .makeFunc (.func f) pre caps → S.applyFn cx.n o.dst f (pre.toList.map S.look) (caps.toList.map S.look) = some S' → Step cx S o S'
  | callF (f' : Operand) (args : Array Operand) (ts : Array TypeId) (f : FuncId) (pre caps ds : List DV) (res : Res) : o.op = .call { callee := .value f', args := args, argTypes := ts } → S.ev f' = .dv (.fn f pre caps) →
      ArgsSV (Borrow S.M) (args.toList.map S.ev) ds → ACallsF cx.P f (pre ++ ds ++ caps) res → S.applyRes cx.n o.dst res = some S' → Step cx S o S'
  | callA (f' : Operand) (args : Array Operand) (ts : Array TypeId) (f : FuncId) (pre caps ds : List DV) (res : Res) : o.op = .call { callee := .value f', args := args, argTypes := ts } → S.ev f' = .dv (.fn f pre caps) →
      ArgsSV (Lasting S.M) (args.toList.map S.ev) ds → ACalls cx.P f (pre ++ ds ++ caps) res → S.applyRes cx.n o.dst res = some S' → Step cx S o S'
  | sem : (cx.Good → ∀ a w, Sim cx S a w → Does cx S' o a w) → Step cx S o S'
theorem Step.does (hg : cx.Good) (h : Sim cx S a w) (hs : Step cx S o S') : Does cx S' o a w := by
  have h0 := h
  obtain ⟨μ, h⟩ := h
  cases hs with
  | sem h1 => exact h1 hg a w h0
  | out out h1 h2 => exact (outOf_runs h h1 h2).does
  | fn f pre caps h1 h2 => exact (makeFunc_runs hg h h1 h2).does
  | callF f' args ts f pre caps ds res h1 h2 h3 h4 h5 => exact callF_does hg h h1 h2 h3 h4 h5
  | callA f' args ts f pre caps ds res h1 h2 h3 h4 h5 => exact callA_does hg h h1 h2 h3 h4 h5
def slotOf (ops : Array Oper) (j : Nat) : Option Nat := (ops[j]?).bind (·.dst)
def St.skip (S : St) (dst : Option Nat) : St := match dst with | some d => ⟨upd S.F d (.tup []), S.M⟩ | none => S
inductive NotW (want : Bool) : SV → Prop
  | off : NotW want (.dv (.bool (!want)))
  | undef : NotW want (.tup [])
theorem NotW.ne {want c : Bool} (h : c ≠ want) : NotW want (.dv (.bool c)) := by
  have e : c = !want := by cases c <;> cases want <;> simp_all
  subst e; exact .off
def GStep (cx : Cx) (ops : Array Oper) (S : St) (o : Oper) (S' : St) : Prop :=
  match o.guard with
  | none => Step cx S o S'
  | some (j, want) => ∃ t, slotOf ops j = some t ∧ ((S.F t = .dv (.bool want) ∧ Step cx S o S') ∨ (NotW want (S.F t) ∧ S' = S.skip o.dst))
def Chain (cx : Cx) (ops : Array Oper) : List Oper → St → (St → Prop) → Prop
  | [], S, K => K S
  | o :: l, S, K => ∃ S', GStep cx ops S o S' ∧ Chain cx ops l S' K
theorem SVRep_tup0 {w : World} {M : Nat → Nat × Option Blk} {μ : Nat → Option (Nat × Nat)} {X : Nat → Prop} : SVRep w M μ X (.tup []) (.tuple #[]) := by
  exact ⟨[], rfl, trivial⟩
theorem SVRep_tup_inv {w : World} {M : Nat → Nat × Option Blk} {μ : Nat → Option (Nat × Nat)} {X : Nat → Prop} {cs : List SV} {v : Value} (h : SVRep w M μ X (.tup cs) v) : ∃ vs, v = .tuple vs := by
  simp only [SVRep] at h
  obtain ⟨vs, h1, _⟩ := h
  exact ⟨_, h1⟩
theorem Sim.skip (h : Sim cx S a w) (dst : Option Nat) : Sim cx (S.skip dst) (a.put dst undef) w := by
  obtain ⟨μ, h⟩ := h
  cases dst with
  | none => exact ⟨μ, h⟩
  | some d =>
    refine ⟨μ, ⟨h.blk, fun i => ?_, h.place, h.uniq, h.anc, h.below, by simpa [Act.put] using h.size, h.defers⟩⟩
    show SVRep w S.M μ _ (upd S.F d (.tup []) i) _
    by_cases hi : i = d
    · subst hi; rw [upd_same]
      have e : (a.put (some i) undef).tmps.getD i undef = .tuple #[] := by
        simp only [Act.put, Array.getD_eq_getD_getElem?, Array.getElem?_setIfInBounds]
        by_cases hq : i < a.tmps.size <;> simp [hq, undef]
      rw [e]
      exact SVRep_tup0
    · rw [upd_ne _ _ _ _ hi]
      have := h.slot i
      have e : (a.put (some d) undef).tmps.getD i undef = a.tmps.getD i undef := by simp [Act.put, Array.getElem?_setIfInBounds_ne (Ne.symm hi)]
      rw [e]
      exact this
theorem sim_yield (h : Sim cx S a w) {ops : Array Oper} {j t : Nat} {b : Bool} (ht : slotOf ops j = some t) (hb : S.F t = .dv (.bool b)) : yielded ops a.tmps j = some b := by
  obtain ⟨μ, h⟩ := h
  have := h.slot t
  rw [hb] at this
  simp only [SVRep] at this
  generalize hv : a.tmps.getD t undef = v at this
  cases this
  unfold yielded
  unfold slotOf at ht
  rw [ht]
  have hv' : a.tmps[t]?.getD undef = .bool b := by simpa using hv
  cases hq : a.tmps[t]? with
  | none => rw [hq] at hv'; simp [undef] at hv'
  | some u =>
    rw [hq] at hv'
    simp only [Option.getD_some] at hv'
    subst hv'
    simp [hq]
theorem sim_yield0 (h : Sim cx S a w) {ops : Array Oper} {j t : Nat} (ht : slotOf ops j = some t) (hb : S.F t = .tup []) : yielded ops a.tmps j = none := by
  obtain ⟨μ, h⟩ := h
  have := h.slot t
  rw [hb] at this
  generalize hv : a.tmps.getD t undef = v at this
  obtain ⟨vs, hvs⟩ := SVRep_tup_inv this
  subst hvs
  unfold yielded
  unfold slotOf at ht
  rw [ht]
  have hv' : a.tmps[t]?.getD undef = .tuple vs := by simpa using hv
  cases hq : a.tmps[t]? with
  | none => simp [hq]
  | some u =>
    rw [hq] at hv'
    simp only [Option.getD_some] at hv'
    subst hv'
    simp [hq]
theorem gstep_cases {ops : Array Oper} (hg : cx.Good) (h : Sim cx S a w) (hs : GStep cx ops S o S') :
    (Region.wanted o (yielded ops a.tmps) = true ∧ Does cx S' o a w) ∨ (Region.wanted o (yielded ops a.tmps) = false ∧ Sim cx S' (a.put o.dst undef) w) := by
  unfold GStep at hs
  split at hs
  · rename_i hgd
    exact .inl ⟨by simp [Region.wanted, hgd], hs.does hg h⟩
  · rename_i j want hgd
    obtain ⟨t, h1, ⟨h2, h3⟩ | ⟨h2, h3⟩⟩ := hs
    · have hy := sim_yield h h1 h2
      exact .inl ⟨by simp [Region.wanted, hgd, hy], h3.does hg h⟩
    · subst h3
      refine .inr ⟨?_, h.skip _⟩
      generalize hs : S.F t = sv at h2
      cases h2 with
      | off => have hy := sim_yield h h1 hs; cases want <;> simp [Region.wanted, hgd, hy]
      | undef => have hy := sim_yield0 h h1 hs; simp [Region.wanted, hgd, hy]
def Cx.fence (cx : Cx) : Fence := { Fence.wide with round := cx.rnd }
theorem callsIn_fence {n : Nat} {P : Program} {f : FuncId} {args : Array Value} {R : Ending → World → Prop} (h : Calls P f args w R) : CallsIn cx.fence n P f args w R := (callsIn_wide (n := n)).2 h
theorem rows_in {P : Program} {row : String} {args : Array Value} {R : Value → World → Prop} {n : Nat} (h : Rows P row args w R) : RowsIn Fence.wide n P row args w R :=
  fun c cs _ => let ⟨v, w', r, s⟩ := h c cs; ⟨v, w', r, stepsIn_wide.2 s⟩
theorem rowsIn_fence {n : Nat} {P : Program} {row : String} {args : Array Value} {R : Value → World → Prop} (h : Rows P row args w R) : RowsIn cx.fence n P row args w R := rows_in (n := n) h
theorem uponIn_of_upon {n : Nat} {next : Act → World → Prop} {Q : Exit → Act → World → Prop} {r : Result Next} (h : o.upon cx.P a next Q r) : o.uponIn cx.fence n cx.P a next Q r := by
  cases r with
  | ok x w' =>
    cases x <;> simp only [Oper.upon, Oper.uponIn] at h ⊢ <;>
      first
        | exact h
        | exact ⟨fun hd => by simp [Cx.fence, Fence.wide] at hd, callsIn_fence h⟩
        | exact ⟨fun hd => by simp [Cx.fence, Fence.wide] at hd, rowsIn_fence h⟩
  | halt x w' => cases x <;> simp only [Oper.upon, Oper.uponIn] at h ⊢ <;> exact h
theorem Does.notDefer (h : Sim cx S a w) (hd : Does cx S' o a w) : ∀ c, o.op ≠ .defer c := by
  intro c hc
  have h1 := hd (fun _ _ _ => False)
  unfold Oper.wp at h1
  have he : execOp a.eval o = (do pure (.defer (← resolve a.eval c o.type)) : Sem Next) := by unfold execOp; rw [hc]
  rw [he, Sem.run_bind] at h1
  cases hr : (resolve a.eval c o.type).run cx.P w with
  | ok d w' =>
    rw [hr] at h1
    simp only [Result.andThen, Sem.run_pure, Oper.upon] at h1
    obtain ⟨μ', h2⟩ := h1
    obtain ⟨μ, h⟩ := h
    have e1 := h2.defers
    have e2 := h.defers
    have e3 : ({ a with defers := d :: a.defers } : Act).defers = cx.dq := by rw [← e1]; cases o.dst <;> rfl
    rw [← e2] at e3
    have := congrArg List.length e3
    simp at this
  | halt x w' =>
    rw [hr] at h1
    cases x <;> simp [Result.andThen, Oper.upon] at h1
theorem Does.wpIn (h : Sim cx S a w) (hd : Does cx S' o a w) (n : Nat) (Q : Exit → Act → World → Prop) : o.wpIn cx.fence n cx.P a w (fun a' w' => Sim cx S' a' w') Q := by
  refine ⟨fun _ _ => trivial, ?_⟩
  rw [Oper.semAt_eq _ _ _ (hd.notDefer h)]
  exact uponIn_of_upon (hd Q)
theorem chain_wp (hg : cx.Good) {ops : Array Oper} {K : St → Prop} {Q : Exit → Act → World → Prop} {n : Nat} (hK : ∀ S a w, Sim cx S a w → K S → Q .normal a w) :
    ∀ (l : List Oper) (S : St) (a : Act) (w : World), Sim cx S a w → Chain cx ops l S K → wpListIn cx.fence n cx.P ops Q l a w
  | [], S, a, w, h, hc => hK S a w h hc
  | o :: l, S, a, w, h, hc => by
    obtain ⟨S', hs, hc⟩ := hc
    unfold wpListIn
    rcases gstep_cases hg h hs with ⟨h1, h2⟩ | ⟨h1, h2⟩
    · rw [if_pos h1]
      refine Oper.wpIn_mono (fun a' w' h' => ?_) (h2.wpIn h n Q)
      exact chain_wp hg hK l S' a' w' h' hc
    · rw [if_neg (by simp [h1])]
      exact ⟨fun _ _ => trivial, chain_wp hg hK l S' _ w h2 hc⟩
end
end Go.Ab
