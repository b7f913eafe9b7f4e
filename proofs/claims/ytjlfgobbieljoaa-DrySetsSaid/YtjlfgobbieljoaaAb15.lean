/- The abstract layer, part 15: calls: what a callee hands back, and how it comes into the caller's state. -/
import Derived.Test.YtjlfgobbieljoaaAb14
namespace Go.Ab
open Go.RowKit

/-- One result: a datum, or a row of the callee's making that the caller may write. -/
inductive R1 where
  | dv (d : DV)
  | row (esz : Nat) (elem : TypeId) (n : Nat) (cs : List DV)
inductive Res where
  | one (r : R1)
  | many (rs : List R1)

def R1Rep (B : Nat) (w : World) (Y : Nat → Prop) (r : R1) (v : Value) (ob : Option (Nat × Nat)) : Prop :=
  match r with
  | .dv d => ob = none ∧ RepD w Y d v
  | .row esz elem n cs => (∀ c ∈ cs, Scalar c) ∧ cs.length = n * esz ∧ match ob with
    | none => v = .slice none 0 0 ∧ n = 0
    | some (b, cap) => B ≤ b ∧ b < w.heap.size ∧ v = .slice (some ⟨b, 0, none⟩) n cap ∧ n ≤ cap ∧
        ∃ cur, w.heap[b]? = some (.cells cur elem (0, 0)) ∧ cur.size = cap * esz ∧ cap ≤ maxLen ∧ cs.length ≤ cur.size ∧
          ∀ (j : Nat) c u, cs[j]? = some c → cur[j]? = some u → RepD w (fun _ => False) c u

/-- The results of a list, their own blocks, all apart. -/
def R1Reps (B : Nat) (w : World) (Y : Nat → Prop) : List R1 → List Value → List (Option (Nat × Nat)) → Prop
  | [], [], [] => True
  | r :: rs, v :: vs, ob :: obs => R1Rep B w Y r v ob ∧ R1Reps B w Y rs vs obs
  | _, _, _ => False

def usedBy (obs : List (Option (Nat × Nat))) (b : Nat) : Prop := ∃ cap, some (b, cap) ∈ obs

def ResRep (B : Nat) (w : World) (Y : Nat → Prop) (res : Res) (v : Value) : Prop :=
  match res with
  | .one r => ∃ ob, R1Rep B w (fun b => Y b ∨ usedBy [ob] b) r v ob
  | .many rs => ∃ (vs : List Value) (obs : List (Option (Nat × Nat))), v = .tuple vs.toArray ∧ R1Reps B w (fun b => Y b ∨ usedBy obs b) rs vs obs ∧
      obs.Pairwise fun x y => ∀ b c c', x = some (b, c) → y ≠ some (b, c')

/-- The arguments read as the data. -/
def Args (w : World) (X : Nat → Prop) (ds : List DV) (vs : Array Value) : Prop :=
  vs.size = ds.length ∧ ∀ (j : Nat) d, ds[j]? = some d → RepD w X d (vs.getD j undef)

/-- A function of the program with a body. -/
def EnterP (P : Program) (f : FuncId) : Prop := ∃ fn, P.funcs[f]? = some fn ∧ (fn.name == "runtime.NumGoroutine") = false ∧ fn.body.isNone = false

/-- Called with these data: it returns this; what was there stays; the result lies in new memory. -/
def ACallsF (P : Program) (f : FuncId) (ds : List DV) (res : Res) : Prop :=
  EnterP P f ∧ ∀ (w : World) (vs : Array Value), Args w (fun _ => False) ds vs →
    Calls P f vs w fun e w' => ∃ v, e = .returned v ∧ Below w.heap.size w w' ∧ ResRep w.heap.size w' (fun b => b < w.heap.size) res v

/-- The same; the result may share the arguments' memory. -/
def ACalls (P : Program) (f : FuncId) (ds : List DV) (res : Res) : Prop :=
  EnterP P f ∧ ∀ (w : World) (X : Nat → Prop) (vs : Array Value), (∀ b, X b → b < w.heap.size) → Args w X ds vs →
    Calls P f vs w fun e w' => ∃ v, e = .returned v ∧ Below w.heap.size w w' ∧ ResRep w.heap.size w' X res v

theorem R1Rep.weaken {B : Nat} {w : World} {Y Y' : Nat → Prop} (hY : ∀ b, Y' b → Y b) {r : R1} {v : Value} {ob : Option (Nat × Nat)} (h : R1Rep B w Y r v ob) : R1Rep B w Y' r v ob := by
  cases r with
  | dv d => exact ⟨h.1, h.2.weaken hY⟩
  | row esz elem n cs => exact h

theorem R1Reps.weaken {B : Nat} {w : World} {Y Y' : Nat → Prop} (hY : ∀ b, Y' b → Y b) : ∀ {rs : List R1} {vs : List Value} {obs : List (Option (Nat × Nat))}, R1Reps B w Y rs vs obs → R1Reps B w Y' rs vs obs
  | [], [], [], _ => trivial
  | _ :: _, _ :: _, _ :: _, h => ⟨h.1.weaken hY, R1Reps.weaken hY h.2⟩
  | [], [], _ :: _, h => h.elim
  | [], _ :: _, _, h => by cases h
  | _ :: _, [], _, h => by cases h
  | _ :: _, _ :: _, [], h => by cases h

theorem ResRep.weaken {B : Nat} {w : World} {Y Y' : Nat → Prop} (hY : ∀ b, Y' b → Y b) {res : Res} {v : Value} (h : ResRep B w Y res v) : ResRep B w Y' res v := by
  cases res with
  | one r =>
    obtain ⟨ob, h⟩ := h
    exact ⟨ob, h.weaken fun b hb => hb.imp (hY b) id⟩
  | many rs =>
    obtain ⟨vs, obs, h1, h2, h3⟩ := h
    exact ⟨vs, obs, h1, h2.weaken fun b hb => hb.imp (hY b) id, h3⟩

theorem Args.weaken {w : World} {X X' : Nat → Prop} (hX : ∀ b, X' b → X b) {ds : List DV} {vs : Array Value} (h : Args w X ds vs) : Args w X' ds vs :=
  ⟨h.1, fun j d hj => (h.2 j d hj).weaken hX⟩

theorem ACallsF.alias {P : Program} {f : FuncId} {ds : List DV} {res : Res} (h : ACallsF P f ds res) : ACalls P f ds res := by
  refine ⟨h.1, ?_⟩
  intro w X vs hX hA
  refine (h.2 w vs (hA.weaken fun b hb => hb.elim)).mono fun e w' ⟨v, h1, h2, h3⟩ => ⟨v, h1, h2, h3.weaken hX⟩

/-- The results in the caller's state: at the tags d, d + 1000, .. -/
def impSV (d : Nat) : Nat → List R1 → (Nat → Nat × Option Blk) → List SV × (Nat → Nat × Option Blk)
  | _, [], M => ([], M)
  | j, .dv x :: rs, M => let r := impSV d (j + 1) rs M; (.dv x :: r.1, r.2)
  | j, .row esz elem n cs :: rs, M =>
    let t := d + 1000 * j
    let r := impSV d (j + 1) rs (upd M t ((M t).1 + 1, some ⟨cs.map .dv, esz, elem, 0, true⟩))
    (.sl t ((M t).1 + 1) 0 n :: r.1, r.2)

def impRes (d : Nat) (M : Nat → Nat × Option Blk) : Res → SV × (Nat → Nat × Option Blk)
  | .one r => let p := impSV d 0 [r] M; (p.1.getD 0 .dead, p.2)
  | .many rs => let p := impSV d 0 rs M; (.tup p.1, p.2)

/-- With a set of blocks that no datum lies in. -/
def Cx.res (cx : Cx) (R : Nat → Prop) : Cx := { cx with X0 := fun b => cx.X0 b ∨ R b }

theorem SimU.reserve {cx : Cx} {S : St} {a : Act} {w w' : World} {μ : Nat → Option (Nat × Nat)} (h : SimU cx S a w μ) (hb : Below w.heap.size w w') : SimU (cx.res fun b => w.heap.size ≤ b) S a w' μ := by
  have hk : ∀ b, b < w.heap.size → ¬ XX cx S.M μ b → w'.heap[b]? = w.heap[b]? ∧ ¬ XX (cx.res fun b => w.heap.size ≤ b) S.M μ b := fun b hlt hx => ⟨hb.block b hlt, fun ho => by
    rcases ho with h1 | h1 | h1
    · exact hx (.inl h1)
    · exact hx (.inr h1)
    · omega⟩
  have hB : ∀ t g blk', S.M t = (g, some blk') → g ≤ (S.M t).1 → ∃ blk, S.M t = (g, some blk) ∧ μ t = μ t ∧ blk'.esz = blk.esz := fun t g blk' e _ => ⟨blk', e, rfl, rfl⟩
  exact {
    blk := fun t g blk e => (h.blk t g blk e).mono (st := blk.st) hb.size hk (fun _ => Nat.le_refl _) hB rfl (fun b cap hm => hb.block b (h.place t g blk b cap e hm).2)
    slot := fun i => SVRep.mono hb.size hk (fun _ => Nat.le_refl _) hB _ _ (h.slot i)
    place := fun t g blk b cap e hm => ⟨(h.place t g blk b cap e hm).1, Nat.lt_of_lt_of_le (h.place t g blk b cap e hm).2 hb.size⟩
    uniq := h.uniq
    anc := h.anc
    below := h.below.then (Wr' := fun _ => False) ⟨hb.os, hb.tape, hb.output, hb.size, fun k hk _ => hb.block k hk⟩ (fun _ _ _ h => h)
    size := h.size
    defers := h.defers }

theorem SimU.release {cx : Cx} {R : Nat → Prop} {S : St} {a : Act} {w : World} {μ : Nat → Option (Nat × Nat)} (h : SimU (cx.res R) S a w μ) : SimU cx S a w μ := by
  have hk : ∀ b, b < w.heap.size → ¬ XX (cx.res R) S.M μ b → w.heap[b]? = w.heap[b]? ∧ ¬ XX cx S.M μ b := fun b _ hx => ⟨rfl, fun ho => hx (ho.imp id .inl)⟩
  have hB : ∀ t g blk', S.M t = (g, some blk') → g ≤ (S.M t).1 → ∃ blk, S.M t = (g, some blk) ∧ μ t = μ t ∧ blk'.esz = blk.esz := fun t g blk' e _ => ⟨blk', e, rfl, rfl⟩
  exact {
    blk := fun t g blk e => (h.blk t g blk e).mono (st := blk.st) (Nat.le_refl _) hk (fun _ => Nat.le_refl _) hB rfl (fun _ _ _ => rfl)
    slot := fun i => SVRep.mono (Nat.le_refl _) hk (fun _ => Nat.le_refl _) hB _ _ (h.slot i)
    place := h.place
    uniq := h.uniq
    anc := h.anc
    below := h.below
    size := h.size
    defers := h.defers }

/-- A row that lies in a reserved block becomes the call's own. -/
theorem SimU.adopt {cx : Cx} {S : St} {a : Act} {w : World} {μ : Nat → Option (Nat × Nat)} (h : SimU cx S a w μ) (t : Nat) (blk : Blk) (cur : Array Value) (b cap : Nat) (hrow : blk.row = true) (hst3 : blk.st < 3)
    (hX : cx.X0 b) (hb0 : cx.w0.heap.size ≤ b) (hb : b < w.heap.size) (hne : ∀ t g blk b' cap', S.M t = (g, some blk) → μ t = some (b', cap') → b' ≠ b) (hh : w.heap[b]? = some (.cells cur blk.elem (0, 0)))
    (hlen : blk.cells.length ≤ cur.size) (hc : ∀ (j : Nat) c u, blk.cells[j]? = some c → cur[j]? = some u → SVRep w S.M μ (XX cx S.M μ) c u)
    (hsz : cur.size = cap * blk.esz ∧ cap ≤ maxLen) :
    SimU cx { S with M := upd S.M t ((S.M t).1 + 1, some blk) } a w (upd μ t (some (b, cap))) := by
  have hown : ∀ b', Own (upd S.M t ((S.M t).1 + 1, some blk)) (upd μ t (some (b, cap))) b' → XX cx S.M μ b' := by
    rintro b' ⟨t', g', blk', cap', e1, e2, e3⟩
    by_cases ht : t' = t
    · subst ht
      rw [upd_same] at e3
      simp only [Option.some.injEq, Prod.mk.injEq] at e3
      exact .inr (e3.1 ▸ hX)
    · rw [upd_ne _ _ _ _ ht] at e1 e3
      exact .inl ⟨t', g', blk', cap', e1, e2, e3⟩
  have hk : ∀ b', b' < w.heap.size → ¬ XX cx S.M μ b' → w.heap[b']? = w.heap[b']? ∧ ¬ XX cx (upd S.M t ((S.M t).1 + 1, some blk)) (upd μ t (some (b, cap))) b' :=
    fun b' _ hx => ⟨rfl, fun ho => ho.elim (fun h1 => hx (hown b' h1)) (fun h1 => hx (.inr h1))⟩
  have hM : ∀ t', (S.M t').1 ≤ (upd S.M t ((S.M t).1 + 1, some blk) t').1 := fun t' => by
    by_cases ht : t' = t
    · subst ht; rw [upd_same]; exact Nat.le_succ _
    · rw [upd_ne _ _ _ _ ht]; exact Nat.le_refl _
  have hB : ∀ t' g blk', upd S.M t ((S.M t).1 + 1, some blk) t' = (g, some blk') → g ≤ (S.M t').1 →
      ∃ blk, S.M t' = (g, some blk) ∧ upd μ t (some (b, cap)) t' = μ t' ∧ blk'.esz = blk.esz := fun t' g blk' e hg => by
    by_cases ht : t' = t
    · subst ht; rw [upd_same] at e; simp at e; omega
    · rw [upd_ne _ _ _ _ ht] at e ⊢; exact ⟨blk', e, rfl, rfl⟩
  refine { blk := ?_, slot := ?_, place := ?_, uniq := ?_, anc := ?anc, below := h.below, size := h.size, defers := h.defers }
  case anc =>
    intro t' g' blk' e h3
    by_cases ht : t' = t
    · subst ht
      simp only [upd_same, Prod.mk.injEq, Option.some.injEq] at e
      obtain ⟨_, rfl⟩ := e
      omega
    · show upd μ t _ t' = _
      rw [upd_ne _ _ _ _ ht]
      simp only [upd_ne _ _ _ _ ht] at e
      exact h.anc t' g' blk' e h3
  · intro t' g blk' e
    by_cases ht : t' = t
    · subst ht
      simp only [upd_same, Prod.mk.injEq, Option.some.injEq] at e
      obtain ⟨_, rfl⟩ := e
      unfold BlkRep
      rw [upd_same]
      refine ⟨cur, hh, hlen, fun j c u hj hu => ?_, fun _ => hsz, fun hf => by rw [hrow] at hf; cases hf⟩
      exact SVRep.mono (Nat.le_refl _) hk hM hB c u (hc j c u hj hu)
    · have e' := e
      simp only [upd_ne _ _ _ _ ht] at e'
      exact (h.blk t' g blk' e').mono (st := blk'.st) (Nat.le_refl _) hk hM hB (upd_ne _ _ _ _ ht) (fun _ _ _ => rfl)
  · exact fun i => SVRep.mono (Nat.le_refl _) hk hM hB _ _ (h.slot i)
  · intro t' g blk' b' cap' e hm
    by_cases ht : t' = t
    · subst ht
      rw [upd_same] at hm
      simp only [Option.some.injEq, Prod.mk.injEq] at hm
      obtain ⟨rfl, rfl⟩ := hm
      exact ⟨.inl hb0, hb⟩
    · simp only [upd_ne _ _ _ _ ht] at e hm
      exact h.place t' g blk' b' cap' e hm
  · intro t1 g1 b1 t2 g2 b2 b' c1 c2 hne' e1 e2 s1 m1 m2
    by_cases h1 : t1 = t
    · subst h1
      have h2 : t2 ≠ t1 := Ne.symm hne'
      rw [upd_same] at m1
      simp only [Option.some.injEq, Prod.mk.injEq] at m1
      simp only [upd_ne _ _ _ _ h2] at e2 m2
      exact absurd m1.1.symm (hne t2 g2 b2 b' c2 e2 m2)
    · by_cases h2 : t2 = t
      · subst h2
        simp only [upd_ne _ _ _ _ h1] at e1 m1
        rw [upd_same] at m2
        simp only [Option.some.injEq, Prod.mk.injEq] at m2
        exact absurd m2.1.symm (hne t1 g1 b1 b' c1 e1 m1)
      · simp only [upd_ne _ _ _ _ h1] at e1 m1
        simp only [upd_ne _ _ _ _ h2] at e2 m2
        exact h.uniq t1 g1 b1 t2 g2 b2 b' c1 c2 hne' e1 e2 s1 m1 m2

theorem imp_sim {cx : Cx} {a : Act} {w : World} {B : Nat} {Y : Nat → Prop} (hBB : cx.w0.heap.size ≤ B) (hres : ∀ b, B ≤ b → cx.X0 b) (d : Nat) :
    ∀ (rs : List R1) (vs : List Value) (obs : List (Option (Nat × Nat))) (j : Nat) (S : St) (μ : Nat → Option (Nat × Nat)), SimU cx S a w μ →
    R1Reps B w Y rs vs obs → (obs.Pairwise fun x y => ∀ b c c', x = some (b, c) → y ≠ some (b, c')) →
    (∀ b, Own S.M μ b → Y b ∨ B ≤ b) → 
    (∀ t g blk b cap, S.M t = (g, some blk) → μ t = some (b, cap) → ∀ c, some (b, c) ∉ obs) →
    ∃ μ', SimU cx ⟨S.F, (impSV d j rs S.M).2⟩ a w μ' ∧ (∀ c v, SVRep w S.M μ (XX cx S.M μ) c v → SVRep w (impSV d j rs S.M).2 μ' (XX cx (impSV d j rs S.M).2 μ') c v) ∧
      (∀ b, Own (impSV d j rs S.M).2 μ' b → Own S.M μ b ∨ usedBy obs b) ∧
      (∀ (i : Nat) r v c, rs[i]? = some r → vs[i]? = some v → (impSV d j rs S.M).1[i]? = some c → (∀ x, r ≠ .dv x) → SVRep w (impSV d j rs S.M).2 μ' (XX cx (impSV d j rs S.M).2 μ') c v) ∧
      (∀ (i : Nat) x, rs[i]? = some (.dv x) → (impSV d j rs S.M).1[i]? = some (.dv x))
  | [], [], [], j, S, μ, h, _, _, _, _ => by
    refine ⟨μ, h, fun c v hh => hh, fun b hb => .inl hb, fun i r v c hr => by simp at hr, fun i x hr => by simp at hr⟩
  | .dv x :: rs, v :: vs, ob :: obs, j, S, μ, h, hR, hP, hO, hD => by
    obtain ⟨μ', i1, i2, i3, i4, i5⟩ := imp_sim hBB hres d rs vs obs (j + 1) S μ h hR.2 (List.pairwise_cons.1 hP).2 hO (fun t g blk b cap e hm c hc => hD t g blk b cap e hm c (List.mem_cons_of_mem _ hc))
    refine ⟨μ', i1, i2, fun b hb => (i3 b hb).imp id (fun ⟨c, hc⟩ => ⟨c, List.mem_cons_of_mem _ hc⟩), ?_, ?_⟩
    · intro i r v' c hr hv hc hx
      cases i with
      | zero => simp only [List.getElem?_cons_zero, Option.some.injEq] at hr; exact absurd hr.symm (hx x)
      | succ i => exact i4 i r v' c (by simpa using hr) (by simpa using hv) (by simpa [impSV] using hc) hx
    · intro i y hr
      cases i with
      | zero => simp only [List.getElem?_cons_zero, Option.some.injEq, R1.dv.injEq] at hr; subst hr; simp [impSV]
      | succ i => simpa [impSV] using i5 i y (by simpa using hr)
  | .row esz elem n cs :: rs, v :: vs, ob :: obs, j, S, μ, h, hR, hP, hO, hD => by
    obtain ⟨⟨hsc, hlen, hob⟩, hR2⟩ := hR
    obtain ⟨hP1, hP2⟩ := List.pairwise_cons.1 hP
    let t := d + 1000 * j
    have step : ∃ μ1, SimU cx ⟨S.F, upd S.M t ((S.M t).1 + 1, some ⟨cs.map .dv, esz, elem, 0, true⟩)⟩ a w μ1 ∧ (∀ t', t' ≠ t → μ1 t' = μ t') ∧
        SVRep w (upd S.M t ((S.M t).1 + 1, some ⟨cs.map .dv, esz, elem, 0, true⟩)) μ1 (XX cx (upd S.M t ((S.M t).1 + 1, some ⟨cs.map .dv, esz, elem, 0, true⟩)) μ1) (.sl t ((S.M t).1 + 1) 0 n) v ∧
        (∀ b cap, μ1 t = some (b, cap) → ob = some (b, cap)) := by
      cases ob with
      | none =>
        obtain ⟨rfl, rfl⟩ := hob
        have hcs : cs = [] := List.eq_nil_of_length_eq_zero (by simpa using hlen)
        subst hcs
        refine ⟨upd μ t none, h.virt t esz elem, fun t' ht => upd_ne _ _ _ _ ht, ?_, fun b cap hm => by rw [upd_same] at hm; cases hm⟩
        simp only [SVRep]
        refine ⟨⟨rfl, by rw [upd_same]; exact Nat.le_refl _⟩, fun blk' e' => ?_⟩
        rw [upd_same]
        exact ⟨trivial, trivial, trivial⟩
      | some p =>
        obtain ⟨b, cap⟩ := p
        obtain ⟨q1, q2, rfl, q3, cur, q4, q5, q6, q7, q8⟩ := hob
        refine ⟨upd μ t (some (b, cap)), h.adopt t ⟨cs.map .dv, esz, elem, 0, true⟩ cur b cap rfl (by simp) (hres b q1) (by omega) q2 (fun t' g blk b' cap' e hm hbb => hD t' g blk b' cap' e hm cap (by rw [hbb]; simp)) q4 (by simpa using q7)
          (fun i c u hc hu => ?_) ⟨q5, q6⟩, fun t' ht => upd_ne _ _ _ _ ht, ?_, fun b' cap' hm => by rw [upd_same] at hm; exact hm⟩
        · simp only [List.getElem?_map, Option.map_eq_some_iff] at hc
          obtain ⟨x, hx, rfl⟩ := hc
          simp only [SVRep]
          exact (hsc x (List.mem_of_getElem? hx)).rep (q8 i x u hx hu)
        · simp only [SVRep]
          refine ⟨⟨rfl, by rw [upd_same]; exact Nat.le_refl _⟩, fun blk' e' => ?_⟩
          rw [upd_same]
          simp [q3]
    obtain ⟨μ1, s1, s2, s3, s4⟩ := step
    have hkeep : ∀ c v', SVRep w S.M μ (XX cx S.M μ) c v' → SVRep w (upd S.M t ((S.M t).1 + 1, some ⟨cs.map .dv, esz, elem, 0, true⟩)) μ1 (XX cx (upd S.M t ((S.M t).1 + 1, some ⟨cs.map .dv, esz, elem, 0, true⟩)) μ1) c v' := by
      intro c v' hh
      refine SVRep.mono (Nat.le_refl _) (fun b _ hx => ⟨rfl, fun ho => ?_⟩) (fun t' => ?_) (fun t' g blk' e hg => ?_) c v' hh
      · rcases ho with ⟨t', g', blk', cap', e1, e2, e3⟩ | ho
        · by_cases ht : t' = t
          · subst ht
            have hq := s4 b cap' e3
            subst hq
            exact hx (.inr (hres b hob.1))
          · rw [upd_ne _ _ _ _ ht] at e1
            rw [s2 t' ht] at e3
            exact hx (.inl ⟨t', g', blk', cap', e1, e2, e3⟩)
        · exact hx (.inr ho)
      · by_cases ht : t' = t
        · subst ht; rw [upd_same]; exact Nat.le_succ _
        · rw [upd_ne _ _ _ _ ht]; exact Nat.le_refl _
      · by_cases ht : t' = t
        · subst ht; rw [upd_same] at e; simp at e; omega
        · rw [upd_ne _ _ _ _ ht] at e; exact ⟨blk', e, s2 t' ht, rfl⟩
    obtain ⟨μ', i1, i2, i3, i4, i5⟩ := imp_sim hBB hres d rs vs obs (j + 1) ⟨S.F, upd S.M t ((S.M t).1 + 1, some ⟨cs.map .dv, esz, elem, 0, true⟩)⟩ μ1 s1 hR2 hP2
      (by
        rintro b ⟨t', g', blk', cap', e1, e2, e3⟩
        by_cases ht : t' = t
        · subst ht
          have hq := s4 b cap' e3
          subst hq
          exact .inr hob.1
        · simp only [upd_ne _ _ _ _ ht] at e1
          rw [s2 t' ht] at e3
          exact hO b ⟨t', g', blk', cap', e1, e2, e3⟩)
      (by
        intro t' g blk b cap e hm c hc
        by_cases ht : t' = t
        · subst ht
          have hq := s4 b cap hm
          exact hP1 _ hc b cap c hq rfl
        · simp only [upd_ne _ _ _ _ ht] at e
          rw [s2 t' ht] at hm
          exact hD t' g blk b cap e hm c (List.mem_cons_of_mem _ hc))
    refine ⟨μ', i1, fun c v' hh => i2 c v' (hkeep c v' hh), ?_, ?_, ?_⟩
    · intro b hb
      rcases i3 b hb with ⟨t', g', blk', cap', e1, e2, e3⟩ | ⟨c, hc⟩
      · by_cases ht : t' = t
        · subst ht
          exact .inr ⟨cap', by rw [← s4 b cap' e3]; simp⟩
        · simp only [upd_ne _ _ _ _ ht] at e1
          rw [s2 t' ht] at e3
          exact .inl ⟨t', g', blk', cap', e1, e2, e3⟩
      · exact .inr ⟨c, List.mem_cons_of_mem _ hc⟩
    · intro i r v' c hr hv hc hx
      cases i with
      | zero =>
        simp only [List.getElem?_cons_zero, Option.some.injEq] at hv
        subst hv
        simp only [impSV, List.getElem?_cons_zero, Option.some.injEq] at hc
        subst hc
        exact i2 _ _ s3
      | succ i => exact i4 i r v' c (by simpa using hr) (by simpa using hv) (by simpa [impSV] using hc) hx
    · intro i y hr
      cases i with
      | zero => simp at hr
      | succ i => simpa [impSV] using i5 i y (by simpa using hr)
  | [], [], _ :: _, _, _, _, _, hR, _, _, _ => hR.elim
  | [], _ :: _, _, _, _, _, _, hR, _, _, _ => by cases hR
  | _ :: _, [], _, _, _, _, _, hR, _, _, _ => by cases hR
  | _ :: _, _ :: _, [], _, _, _, _, hR, _, _, _ => by cases hR

end Go.Ab
