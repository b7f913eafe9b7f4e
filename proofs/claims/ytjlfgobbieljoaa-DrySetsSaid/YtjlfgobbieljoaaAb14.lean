/- The abstract layer, part 14: lengths, conversions, function values, small builtins. -/
import Derived.Test.YtjlfgobbieljoaaAb13
namespace Go.Ab
open Go.RowKit

section
variable {cx : Cx} {S S' : St} {a : Act} {w : World} {μ : Nat → Option (Nat × Nat)} {o : Oper}

def lenSV (P : Program) (t : TypeId) (x : SV × Option Blk) : Option SV :=
  match x with
  | (.dv (.list l), _) => if isSliceP P t then some (.dv (.int .i64 l.length)) else none
  | (.nils, _) => if isSliceP P t then some (.dv (.int .i64 0)) else none
  | (.emp _, _) => if isSliceP P t then some (.dv (.int .i64 0)) else none
  | (.sl _ _ _ n, some _) => if isSliceP P t then some (.dv (.int .i64 n)) else none
  | (.dv (.str s), _) => if isStrP P t then some (.dv (.int .i64 s.size)) else none
  | _ => none

theorem builtin_exec {P : Program} {b : Builtin} {args : Array Operand} {ts : Array TypeId} (ho : o.op = .call { callee := .builtin b, args := args, argTypes := ts }) {v w'}
    (h : (builtin b ts o.type (args.map fun | .const _ => true | _ => false) (args.map a.eval)).run P w = .ok (.value v) w') : (execOp a.eval o).run P w = .ok (.value v) w' := by
  unfold execOp
  simp only [ho, resolve, invoke, Sem.run_bind, Sem.run_pure, Result.andThen_ok]
  exact h

theorem len_runs (h : SimU cx S a w μ) {t : TypeId} {x : Operand} (ho : o.op = .call { callee := .builtin .len, args := #[x], argTypes := #[t] }) {r : SV} (hr : lenSV cx.P t (S.look x) = some r)
    (ha : S.apply cx.n o.dst (.val r) = some S') : Runs cx S' o a w := by
  have hx := h.ev x
  unfold lenSV at hr
  generalize hlk : S.look x = lx at hr
  have fin : ∀ {n : Nat}, r = .dv (.int .i64 n) → (Builtin.len_ #[t] o.type #[a.eval x]).run cx.P w = .ok (goInt n) w → Runs cx S' o a w := by
    intro n e hrun
    subst e
    refine runs_val h (v := .int .i64 n) (builtin_exec ho ?_) (by simp only [SVRep]; exact .int _ _) ha
    simp only [builtin, Sem.run_bind, List.map_toArray, List.map_cons, List.map_nil, hrun, Result.andThen_ok]
    rfl
  have sl : isSliceP cx.P t = true → ∀ (ad : Option Addr) (n c : Nat), a.eval x = .slice ad n c → (Builtin.len_ #[t] o.type #[a.eval x]).run cx.P w = .ok (goInt n) w := by
    intro hs ad n c hv
    unfold isSliceP at hs
    split at hs
    · rename_i e hu
      simp [Builtin.len_, hv, run_underlying hu]
    · cases hs
  split at hr
  · rename_i l q
    have ex : S.ev x = .dv (.list l) := congrArg Prod.fst hlk
    rw [ex] at hx
    simp only [SVRep] at hx
    split at hr
    · rename_i hs
      simp only [Option.some.injEq] at hr
      generalize hv : a.eval x = vx at *
      cases hx with
      | listNil ad cap => exact fin hr.symm (sl hs _ _ _ rfl)
      | list _ b off cap esz u h1 h2 hcap h3 h4 h5 => exact fin hr.symm (sl hs _ _ _ rfl)
    · cases hr
  · rename_i q
    have ex : S.ev x = .nils := congrArg Prod.fst hlk
    rw [ex] at hx
    simp only [SVRep] at hx
    split at hr
    · rename_i hs
      simp only [Option.some.injEq] at hr
      exact fin (n := 0) hr.symm (sl hs _ _ _ hx)
    · cases hr
  · rename_i b q
    have ex : S.ev x = .emp b := congrArg Prod.fst hlk
    rw [ex] at hx
    simp only [SVRep] at hx
    obtain ⟨ad, cap, hx, _⟩ := hx
    split at hr
    · rename_i hs
      simp only [Option.some.injEq] at hr
      exact fin (n := 0) hr.symm (sl hs _ _ _ hx)
    · cases hr
  · rename_i t' g k n blk
    have ex : S.ev x = .sl t' g k n := congrArg Prod.fst hlk
    have eb : blkOf S.M (S.ev x) = some blk := congrArg Prod.snd hlk
    rw [ex] at hx eb
    have hM := blkOf_sl eb
    simp only [SVRep] at hx
    have hx2 := hx.2 blk hM
    split at hr
    · rename_i hs
      simp only [Option.some.injEq] at hr
      cases hmu : μ t' with
      | none =>
        rw [hmu] at hx2
        simp only at hx2
        obtain ⟨hv, rfl, _⟩ := hx2
        exact fin hr.symm (sl hs _ _ _ hv)
      | some p =>
        obtain ⟨b, cap⟩ := p
        rw [hmu] at hx2
        simp only at hx2
        exact fin hr.symm (sl hs _ _ _ hx2.1)
    · cases hr
  · rename_i s q
    have ex : S.ev x = .dv (.str s) := congrArg Prod.fst hlk
    rw [ex] at hx
    simp only [SVRep] at hx
    split at hr
    · rename_i hs
      simp only [Option.some.injEq] at hr
      have hu : cx.P.underlying t = some .string := by
        unfold isStrP at hs
        split at hs
        · assumption
        · cases hs
      generalize hv : a.eval x = vx at *
      cases hx
      exact fin hr.symm (by simp [Builtin.len_, run_underlying hu])
    · cases hr
  · cases hr

/-- min, max of integers. -/
def minmaxSV (mx : Bool) : List SV → Option SV
  | [.dv (.int k x), .dv (.int _ y)] => some (.dv (.int k (if mx then (if y > x then y else x) else (if y < x then y else x))))
  | _ => none

theorem minmax_runs (h : SimU cx S a w μ) {x y : Operand} {ts : Array TypeId} {mx : Bool} (ho : o.op = .call { callee := .builtin (if mx then .max else .min), args := #[x, y], argTypes := ts }) {r : SV}
    (hr : minmaxSV mx [S.ev x, S.ev y] = some r) (ha : S.apply cx.n o.dst (.val r) = some S') : Runs cx S' o a w := by
  have hx := h.ev x
  have hy := h.ev y
  unfold minmaxSV at hr
  split at hr
  · rename_i k n k' m e
    simp only [List.cons.injEq, and_true] at e
    obtain ⟨e1, e2⟩ := e
    simp only [Option.some.injEq] at hr
    subst hr
    rw [e1] at hx
    rw [e2] at hy
    simp only [SVRep] at hx hy
    generalize hv : a.eval x = vx at *
    generalize hv2 : a.eval y = vy at *
    cases hx
    cases hy
    cases mx with
    | true =>
      simp only [if_true] at ho ⊢
      refine runs_val h (v := .int k (if m > n then m else n)) (builtin_exec ho ?_) (by simp only [SVRep]; exact .int _ _) ha
      simp [builtin, hv, hv2, Builtin.max_, Builtin.max2]
    | false =>
      simp only [Bool.false_eq_true, if_false] at ho ⊢
      refine runs_val h (v := .int k (if m < n then m else n)) (builtin_exec ho ?_) (by simp only [SVRep]; exact .int _ _) ha
      simp [builtin, hv, hv2, Builtin.min_, Builtin.min2]
  · cases hr

def convSV (P : Program) (src dst : TypeId) (x : SV) : Option SV :=
  match x, kindP P src, kindP P dst with
  | .dv (.int _ n), some _, some k => some (.dv (.int k (k.wrap n)))
  | _, _, _ => none

theorem kindP_spec {P : Program} {t : TypeId} {k : IntKind} (h : kindP P t = some k) : P.underlying t = some (.int k) := by
  unfold kindP at h
  split at h
  · simp only [Option.some.injEq] at h; subst h; assumption
  · cases h

theorem conv_runs (h : SimU cx S a w μ) {src dst : TypeId} {x : Operand} (ho : o.op = .convert src dst x) {r : SV} (hr : convSV cx.P src dst (S.ev x) = some r) (ha : S.apply cx.n o.dst (.val r) = some S') : Runs cx S' o a w := by
  have hx := h.ev x
  unfold convSV at hr
  split at hr
  · rename_i k n k1 k2 e1 e2 e3
    simp only [Option.some.injEq] at hr
    subst hr
    rw [e1] at hx
    simp only [SVRep] at hx
    generalize hv : a.eval x = vx at *
    cases hx
    refine runs_val h (v := .int k2 (k2.wrap n)) ?_ (by simp only [SVRep]; exact .int _ _) ha
    unfold execOp
    have : (convert src dst (.int k n)).run cx.P w = .ok (.int k2 (k2.wrap n)) w := by
      simp [convert, run_underlying (kindP_spec e2), run_underlying (kindP_spec e3), Conv.intToInt]
    simp only [ho, hv, Sem.run_bind, this, Result.andThen_ok]
    rfl
  · cases hr

def nilckSV (x : SV × Option Blk) : Option SV :=
  match x with
  | (.dv (.cptr cs), _) => some (.dv (.cptr cs))
  | (.dv (.fn f p c), _) => some (.dv (.fn f p c))
  | (.pt t g k, some _) => some (.pt t g k)
  | _ => none

theorem nilck_runs (h : SimU cx S a w μ) {x : Operand} (ho : o.op = .nilCheck x) {r : SV} (hr : nilckSV (S.look x) = some r) (ha : S.apply cx.n o.dst (.val r) = some S') : Runs cx S' o a w := by
  have hx := h.ev x
  unfold nilckSV at hr
  generalize hlk : S.look x = lx at hr
  have fin : r = S.ev x → (execOp a.eval o).run cx.P w = .ok (.value (a.eval x)) w → Runs cx S' o a w := fun e hrun => by
    subst e
    exact runs_val h hrun hx ha
  split at hr
  · rename_i cs q
    have ex : S.ev x = .dv (.cptr cs) := congrArg Prod.fst hlk
    simp only [Option.some.injEq] at hr
    refine fin (by rw [ex, hr]) ?_
    rw [ex] at hx
    simp only [SVRep] at hx
    unfold execOp
    generalize hv : a.eval x = vx at *
    cases hx
    simp only [ho, hv]
    rfl
  · rename_i f p c q
    have ex : S.ev x = .dv (.fn f p c) := congrArg Prod.fst hlk
    simp only [Option.some.injEq] at hr
    refine fin (by rw [ex, hr]) ?_
    rw [ex] at hx
    simp only [SVRep] at hx
    unfold execOp
    generalize hv : a.eval x = vx at *
    cases hx
    simp only [ho, hv]
    rfl
  · rename_i t g k blk
    have ex : S.ev x = .pt t g k := congrArg Prod.fst hlk
    have eb : blkOf S.M (S.ev x) = some blk := congrArg Prod.snd hlk
    simp only [Option.some.injEq] at hr
    refine fin (by rw [ex, hr]) ?_
    rw [ex] at hx eb
    have hM := blkOf_pt eb
    simp only [SVRep] at hx
    obtain ⟨b, cap, hm, hv⟩ := hx.2 blk hM
    unfold execOp
    simp only [ho, hv]
    rfl
  · cases hr

/-! function values -/
def frz (M : Nat → Nat × Option Blk) : List Nat → Option (Nat → Nat × Option Blk)
  | [] => some M
  | t :: ts => match M t with
    | (g, some b) => if OwS b.st ∨ b.st = 1 then frz (upd M t (g, some { b with st := 1 })) ts else none
    | _ => none

/-- What a function value captures: the datum, and the block that is frozen for it. -/
def capSV : SV × Option Blk → Option (DV × List Nat)
  | (.dv d, _) => some (d, [])
  | (.pt t _ k, some blk) => (allDv (blk.cells.drop k)).map fun ds => (.cptr ds, [t])
  | _ => none

def capsSV : List (SV × Option Blk) → Option (List DV × List Nat)
  | [] => some ([], [])
  | x :: r => match capSV x, capsSV r with
    | some (d, ts), some (ds, us) => some (d :: ds, ts ++ us)
    | _, _ => none

theorem frz_sim (h : SimU cx S a w μ) : ∀ (ts : List Nat) (M : Nat → Nat × Option Blk) (M' : Nat → Nat × Option Blk), SimU cx ⟨S.F, M⟩ a w μ → frz M ts = some M' → SimU cx ⟨S.F, M'⟩ a w μ
  | [], M, M', hM, hf => by simp only [frz, Option.some.injEq] at hf; subst hf; exact hM
  | t :: ts, M, M', hM, hf => by
    simp only [frz] at hf
    split at hf
    · rename_i g b e
      split at hf
      · rename_i hst
        exact frz_sim h ts _ M' (hM.lower (S := ⟨S.F, M⟩) e (st := 1) (by omega) hst) hf
      · cases hf
    · cases hf

theorem frz_get : ∀ (ts : List Nat) (M M' : Nat → Nat × Option Blk), frz M ts = some M' → ∀ t g blk, M t = (g, some blk) → ∃ st, M' t = (g, some { blk with st := st }) ∧ ((t ∈ ts ∨ blk.st = 1) → st = 1)
  | [], M, M', hf, t, g, blk, e => by
    simp only [frz, Option.some.injEq] at hf
    subst hf
    exact ⟨blk.st, e, fun h => by simpa using h⟩
  | u :: ts, M, M', hf, t, g, blk, e => by
    simp only [frz] at hf
    split at hf
    · rename_i g' b e'
      split at hf
      · by_cases hu : t = u
        · subst hu
          rw [e'] at e
          simp only [Prod.mk.injEq, Option.some.injEq] at e
          obtain ⟨rfl, rfl⟩ := e
          obtain ⟨st, h1, h2⟩ := frz_get ts _ M' hf t g' { b with st := 1 } (by rw [upd_same])
          exact ⟨st, h1, fun _ => h2 (.inr rfl)⟩
        · obtain ⟨st, h1, h2⟩ := frz_get ts _ M' hf t g blk (by rw [upd_ne _ _ _ _ hu]; exact e)
          exact ⟨st, h1, fun h => h2 (h.imp (fun hm => by simpa [hu] using hm) id)⟩
      · cases hf
    · cases hf

/-- Every slot value reads as it did, some blocks frozen. -/
theorem frz_rep {M M' : Nat → Nat × Option Blk} {ts : List Nat} (hf : frz M ts = some M') {c : SV} {v : Value} (h : SVRep w M μ (XX cx M μ) c v) : SVRep w M' μ (XX cx M' μ) c v := by
  have key : ∀ (ts : List Nat) (M M' : Nat → Nat × Option Blk), frz M ts = some M' → (∀ t, (M' t).1 = (M t).1) ∧ (∀ t g blk', M' t = (g, some blk') → ∃ blk, M t = (g, some blk) ∧ blk'.esz = blk.esz ∧ (OwS blk'.st → OwS blk.st)) := by
    intro ts
    induction ts with
    | nil =>
      intro M M' hf
      simp only [frz, Option.some.injEq] at hf
      subst hf
      exact ⟨fun _ => rfl, fun t g blk' e => ⟨blk', e, rfl, id⟩⟩
    | cons t ts ih =>
      intro M M' hf
      simp only [frz] at hf
      split at hf
      · rename_i g b e
        split at hf
        · obtain ⟨i1, i2⟩ := ih _ M' hf
          constructor
          · intro t'
            rw [i1]
            by_cases hq : t' = t
            · subst hq; rw [upd_same, e]
            · rw [upd_ne _ _ _ _ hq]
          · intro t' g' blk' e'
            obtain ⟨blk, h1, h2, h3⟩ := i2 t' g' blk' e'
            by_cases hq : t' = t
            · subst hq
              rw [upd_same] at h1
              simp only [Prod.mk.injEq, Option.some.injEq] at h1
              obtain ⟨rfl, rfl⟩ := h1
              exact ⟨b, e, h2, fun h0 => by have := h3 h0; simp [OwS] at this⟩
            · rw [upd_ne _ _ _ _ hq] at h1; exact ⟨blk, h1, h2, h3⟩
        · cases hf
      · cases hf
  obtain ⟨k1, k2⟩ := key ts M M' hf
  refine SVRep.mono (Nat.le_refl _) (fun b _ hx => ⟨rfl, fun ho => hx (ho.imp ?_ id)⟩) (fun t => by rw [k1]; exact Nat.le_refl _) (fun t g blk' e _ => ?_) c v h
  · obtain ⟨blk, f1, f2, f3⟩ := k2 t g blk' e
    exact ⟨blk, f1, rfl, f2⟩
  · rintro ⟨t, g, blk', cap, e1, e2, e3⟩
    obtain ⟨blk, f1, f2, f3⟩ := k2 t g blk' e1
    exact ⟨t, g, blk, cap, f1, f3 e2, e3⟩

theorem caps_get : ∀ (xs : List (SV × Option Blk)) (ds : List DV) (ts : List Nat), capsSV xs = some (ds, ts) →
    ds.length = xs.length ∧ ∀ (j : Nat) x d, xs[j]? = some x → ds[j]? = some d → ∃ us, capSV x = some (d, us) ∧ ∀ t ∈ us, t ∈ ts
  | [], ds, ts, h => by
    simp only [capsSV, Option.some.injEq, Prod.mk.injEq] at h
    obtain ⟨rfl, rfl⟩ := h
    exact ⟨rfl, fun j x d hx _ => by simp at hx⟩
  | x :: xs, ds, ts, h => by
    simp only [capsSV] at h
    split at h
    · rename_i d us ds' us' e1 e2
      simp only [Option.some.injEq, Prod.mk.injEq] at h
      obtain ⟨rfl, rfl⟩ := h
      obtain ⟨i1, i2⟩ := caps_get xs ds' us' e2
      refine ⟨by simp [i1], fun j y d' hy hd => ?_⟩
      cases j with
      | zero =>
        simp only [List.getElem?_cons_zero, Option.some.injEq] at hy hd
        subst hy; subst hd
        exact ⟨us, e1, fun t ht => List.mem_append_left _ ht⟩
      | succ j =>
        simp only [List.getElem?_cons_succ] at hy hd
        obtain ⟨us2, q1, q2⟩ := i2 j y d' hy hd
        exact ⟨us2, q1, fun t ht => List.mem_append_right _ (q2 t ht)⟩
    · cases h

def St.applyFn (n : Nat) (S : St) (dst : Option Nat) (f : FuncId) (pre caps : List (SV × Option Blk)) : Option St :=
  match dst, capsSV pre, capsSV caps with
  | some d, some (ps, ts), some (cs, us) => match frz S.M (ts ++ us) with
    | some M' => if d < n then some ⟨upd S.F d (.dv (.fn f ps cs)), M'⟩ else none
    | none => none
  | _, _, _ => none

theorem makeFunc_runs (hgood : cx.Good) (h : SimU cx S a w μ) {f : FuncId} {pre caps : Array Operand} (ho : o.op = .makeFunc (.func f) pre caps) (ha : S.applyFn cx.n o.dst f (pre.toList.map S.look) (caps.toList.map S.look) = some S') : Runs cx S' o a w := by
  unfold St.applyFn at ha
  split at ha
  · rename_i d ps ts cs us hd e1 e2
    split at ha
    · rename_i M' hf
      split at ha
      · rename_i hdn
        simp only [Option.some.injEq] at ha
        subst ha
        have h1 := frz_sim h (ts ++ us) S.M M' h hf
        have hrep : ∀ (xs : Array Operand) (ds : List DV) (vs : List Nat), capsSV (xs.toList.map S.look) = some (ds, vs) → (∀ t ∈ vs, t ∈ ts ++ us) →
            (xs.map a.eval).size = ds.length ∧ ∀ j c, ds[j]? = some c → RepD w (XX cx M' μ) c ((xs.map a.eval).getD j undef) := by
          intro xs ds vs e hvs
          obtain ⟨q1, q2⟩ := caps_get _ _ _ e
          refine ⟨by simp [q1], fun j c hj => ?_⟩
          have hjl : j < xs.size := by
            have := (List.getElem?_eq_some_iff.1 hj).1
            simpa [q1] using this
          obtain ⟨us', r1, r2⟩ := q2 j (S.look xs[j]) c (by simp [hjl]) hj
          have hv : (xs.map a.eval).getD j undef = a.eval xs[j] := by simp [hjl]
          rw [hv]
          have hx := frz_rep hf (h.ev xs[j])
          unfold capSV at r1
          generalize hlk : S.look xs[j] = lx at r1
          split at r1
          · rename_i d' q
            have ex : S.ev xs[j] = .dv d' := congrArg Prod.fst hlk
            simp only [Option.some.injEq, Prod.mk.injEq] at r1
            obtain ⟨rfl, rfl⟩ := r1
            rw [ex] at hx
            simpa only [SVRep] using hx
          · rename_i t g k blk
            have ex : S.ev xs[j] = .pt t g k := congrArg Prod.fst hlk
            have eb : blkOf S.M (S.ev xs[j]) = some blk := congrArg Prod.snd hlk
            rw [ex] at hx eb
            have hM := blkOf_pt eb
            obtain ⟨dd, hdd, e3⟩ := Option.map_eq_some_iff.1 r1
            simp only [Prod.mk.injEq] at e3
            obtain ⟨rfl, rfl⟩ := e3
            obtain ⟨st, m1, m2⟩ := frz_get _ _ _ hf t g blk hM
            have hst := m2 (.inl (hvs t (r2 t (by simp))))
            subst hst
            have hall := allDv_map _ _ hdd
            refine Lasting.rep hgood h1 (s := .pt t g k) ?_ hx
            refine .pt t g k { blk with st := 1 } dd (fun j => .dv (dd.getD j default)) m1 rfl (fun j c hj => ?_) (fun j c hj => ?_)
            · simp only
              rw [← List.getElem?_drop, hall]
              simp [hj]
            · have : dd.getD j default = c := by simp [hj]
              simp only [this]
              exact .dv c trivial
          · cases r1
        obtain ⟨p1, p2⟩ := hrep pre ps ts e1 (fun t ht => List.mem_append_left _ ht)
        obtain ⟨c1, c2⟩ := hrep caps cs us e2 (fun t ht => List.mem_append_right _ ht)
        refine ⟨.func (.func f) (pre.map a.eval) (caps.map a.eval), w, μ, .inl ?_, ?_⟩
        · unfold execOp
          simp only [ho, Instr.makeFunc]
          rfl
        · rw [hd]
          refine SimU.set h1 hdn ?_
          simp only [SVRep]
          exact .fn f ps cs _ _ p1 c1 p2 c2
      · cases ha
    · cases ha
  · cases ha

end
end Go.Ab
