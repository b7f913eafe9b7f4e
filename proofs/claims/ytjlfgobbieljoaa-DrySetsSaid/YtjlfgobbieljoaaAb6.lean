/- The abstract layer, part 6: operations that only compute. -/
import Derived.Test.YtjlfgobbieljoaaAb5
namespace Go.Ab
open Go.RowKit

inductive Out where
  | val (r : SV)
  | mk (blk : Blk) (n : Nat)
  | app (t : Option Nat) (blk : Blk) (n : Nat)
  | put (t : Nat) (blk : Blk)

def St.apply (n : Nat) (S : St) (dst : Option Nat) : Out → Option St
  | .val r => match dst with
    | some d => if d < n then some ⟨upd S.F d r, S.M⟩ else none
    | none => some S
  | .mk blk k => match dst with
    | some d => if d < n then some ⟨upd S.F d (if blk.row then .sl d ((S.M d).1 + 1) 0 k else .pt d ((S.M d).1 + 1) 0), upd S.M d ((S.M d).1 + 1, some blk)⟩ else none
    | none => none
  | .app t blk k => match dst with
    | some d => if d < n then
        match t with
        | none => some ⟨upd S.F d (.sl d ((S.M d).1 + 1) 0 k), upd S.M d ((S.M d).1 + 1, some blk)⟩
        | some t => match (S.M t).2 with
          | some b => if OwS b.st then some ⟨upd S.F d (.sl d ((S.M d).1 + 1) 0 k), upd (upd S.M t ((S.M t).1, some { b with st := 2 })) d ((S.M d).1 + 1, some blk)⟩ else none
          | none => none
      else none
    | none => none
  | .put t blk => match dst with
    | some _ => none
    | none => match (S.M t).2 with
      | some b => if OwS b.st then some ⟨S.F, upd (noViews S.M) t ((S.M t).1, some blk)⟩ else none
      | none => none

/-- The operation runs, and the state S' is true behind it. -/
def Runs (cx : Cx) (S' : St) (o : Oper) (a : Act) (w : World) : Prop :=
  ∃ v w' μ', ((execOp a.eval o).run cx.P w = .ok (.value v) w' ∨ ((execOp a.eval o).run cx.P w = .ok .skip w' ∧ v = undef)) ∧ SimU cx S' (a.put o.dst v) w' μ'

theorem sim_val {cx : Cx} {S S' : St} {a : Act} {w : World} {μ : Nat → Option (Nat × Nat)} (h : SimU cx S a w μ) {dst : Option Nat} {r : SV} {v : Value}
    (hr : SVRep w S.M μ (XX cx S.M μ) r v) (ha : S.apply cx.n dst (.val r) = some S') : SimU cx S' (a.put dst v) w μ := by
  cases dst with
  | none => simp only [St.apply, Option.some.injEq] at ha; subst ha; exact h
  | some d =>
    simp only [St.apply] at ha
    split at ha
    · rename_i hd
      simp only [Option.some.injEq] at ha
      subst ha
      exact h.set hd hr
    · cases ha

theorem runs_val {cx : Cx} {S S' : St} {a : Act} {w : World} {μ : Nat → Option (Nat × Nat)} (h : SimU cx S a w μ) {o : Oper} {r : SV} {v : Value}
    (hrun : (execOp a.eval o).run cx.P w = .ok (.value v) w) (hr : SVRep w S.M μ (XX cx S.M μ) r v) (ha : S.apply cx.n o.dst (.val r) = some S') : Runs cx S' o a w :=
  ⟨v, w, μ, .inl hrun, sim_val h hr ha⟩

def pickSV (c : Bool) : SV → SV → SV
  | .dv (.bool x), .dv (.bool y) => .dv (.bool (bif c then x else y))
  | a, b => bif c then a else b

def intBin (op : BinOp) (k : IntKind) (a b : Int) : Option DV :=
  match op with
  | .add => some (.int k (k.wrap (a + b)))
  | .sub => some (.int k (k.wrap (a - b)))
  | .mul => some (.int k (k.wrap (a * b)))
  | .quo => if b = 0 then none else some (.int k (k.wrap (a.tdiv b)))
  | .rem => if b = 0 then none else some (.int k (a.tmod b))
  | .and => some (.int k (k.wrap (BitVec.ofInt k.bits a &&& BitVec.ofInt k.bits b).toNat))
  | .or => some (.int k (k.wrap (BitVec.ofInt k.bits a ||| BitVec.ofInt k.bits b).toNat))
  | .xor => some (.int k (k.wrap (BitVec.ofInt k.bits a ^^^ BitVec.ofInt k.bits b).toNat))
  | .andNot => some (.int k (k.wrap (BitVec.ofInt k.bits a &&& ~~~BitVec.ofInt k.bits b).toNat))
  | .eql => some (.bool (a == b))
  | .neq => some (.bool (a != b))
  | .lss => some (.bool (decide (a < b)))
  | .leq => some (.bool (decide (a ≤ b)))
  | .gtr => some (.bool (decide (b < a)))
  | .geq => some (.bool (decide (b ≤ a)))
  | _ => none

def shiftBin (op : BinOp) (k : IntKind) (a b : Int) : Option DV :=
  if b < 0 then none else
  match op with
  | .shl => some (.int k (k.wrap (a * 2 ^ (min b.toNat k.bits))))
  | .shr => some (.int k (a.fdiv (2 ^ (min b.toNat k.bits))))
  | _ => none

def strBin (op : BinOp) (x y : ByteArray) : Option DV :=
  match op with
  | .add => if ((x.size + y.size : Nat) : Int) > 9223372036854775807 then none else some (.str (x ++ y))
  | .eql => some (.bool (x.toList == y.toList))
  | .neq => some (.bool !(x.toList == y.toList))
  | _ => none

def isBoolP (P : Program) (t : TypeId) : Bool := match P.underlying t with | some .bool => true | _ => false
def isIfaceP (P : Program) (t : TypeId) : Bool := match P.underlying t with | some (.interface _) => true | _ => false
def isPtrP (P : Program) (t : TypeId) : Bool := match P.underlying t with | some (.pointer _) => true | _ => false

def isSliceP (P : Program) (t : TypeId) : Bool := match P.underlying t with | some (.slice _) => true | _ => false

/-- Whether a slice is nil, where that is known. -/
def nilOf : SV → Option Bool
  | .nils => some true
  | .emp b => some b
  | .dv (.list l) => if l.isEmpty then none else some false
  | _ => none

def ptrNilOf : SV → Option Bool
  | .dv .nilptr => some true
  | .dv (.cptr _) => some false
  | _ => none

def nilCmp (op : BinOp) (b : Bool) : Option SV :=
  match op with
  | .eql => some (.dv (.bool b))
  | .neq => some (.dv (.bool !b))
  | _ => none

def binSV (P : Program) (op : BinOp) (t : TypeId) : SV → SV → Option SV
  | .dv (.int k a), .dv (.int k' b) =>
    match op with
    | .shl | .shr => (shiftBin op k a b).map .dv
    | _ => if k = k' then (intBin op k a b).map .dv else none
  | .dv (.bool a), .dv (.bool b) => if isBoolP P t then (match op with | .eql => some (.dv (.bool (a == b))) | .neq => some (.dv (.bool !(a == b))) | _ => none) else none
  | .dv (.str a), .dv (.str b) => (strBin op a b).map .dv
  | x, .nils => if isSliceP P t then (match nilOf x with | some b => nilCmp op b | none => none) else none
  | x, .dv .nilptr => if isPtrP P t then (match ptrNilOf x with | some b => nilCmp op b | none => none) else none
  | _, _ => none

theorem int_bin_run (P : Program) (op : BinOp) (t : TypeId) (x y : Operand) (k : IntKind) (a b : Int) (d : DV) (h : intBin op k a b = some d) (w : World) :
    ∃ v, (do eqGuard op t x y (.int k a) (.int k b); binOp op t (.int k a) (.int k b) : Sem Value).run P w = .ok v w ∧ ∀ X, RepD w X d v := by
  simp only [eqGuard_at_int, pure_bind]
  cases op <;> simp only [intBin] at h
  case add => cases h; exact ⟨_, by rw [binOp_add]; rfl, fun X => .int _ _⟩
  case sub => cases h; exact ⟨_, by rw [binOp_sub]; rfl, fun X => .int _ _⟩
  case mul => cases h; exact ⟨_, by rw [binOp_mul]; rfl, fun X => .int _ _⟩
  case quo =>
    split at h
    · cases h
    · rename_i hb; cases h; exact ⟨_, by rw [binOp_quo]; simp only [Op.intDiv, hb, if_false]; rfl, fun X => .int _ _⟩
  case rem =>
    split at h
    · cases h
    · rename_i hb; cases h; exact ⟨_, by rw [binOp_rem]; simp only [Op.intDiv, hb, if_false]; rfl, fun X => .int _ _⟩
  case and => cases h; exact ⟨_, by rw [binOp_and]; rfl, fun X => .int _ _⟩
  case or => cases h; exact ⟨_, by rw [binOp_or]; rfl, fun X => .int _ _⟩
  case xor => cases h; exact ⟨_, by rw [binOp_xor]; rfl, fun X => .int _ _⟩
  case andNot => cases h; exact ⟨_, by rw [binOp_andNot]; rfl, fun X => .int _ _⟩
  case eql => cases h; exact ⟨_, by rw [binOp_eql]; rfl, fun X => .bool _⟩
  case neq => cases h; exact ⟨_, by rw [binOp_neq]; rfl, fun X => .bool _⟩
  case lss => cases h; exact ⟨_, by rw [binOp_lss]; rfl, fun X => .bool _⟩
  case leq => cases h; exact ⟨_, by rw [binOp_leq]; rfl, fun X => .bool _⟩
  case gtr => cases h; exact ⟨_, by rw [binOp_gtr]; rfl, fun X => .bool _⟩
  case geq => cases h; exact ⟨_, by rw [binOp_geq]; rfl, fun X => .bool _⟩
  all_goals cases h

theorem shift_bin_run (P : Program) (op : BinOp) (t : TypeId) (x y : Operand) (k k' : IntKind) (a b : Int) (d : DV) (h : shiftBin op k a b = some d) (w : World) :
    ∃ v, (do eqGuard op t x y (.int k a) (.int k' b); binOp op t (.int k a) (.int k' b) : Sem Value).run P w = .ok v w ∧ ∀ X, RepD w X d v := by
  simp only [eqGuard_at_int, pure_bind]
  unfold shiftBin at h
  split at h
  · cases h
  · rename_i hb
    cases op <;> simp only at h
    case shl => cases h; exact ⟨_, by rw [binOp_shl]; simp only [Op.shift, hb, if_false]; rfl, fun X => .int _ _⟩
    case shr => cases h; exact ⟨_, by rw [binOp_shr]; simp only [Op.shift, hb, if_false]; rfl, fun X => .int _ _⟩
    all_goals cases h

theorem str_bin_run (P : Program) (op : BinOp) (t : TypeId) (x y : Operand) (a b : ByteArray) (d : DV) (h : strBin op a b = some d) (w : World) :
    ∃ v, (do eqGuard op t x y (.string a) (.string b); binOp op t (.string a) (.string b) : Sem Value).run P w = .ok v w ∧ ∀ X, RepD w X d v := by
  simp only [eqGuard_at_string, pure_bind]
  have e : binOp op t (.string a) (.string b) = Op.stringOp op a b := by cases op <;> rfl
  rw [e]
  cases op <;> simp only [strBin] at h
  case add =>
    split at h
    · cases h
    · rename_i hb; cases h; exact ⟨_, by simp only [Op.stringOp, IntKind.max_i64, hb, if_false]; rfl, fun X => .str _⟩
  case eql => cases h; exact ⟨_, rfl, fun X => .bool _⟩
  case neq => cases h; exact ⟨_, rfl, fun X => .bool _⟩
  all_goals cases h

theorem bool_bin_run (P : Program) (t : TypeId) (x y : Operand) (a b : Bool) (hP : isBoolP P t = true) (w : World) :
    (do eqGuard .eql t x y (.bool a) (.bool b); binOp .eql t (.bool a) (.bool b) : Sem Value).run P w = .ok (.bool (a == b)) w ∧
    (do eqGuard .neq t x y (.bool a) (.bool b); binOp .neq t (.bool a) (.bool b) : Sem Value).run P w = .ok (.bool !(a == b)) w := by
  have hu : P.underlying t = some .bool := by
    unfold isBoolP at hP
    split at hP
    · assumption
    · cases hP
  have he : (Op.equal t (.bool a) (.bool b)).run P w = .ok (a == b) w := by
    show (Op.equalIn (9999 + 1) t (.bool a) (.bool b)).run P w = _
    unfold Op.equalIn
    simp only [Sem.run_bind, run_underlying hu, Result.andThen_ok]
    rfl
  simp only [eqGuard_at_bool, pure_bind]
  constructor
  · show (do pure (.bool (← Op.equal t (.bool a) (.bool b))) : Sem Value).run P w = _
    simp only [Sem.run_bind, he, Result.andThen_ok, Sem.run_pure]
  · show (do pure (.bool (!(← Op.equal t (.bool a) (.bool b)))) : Sem Value).run P w = _
    simp only [Sem.run_bind, he, Result.andThen_ok, Sem.run_pure]

theorem nil_bin_run {P : Program} {t e : TypeId} (hu : P.underlying t = some (.slice e)) (x y : Operand) (a : Option Addr) (n cap : Nat) (w : World) :
    (do eqGuard .eql t x y (.slice a n cap) (.slice none 0 0); binOp .eql t (.slice a n cap) (.slice none 0 0) : Sem Value).run P w = .ok (.bool a.isNone) w ∧
    (do eqGuard .neq t x y (.slice a n cap) (.slice none 0 0); binOp .neq t (.slice a n cap) (.slice none 0 0) : Sem Value).run P w = .ok (.bool !a.isNone) w := by
  have he : (Op.equal t (.slice a n cap) (.slice none 0 0)).run P w = .ok a.isNone w := by
    show (Op.equalIn (9999 + 1) t (.slice a n cap) (.slice none 0 0)).run P w = _
    unfold Op.equalIn
    simp only [Sem.run_bind, run_underlying hu, Result.andThen_ok]
    cases a <;> rfl
  constructor
  · show (do pure (.bool (← Op.equal t (.slice a n cap) (.slice none 0 0))) : Sem Value).run P w = _
    simp only [Sem.run_bind, he, Result.andThen_ok, Sem.run_pure]
  · show (do pure (.bool (!(← Op.equal t (.slice a n cap) (.slice none 0 0)))) : Sem Value).run P w = _
    simp only [Sem.run_bind, he, Result.andThen_ok, Sem.run_pure]

theorem ptr_bin_run {P : Program} {t e : TypeId} (hu : P.underlying t = some (.pointer e)) (x y : Operand) (a : Option Addr) (w : World) :
    (do eqGuard .eql t x y (.pointer a) (.pointer none); binOp .eql t (.pointer a) (.pointer none) : Sem Value).run P w = .ok (.bool a.isNone) w ∧
    (do eqGuard .neq t x y (.pointer a) (.pointer none); binOp .neq t (.pointer a) (.pointer none) : Sem Value).run P w = .ok (.bool !a.isNone) w := by
  have he : (Op.equal t (.pointer a) (.pointer none)).run P w = .ok a.isNone w := by
    show (Op.equalIn (9999 + 1) t (.pointer a) (.pointer none)).run P w = _
    unfold Op.equalIn
    simp only [Sem.run_bind, run_underlying hu, Result.andThen_ok]
    cases a <;> rfl
  constructor
  · show (do pure (.bool (← Op.equal t (.pointer a) (.pointer none))) : Sem Value).run P w = _
    simp only [Sem.run_bind, he, Result.andThen_ok, Sem.run_pure]
  · show (do pure (.bool (!(← Op.equal t (.pointer a) (.pointer none)))) : Sem Value).run P w = _
    simp only [Sem.run_bind, he, Result.andThen_ok, Sem.run_pure]

theorem bin_runs {cx : Cx} {S S' : St} {a : Act} {w : World} {μ : Nat → Option (Nat × Nat)} (h : SimU cx S a w μ) {o : Oper} {op : BinOp} {t yt : TypeId} {x y : Operand} (ho : o.op = .binOp op t x y yt) {r : SV}
    (hr : binSV cx.P op t (S.ev x) (S.ev y) = some r) (ha : S.apply cx.n o.dst (.val r) = some S') : Runs cx S' o a w := by
  have hx := h.ev x
  have hy := h.ev y
  have fin : ∀ (v : Value) (d : DV), r = .dv d → (do eqGuard op t x y (a.eval x) (a.eval y); binOp op t (a.eval x) (a.eval y) : Sem Value).run cx.P w = .ok v w → (∀ X, RepD w X d v) → Runs cx S' o a w := fun v d e hv hd => by
    subst e
    refine runs_val h (v := v) ?_ (by simp only [SVRep]; exact hd _) ha
    unfold execOp
    simp only [ho, Sem.run_bind] at hv ⊢
    rw [hv]
    rfl
  unfold binSV at hr
  split at hr
  · rename_i k1 n1 k2 n2 e1 e2
    rw [e1] at hx
    rw [e2] at hy
    simp only [SVRep] at hx hy
    cases hx1 : a.eval x with
    | int k n =>
      cases hy1 : a.eval y with
      | int k' n' =>
        rw [hx1] at hx; rw [hy1] at hy
        cases hx; cases hy
        rw [hx1, hy1] at fin
        have shft : ∀ d, shiftBin op k1 n1 n2 = some d → r = .dv d → Runs cx S' o a w := fun d hd e => by
          obtain ⟨v, hv, hrep⟩ := shift_bin_run cx.P op t x y k1 k2 n1 n2 d hd w
          exact fin v d e hv hrep
        have ints : ∀ d, k1 = k2 → intBin op k1 n1 n2 = some d → r = .dv d → Runs cx S' o a w := fun d hk hd e => by
          subst hk
          obtain ⟨v, hv, hrep⟩ := int_bin_run cx.P op t x y k1 n1 n2 d hd w
          exact fin v d e hv hrep
        split at hr
        · obtain ⟨d, hd, e⟩ := Option.map_eq_some_iff.1 hr
          exact shft d hd e.symm
        · obtain ⟨d, hd, e⟩ := Option.map_eq_some_iff.1 hr
          exact shft d hd e.symm
        · split at hr
          · rename_i hk
            obtain ⟨d, hd, e⟩ := Option.map_eq_some_iff.1 hr
            exact ints d hk hd e.symm
          · cases hr
      | _ => rw [hy1] at hy; cases hy
    | _ => rw [hx1] at hx; cases hx
  · rename_i b1 b2 e1 e2
    rw [e1] at hx
    rw [e2] at hy
    simp only [SVRep] at hx hy
    generalize hx1 : a.eval x = vx at *
    generalize hy1 : a.eval y = vy at *
    cases hx; cases hy
    split at hr
    · rename_i hP
      have hb := bool_bin_run cx.P t x y b1 b2 hP w
      split at hr
      · simp only [Option.some.injEq] at hr
        exact fin _ _ hr.symm hb.1 (fun _ => .bool _)
      · simp only [Option.some.injEq] at hr
        exact fin _ _ hr.symm hb.2 (fun _ => .bool _)
      · cases hr
    · cases hr
  · rename_i s1 s2 e1 e2
    rw [e1] at hx
    rw [e2] at hy
    simp only [SVRep] at hx hy
    generalize hx1 : a.eval x = vx at *
    generalize hy1 : a.eval y = vy at *
    cases hx; cases hy
    obtain ⟨d, hd, e⟩ := Option.map_eq_some_iff.1 hr
    obtain ⟨v, hv, hrep⟩ := str_bin_run cx.P op t x y s1 s2 d hd w
    exact fin v d e.symm hv hrep
  · rename_i e2
    rw [e2] at hy
    simp only [SVRep] at hy
    split at hr
    · rename_i hs
      have hu : ∃ e, cx.P.underlying t = some (.slice e) := by
        unfold isSliceP at hs
        split at hs
        · exact ⟨_, by assumption⟩
        · cases hs
      obtain ⟨e, hu⟩ := hu
      split at hr
      · rename_i b hb
        have hxv : ∃ ad n cap, a.eval x = .slice ad n cap ∧ ad.isNone = b := by
          generalize S.ev x = sx at hb hx
          unfold nilOf at hb
          split at hb
          · simp only [Option.some.injEq] at hb; subst hb; simp only [SVRep] at hx; exact ⟨none, 0, 0, hx, rfl⟩
          · simp only [Option.some.injEq] at hb; subst hb; simp only [SVRep] at hx; obtain ⟨ad, cap, h1, h2⟩ := hx; exact ⟨ad, 0, cap, h1, h2⟩
          · rename_i l
            split at hb
            · cases hb
            · rename_i hl
              simp only [Option.some.injEq] at hb; subst hb
              simp only [SVRep] at hx
              generalize a.eval x = vx at hx
              cases hx with
              | listNil ad cap => simp at hl
              | list _ b off cap esz u h1 h2 h3 h4 h5 h6 => exact ⟨_, _, _, rfl, rfl⟩
          · cases hb
        obtain ⟨ad, n, cap, hv, rfl⟩ := hxv
        have := nil_bin_run hu x y ad n cap w
        unfold nilCmp at hr
        rw [hv, hy] at fin
        split at hr
        · simp only [Option.some.injEq] at hr; exact fin _ _ hr.symm this.1 fun _ => .bool _
        · simp only [Option.some.injEq] at hr; exact fin _ _ hr.symm this.2 fun _ => .bool _
        · cases hr
      · cases hr
    · cases hr
  · rename_i e2
    rw [e2] at hy
    simp only [SVRep] at hy
    have hyv : a.eval y = .pointer none := by
      generalize a.eval y = vy at hy
      cases hy
      rfl
    split at hr
    · rename_i hs
      have hu : ∃ e, cx.P.underlying t = some (.pointer e) := by
        unfold isPtrP at hs
        split at hs
        · exact ⟨_, by assumption⟩
        · cases hs
      obtain ⟨e, hu⟩ := hu
      split at hr
      · rename_i b hb
        have hxv : ∃ ad, a.eval x = .pointer ad ∧ ad.isNone = b := by
          generalize S.ev x = sx at hb hx
          unfold ptrNilOf at hb
          split at hb
          · simp only [Option.some.injEq] at hb; subst hb; simp only [SVRep] at hx
            generalize a.eval x = vx at hx
            cases hx
            exact ⟨none, rfl, rfl⟩
          · simp only [Option.some.injEq] at hb; subst hb; simp only [SVRep] at hx
            generalize a.eval x = vx at hx
            cases hx with
            | cptr _ b off u h1 h2 h3 h4 => exact ⟨_, rfl, rfl⟩
          · cases hb
        obtain ⟨ad, hv, rfl⟩ := hxv
        have := ptr_bin_run hu x y ad w
        unfold nilCmp at hr
        rw [hv, hyv] at fin
        split at hr
        · simp only [Option.some.injEq] at hr; exact fin _ _ hr.symm this.1 fun _ => .bool _
        · simp only [Option.some.injEq] at hr; exact fin _ _ hr.symm this.2 fun _ => .bool _
        · cases hr
      · cases hr
    · cases hr
  · cases hr

def unSV (op : UnOp) : SV → Option SV
  | .dv (.int k n) => match op with
    | .neg => some (.dv (.int k (k.wrap (0 - n))))
    | .xor => some (.dv (.int k (k.wrap (BitVec.ofInt k.bits (if k.signed then -1 else k.max) ^^^ BitVec.ofInt k.bits n).toNat)))
    | _ => none
  | .dv (.bool b) => match op with | .not => some (.dv (.bool !b)) | _ => none
  | _ => none

theorem un_runs {cx : Cx} {S S' : St} {a : Act} {w : World} {μ : Nat → Option (Nat × Nat)} (h : SimU cx S a w μ) {o : Oper} {op : UnOp} {t : TypeId} {x : Operand} (ho : o.op = .unOp op t x) {r : SV}
    (hr : unSV op (S.ev x) = some r) (ha : S.apply cx.n o.dst (.val r) = some S') : Runs cx S' o a w := by
  have hx := h.ev x
  have fin : ∀ (v : Value) (d : DV), r = .dv d → (Op.unary op (a.eval x)).run cx.P w = .ok v w → (∀ X, RepD w X d v) → Runs cx S' o a w := fun v d e hv hd => by
    subst e
    refine runs_val h (v := v) ?_ (by simp only [SVRep]; exact hd _) ha
    unfold execOp
    simp only [ho, Sem.run_bind, hv]
    rfl
  unfold unSV at hr
  split at hr
  · rename_i k n e1
    rw [e1] at hx
    simp only [SVRep] at hx
    generalize hx1 : a.eval x = vx at *
    cases hx
    split at hr <;> first | (cases hr; done) | skip
    · simp only [Option.some.injEq] at hr
      exact fin _ _ hr.symm rfl (fun _ => .int _ _)
    · simp only [Option.some.injEq] at hr
      exact fin _ _ hr.symm rfl (fun _ => .int _ _)
  · rename_i b e1
    rw [e1] at hx
    simp only [SVRep] at hx
    generalize hx1 : a.eval x = vx at *
    cases hx
    split at hr <;> first | (cases hr; done) | skip
    simp only [Option.some.injEq] at hr
    exact fin _ _ hr.symm rfl (fun _ => .bool _)
  · cases hr

end Go.Ab
