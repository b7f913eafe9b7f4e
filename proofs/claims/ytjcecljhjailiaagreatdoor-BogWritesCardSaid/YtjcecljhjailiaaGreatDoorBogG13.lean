/- Ab31, Ab32, Ab33, Ab34, Ab35. -/
import Derived.Test.YtjcecljhjailiaaGreatDoorBogG12
import Derived.RangeFuncCalls
set_option linter.unusedVariables false
namespace Go.Ab
open Go.RowKit
section
variable {cx : Cx} {S : St} {a : Act} {w : World} {o : Oper}
end
section
variable {cx : Cx} {P : Program} {N : Nat} {ops : Array Oper} {rest : List Oper} {l : List (Nat × SV)} {m m' : List (Nat × Nat × Option Blk)} {K : St → Prop}
  {ty : TypeId} {p : String} {af : Array Edge} {gd : Option (Nat × Bool)} {x : Operand} {t e : TypeId} {tg g off n st : Nat} {k : IntKind} {L : List Int}
end
end Go.Ab
set_option linter.unusedVariables false
namespace Go.Ab
open Go.RowKit
section
variable {cx : Cx} {S : St}
theorem frzd_rep {a : Act} {w : World} {μ : Nat → Option (Nat × Nat)} (hg : cx.Good) (h : SimU cx S a w μ) {s : SV} {d : DV} (hD : Data (fun st => st = 1) (fun _ => True) S.M s d) (v : Value) (hv : SVRep w S.M μ (XX cx S.M μ) s v) : RepD w (XX cx S.M μ) d v :=
  Data.rep h (Y := XX cx S.M μ) (fun t g blk b cap e hst hm hx => by
    rcases hx with ⟨t', g', blk', cap', e', ho, hm'⟩ | hx
    · by_cases ht : t' = t
      · subst ht
        rw [e] at e'
        cases e'
        simp [OwS, hst] at ho
      · have := h.uniq t' g' blk' t g blk b cap' cap ht e' e ho hm' hm
        omega
    · rcases (h.place t g blk b cap e hm).1 with h1 | h1
      · have := (hg.1 b hx).1; omega
      · exact (hg.1 b hx).2 h1) (fun _ _ _ hr => hr) hD v hv
end
section
variable {cx : Cx} {c : Code} {K : Exit → St → Prop} {l : List (Nat × SV)} {m : List (Nat × Nat × Option Blk)}
theorem awp_frz (t : Nat) {g : Nat} {b : Blk} (k : AWp cx c K ⟨lk l, mkM ((t, g, some { b with st := 1 }) :: m)⟩) (h0 : mkM m t = (g, some b) := by (simp only [mkM, reduceIte, Nat.reduceEqDiff] <;> rfl)) (h1 : OwS b.st ∨ b.st = 1 := by (first | exact .inl (.inl rfl) | exact .inr rfl)) : AWp cx c K ⟨lk l, mkM m⟩ := by
  refine AWp.le (Le.freeze (S := ⟨lk l, mkM m⟩) h0 h1) ?_
  rw [upd_mkM]; exact k
end
end Go.Ab
set_option linter.unusedVariables false
namespace Go.Ab
open Go.RowKit
abbrev rowT (e : TypeId) (L : List Bool) : Blk := ⟨L.map fun b => .dv (.bool b), 1, e, 0, true⟩
section
variable {P : Program} {S : St} {x y : Operand} {t e by' tg g o : Nat} {ob : Option Blk}
theorem m_stB {L : List Bool} {e' : TypeId} {st : Nat} {c : Bool} (hs : szP P t = some 1) (hx : S.look x = (.pt tg g o, some ⟨L.map fun q => .dv (.bool q), 1, e', st, true⟩) := by (simp only [St.look, St.ev, lk, mkM, blkOf, svOf, svOfCell, reduceIte, Nat.reduceAdd, Nat.reduceEqDiff, Nat.reduceMul] <;> rfl)) (hv : S.ev y = .dv (.bool c) := by (simp only [St.look, St.ev, lk, mkM, blkOf, svOf, svOfCell, reduceIte, Nat.reduceAdd, Nat.reduceEqDiff, Nat.reduceMul] <;> rfl)) (ho : o < L.length := by (first | omega | (simp only [Int.toNat_natCast, List.length_map, List.length_append, List.length_cons, List.length_nil, List.length_take, List.length_drop, List.length_set, List.length_replicate, Nat.zero_add, Nat.mul_one] <;> omega) | (simp <;> omega))) : outOf P S (.store t x y) = some (.put tg ⟨(L.set o c).map fun q => .dv (.bool q), 1, e', st, true⟩) := by
  refine e_store hx hs (cc := [.dv (.bool c)]) (by rw [hv]; rfl) rfl rfl ?_ ?_
  · show o + 1 ≤ (L.map fun q => SV.dv (.bool q)).length
    simp; omega
  · exact putCells_set (fun q => SV.dv (.bool q)) L o c ho
theorem m_ldB {L : List Bool} {q : Bool} {e' : TypeId} {st : Nat} (hs : szP P t = some 1) (ha : aggP P t = some false) (hx : S.look x = (.pt tg g o, some ⟨L.map fun q => .dv (.bool q), 1, e', st, true⟩) := by (simp only [St.look, St.ev, lk, mkM, blkOf, svOf, svOfCell, reduceIte, Nat.reduceAdd, Nat.reduceEqDiff, Nat.reduceMul] <;> rfl)) (hq : L[o]? = some q := by (first | assumption | exact List.getElem?_eq_getElem (by (first | assumption | omega)))) : outOf P S (.load t x) = some (.val (.dv (.bool q))) :=
  e_loadp hx hs ha (by show (L.map fun q => SV.dv (.bool q))[o]? = _; rw [List.getElem?_map, hq]; rfl)
theorem m_mkB (he : elemP P t = some e) (hz : zeroP P e = some [.dv (.bool false)]) (hs : szP P e = some 1) (hb : bytesP P e = some by') {n : Int} (hx : S.ev x = .dv (.int .i64 n) := by (simp only [St.look, St.ev, lk, mkM, blkOf, svOf, svOfCell, reduceIte, Nat.reduceAdd, Nat.reduceEqDiff, Nat.reduceMul] <;> rfl)) (hy : S.ev y = .dv (.int .i64 n) := by (simp only [St.look, St.ev, lk, mkM, blkOf, svOf, svOfCell, reduceIte, Nat.reduceAdd, Nat.reduceEqDiff, Nat.reduceMul] <;> rfl))
    (h0 : 0 ≤ n := by (first | omega | (simp only [Int.toNat_natCast, List.length_map, List.length_append, List.length_cons, List.length_nil, List.length_take, List.length_drop, List.length_set, List.length_replicate, Nat.zero_add, Nat.mul_one] <;> omega) | (simp <;> omega))) (h1 : by' * n ≤ 281474976710656 := by (first | omega | (simp only [Int.toNat_natCast, List.length_map, List.length_append, List.length_cons, List.length_nil, List.length_take, List.length_drop, List.length_set, List.length_replicate, Nat.zero_add, Nat.mul_one] <;> omega) | (simp <;> omega))) (h2 : n ≤ 9223372036854775807 := by (first | omega | (simp only [Int.toNat_natCast, List.length_map, List.length_append, List.length_cons, List.length_nil, List.length_take, List.length_drop, List.length_set, List.length_replicate, Nat.zero_add, Nat.mul_one] <;> omega) | (simp <;> omega))) {m' : Nat} (hm : n.toNat = m' := by (first | (simp only [Int.toNat_natCast] <;> rfl) | rfl)) : outOf P S (.makeSlice t x y) = some (.mk (rowT e (List.replicate m' false)) m') := by
  subst hm
  rw [e_make hx hy he hz hs hb h0 h1 h2 rfl]
  have : (List.replicate n.toNat [SV.dv (DV.bool false)]).flatten = (List.replicate n.toNat false).map fun q => SV.dv (.bool q) := by
    induction n.toNat with
    | zero => rfl
    | succ m ih => simp only [List.replicate_succ, List.flatten_cons, ih, List.map_cons, List.cons_append, List.nil_append]
  rw [this]
theorem m_shr {k : IntKind} {a b : Nat} {t2 : TypeId} (hx : S.ev x = .dv (.int .i64 (a : Int)) := by (simp only [St.look, St.ev, lk, mkM, blkOf, svOf, svOfCell, reduceIte, Nat.reduceAdd, Nat.reduceEqDiff, Nat.reduceMul] <;> rfl)) (hy : S.ev y = .dv (.int k (b : Int)) := by (simp only [St.look, St.ev, lk, mkM, blkOf, svOf, svOfCell, reduceIte, Nat.reduceAdd, Nat.reduceEqDiff, Nat.reduceMul] <;> rfl)) (hb : b ≤ 62 := by (first | omega | (simp only [Int.toNat_natCast, List.length_map, List.length_append, List.length_cons, List.length_nil, List.length_take, List.length_drop, List.length_set, List.length_replicate, Nat.zero_add, Nat.mul_one] <;> omega) | (simp <;> omega))) : outOf P S (.binOp .shr t x y t2) = some (.val (.dv (.int .i64 ((a / 2 ^ b : Nat) : Int)))) := by
  have e : min b 64 = b := by omega
  simp only [outOf, binSV, hx, hy, shiftBin]
  rw [if_neg (by omega)]
  simp only [Int.toNat_natCast, IntKind.bits, e, Option.map_some]
  have : ((a : Int).fdiv (2 ^ b)) = ((a / 2 ^ b : Nat) : Int) := by
    rw [Int.fdiv_eq_ediv_of_nonneg _ (by exact_mod_cast Nat.zero_le _)]
    push_cast
    rfl
  rw [this]
theorem m_and1 {a : Nat} {t2 : TypeId} (ha : a < 9223372036854775808) (hx : S.ev x = .dv (.int .i64 (a : Int)) := by (simp only [St.look, St.ev, lk, mkM, blkOf, svOf, svOfCell, reduceIte, Nat.reduceAdd, Nat.reduceEqDiff, Nat.reduceMul] <;> rfl)) (hy : S.ev y = .dv (.int .i64 1) := by (simp only [St.look, St.ev, lk, mkM, blkOf, svOf, svOfCell, reduceIte, Nat.reduceAdd, Nat.reduceEqDiff, Nat.reduceMul] <;> rfl)) : outOf P S (.binOp .and t x y t2) = some (.val (.dv (.int .i64 ((a % 2 : Nat) : Int)))) := by
  have e : (BitVec.ofInt 64 (a : Int) &&& BitVec.ofInt 64 1).toNat = a % 2 := by
    rw [BitVec.toNat_and, BitVec.toNat_ofInt, BitVec.toNat_ofInt]
    have h1 : ((a : Int) % ((2 ^ 64 : Nat) : Int)).toNat = a := by omega
    have h2 : ((1 : Int) % ((2 ^ 64 : Nat) : Int)).toNat = 1 := by omega
    rw [h1, h2, Nat.and_one_is_mod]
  simp only [outOf, binSV, hx, hy, intBin, if_true, Option.map_some]
  have e' : ((BitVec.ofInt IntKind.i64.bits (a : Int) &&& BitVec.ofInt IntKind.i64.bits 1).toNat : Int) = ((a % 2 : Nat) : Int) := congrArg Int.ofNat e
  rw [e', wrap_i64 (by omega) (by omega)]
end
end Go.Ab
set_option linter.all false
namespace Go.Ab
open Go.RowKit
section
variable {w w' : World} {M : Nat → Nat × Option Blk} {μ : Nat → Option (Nat × Nat)} {X : Nat → Prop}
theorem RepD.turn (hs : w.heap.size ≤ w'.heap.size) (hc : ∀ a v, w.cell? a = some v → w'.cell? a = some v) {d : DV} {v : Value} (h : RepD w X d v) : RepD w' X d v := by
  induction h with
  | bool b => exact .bool b
  | int k n => exact .int k n
  | str s => exact .str s
  | nilptr => exact .nilptr
  | nilfn => exact .nilfn
  | nilIface => exact .nilIface
  | iface t d v _ ih => exact .iface t d v ih
  | listNil a cap => exact .listNil a cap
  | list l b off cap esz u hx hb hcap he hc' _ ih => exact .list l b off cap esz u hx (Nat.lt_of_lt_of_le hb hs) hcap he (fun j c hj => hc _ _ (hc' j c hj)) ih
  | agg cs vs hsz _ ih => exact .agg cs vs hsz ih
  | cptr cs b off u hx hb hc' _ ih => exact .cptr cs b off u hx (Nat.lt_of_lt_of_le hb hs) (fun j c hj => hc _ _ (hc' j c hj)) ih
  | fn f pre caps vp vc h1 h2 _ _ ih1 ih2 => exact .fn f pre caps vp vc h1 h2 ih1 ih2
mutual
theorem SVRep.turn (hs : w.heap.size ≤ w'.heap.size) (hc : ∀ a v, w.cell? a = some v → w'.cell? a = some v) : ∀ (c : SV) (v : Value), SVRep w M μ X c v → SVRep w' M μ X c v
  | .dead, _, _ => trivial
  | .dv _, _, h => by simp only [SVRep] at h ⊢; exact h.turn hs hc
  | .nils, _, h => by simpa only [SVRep] using h
  | .emp b, v, h => by simpa only [SVRep] using h
  | .sl t g off n, v, h => by simpa only [SVRep] using h
  | .pt t g off, v, h => by simpa only [SVRep] using h
  | .agg cs, v, h => by
    simp only [SVRep] at h ⊢
    obtain ⟨vs, rfl, hv⟩ := h
    exact ⟨vs, rfl, SVReps.turn hs hc cs vs hv⟩
  | .tup cs, v, h => by
    simp only [SVRep] at h ⊢
    obtain ⟨vs, rfl, hv⟩ := h
    exact ⟨vs, rfl, SVReps.turn hs hc cs vs hv⟩
theorem SVReps.turn (hs : w.heap.size ≤ w'.heap.size) (hc : ∀ a v, w.cell? a = some v → w'.cell? a = some v) : ∀ (cs : List SV) (vs : List Value), SVReps w M μ X cs vs → SVReps w' M μ X cs vs
  | [], [], _ => trivial
  | [], _ :: _, h => by simp only [SVReps] at h
  | _ :: _, [], h => by simp only [SVReps] at h
  | c :: cs, v :: vs, h => by
    simp only [SVReps] at h ⊢
    exact ⟨SVRep.turn hs hc c v h.1, SVReps.turn hs hc cs vs h.2⟩
end
theorem BlkRep.turn (hs : w.heap.size ≤ w'.heap.size) (hc : ∀ a v, w.cell? a = some v → w'.cell? a = some v) (hb : ∀ (b : Nat) (o : Obj), w.heap[b]? = some o → o.isCells = true → w'.heap[b]? = some o) {t : Nat} {blk : Blk} (h : BlkRep w M μ X t blk) : BlkRep w' M μ X t blk := by
  unfold BlkRep at *
  cases hm : μ t with
  | none => rw [hm] at h; exact h
  | some p =>
    rw [hm] at h
    obtain ⟨cur, h1, h2, h3, h4, h5⟩ := h
    exact ⟨cur, hb _ _ h1 rfl, h2, fun j c u hj hu => SVRep.turn hs hc c u (h3 j c u hj hu), h4, h5⟩
end
section
variable {cx : Cx} {S S' : St} {a : Act} {w w' : World} {μ : Nat → Option (Nat × Nat)}
theorem SimU.turn (h : SimU cx S a w μ) {row : Option Nat} (hg : w.grownBy w' row) (hr : ∀ r, row = some r → (cx.w0.heap.size ≤ r ∨ cx.Wr r) ∧ ∃ o : Obj, w.heap[r]? = some o ∧ o.isCells = false) : SimU cx S a w' μ := by
  have hr' : ∀ r, row = some r → ∃ o : Obj, w.heap[r]? = some o ∧ o.isCells = false := fun r e => (hr r e).2
  have hc : ∀ a v, w.cell? a = some v → w'.cell? a = some v := fun a v h1 => cell_kept h1 hg hr'
  have hb : ∀ (b : Nat) (o : Obj), w.heap[b]? = some o → o.isCells = true → w'.heap[b]? = some o := fun b o h1 h2 => (grownBy_keeps_cells hg hr' h1 h2).trans h1
  refine ⟨fun t g blk e => BlkRep.turn hg.size hc hb (h.blk t g blk e), fun i => SVRep.turn hg.size hc _ _ (h.slot i), fun t g blk b cap e hm => ⟨(h.place t g blk b cap e hm).1, Nat.lt_of_lt_of_le (h.place t g blk b cap e hm).2 hg.size⟩, h.uniq, h.anc, ?_, h.size, h.defers⟩
  refine h.below.then (Wr' := fun k => row = some k) ⟨hg.os, hg.tape, hg.output, hg.size, fun k hk hw => hg.block k hk (fun e => hw e.symm)⟩ fun i hi hw e => ?_
  rcases (hr i e).1 with h1 | h1
  · omega
  · exact hw h1
end
mutual
def DV.val : DV → Value
  | .bool b => .bool b
  | .int k n => .int k n
  | .str s => .string s
  | .agg cs => .agg (DV.vals cs).toArray
  | _ => undef
def DV.vals : List DV → List Value
  | [] => []
  | c :: cs => c.val :: DV.vals cs
end
mutual
def DV.free : DV → Bool
  | .bool _ => true
  | .int _ _ => true
  | .str _ => true
  | .agg cs => DV.frees cs
  | _ => false
def DV.frees : List DV → Bool
  | [] => true
  | c :: cs => c.free && DV.frees cs
end
theorem vals_len : ∀ cs : List DV, (DV.vals cs).length = cs.length
  | [] => rfl
  | _ :: cs => by simp [DV.vals, vals_len cs]
theorem vals_get : ∀ (cs : List DV) (j : Nat), (DV.vals cs)[j]? = (cs[j]?).map DV.val
  | [], j => by simp [DV.vals]
  | c :: cs, 0 => by simp [DV.vals]
  | c :: cs, j + 1 => by simp [DV.vals, vals_get cs j]
mutual
theorem free_rep {w : World} {X : Nat → Prop} : ∀ {d : DV}, d.free = true → RepD w X d d.val
  | .bool b, _ => .bool b
  | .int k n, _ => .int k n
  | .str s, _ => .str s
  | .agg cs, h => by
    simp only [DV.free] at h
    simp only [DV.val]
    refine .agg cs _ (by simp [vals_len]) fun j c hj => ?_
    have := frees_rep (w := w) (X := X) h j c hj
    simpa [vals_get, hj] using this
  | .list _, h | .cptr _, h | .nilptr, h | .fn .., h | .nilfn, h | .iface .., h | .nilIface, h => by simp [DV.free] at h
theorem frees_rep {w : World} {X : Nat → Prop} : ∀ {cs : List DV}, DV.frees cs = true → ∀ (j : Nat) c, cs[j]? = some c → RepD w X c c.val
  | [], _, j, c, hj => by simp at hj
  | c0 :: cs, h, 0, c, hj => by
    simp only [DV.frees, Bool.and_eq_true] at h
    simp only [List.getElem?_cons_zero, Option.some.injEq] at hj
    subst hj
    exact free_rep h.1
  | c0 :: cs, h, j + 1, c, hj => by
    simp only [DV.frees, Bool.and_eq_true] at h
    exact frees_rep h.2 j c (by simpa using hj)
end
def ASeq (P : Program) (gf : FuncId) (caps : List DV) (xs : List (List DV)) : Prop :=
  EnterP P gf ∧ (∀ x ∈ xs, DV.frees x = true) ∧ ∀ (l : Nat) (lb : Array Value) (J : Nat → World → Prop) (W : World), AbidesFrom W.heap.size J → (∀ k W', J k W' → Args W' (fun _ => False) caps lb) →
    (∀ k x W1, xs[k]? = some x → J k W1 → YieldAt Fence.wide 0 P l (DV.vals x).toArray W1 fun e W' => e = .returned (.bool true) ∧ J (k + 1) W') →
    J 0 W → CallsIn Fence.wide 0 P gf (#[.func (.yield l) #[] #[]] ++ lb) W fun e W' => (∃ v, e = .returned v) ∧ J xs.length W'
def FinR (P : Program) (fn : Func) (ds : List DV) (w0 : World) (Wr : Nat → Prop) (a : Act) (w : World) : Prop :=
  ∃ (D : Nat) (us : List Value), a.defers = [{ target := .collected D, args := #[] }] ∧ w.heap[D]? = some (.deferred (some [])) ∧ w0.heap.size ≤ D ∧ BelowW Wr w0 w ∧
    (results fn a.tmps).run P (w.putObj D (.deferred none)) = .ok (valOf us) (w.putObj D (.deferred none)) ∧ us.length = ds.length ∧ ∀ (j : Nat) d u, ds[j]? = some d → us[j]? = some u → RepD w (fun _ => True) d u
def EndS (P : Program) (rv : List ResultVar) (ds : List DV) : Exit → St → Prop := fun e S => e = .ret ∧ DV.frees ds = true ∧ resSV P S rv = some (ds.map .dv)
theorem rep_free {w : World} {X : Nat → Prop} {d : DV} {v : Value} (h : RepD w X d v) : d.free = true → ∀ Y w', RepD w' Y d v := by
  induction h with
  | bool b => exact fun _ _ _ => .bool b
  | int k n => exact fun _ _ _ => .int k n
  | str s => exact fun _ _ _ => .str s
  | agg cs vs hsz _ ih =>
    intro hf Y w'
    simp only [DV.free] at hf
    refine .agg cs vs hsz fun j c hj => ih j c hj ?_ Y w'
    have : ∀ (cs : List DV) (j : Nat) c, DV.frees cs = true → cs[j]? = some c → c.free = true := by
      intro cs
      induction cs with
      | nil => intro j c _ h; simp at h
      | cons c0 cs ih =>
        intro j c h hj
        simp only [DV.frees, Bool.and_eq_true] at h
        cases j with
        | zero => simp only [List.getElem?_cons_zero, Option.some.injEq] at hj; subst hj; exact h.1
        | succ j => exact ih j c h.2 (by simpa using hj)
    exact this cs j c hf hj
  | nilptr | nilfn | nilIface | iface | listNil | list | cptr | fn => intro hf; simp [DV.free] at hf
end Go.Ab
set_option linter.all false
namespace Go.Ab
open Go.RowKit
def setPs : List Nat → List DV → (Nat → SV) → Nat → SV
  | p :: ps, d :: ds, F => setPs ps ds (upd F p (.dv d))
  | _, _, F => F
section
variable {cx : Cx} {S S' : St} {a : Act} {w w' : World} {μ : Nat → Option (Nat × Nat)}
def Cx.loose (cx : Cx) : Cx := { cx with Wr := fun _ => True }
theorem SimU.loose (h : SimU cx S a w μ) : SimU cx.loose S a w μ :=
  ⟨h.blk, h.slot, fun t g blk b cap e hm => ⟨.inr trivial, (h.place t g blk b cap e hm).2⟩, h.uniq, h.anc, ⟨h.below.os, h.below.tape, h.below.output, h.below.size, fun k hk hw => (hw trivial).elim⟩, h.size, h.defers⟩
theorem sim_params : ∀ (ps : List Nat) (x : List DV) (a : Act) (F : Nat → SV) (M : Nat → Nat × Option Blk), SimU cx ⟨F, M⟩ a w μ → (∀ p ∈ ps, p < cx.n) → DV.frees x = true →
    SimU cx ⟨setPs ps x F, M⟩ { a with tmps := (ps.zip (DV.vals x)).foldl (fun t (p, v) => t.setIfInBounds p v) a.tmps } w μ
  | [], x, a, F, M, h, _, _ => by simpa [setPs] using h
  | _ :: _, [], a, F, M, h, _, _ => by simpa [setPs, DV.vals] using h
  | p :: ps, d :: x, a, F, M, h, hp, hx => by
    simp only [DV.frees, Bool.and_eq_true] at hx
    have h1 := h.set (d := p) (hp p (by simp)) (r := .dv d) (v := d.val) (by simp only [SVRep]; exact free_rep hx.1)
    exact sim_params ps x (a.put (some p) d.val) (upd F p (.dv d)) M h1 (fun q hq => hp q (List.mem_cons_of_mem _ hq)) hx.2
def roundK (cx : Cx) (N : Nat → Nat × Option Blk) : Exit → St → Prop := fun e S => e = .normal ∧ Le cx S ⟨fun _ => .dead, N⟩
def assignK (P : Program) (n : Nat) (body : Code) (N : Nat → Nat × Option Blk) : Exit → St → Prop := fun e S => e = .normal ∧ ∀ cx' : Cx, cx'.P = P → cx'.n = n → cx'.Good → AWp cx' body (roundK cx' N) S
def RoundOk (cx : Cx) (ps : List Nat) (assign body : Code) (F : Nat → SV) (M1 : Nat → Nat × Option Blk) (x : List DV) (inv' : Nat → Nat × Option Blk) : Prop :=
  ∃ (τ : Nat → Option Nat) (M0 : Nat → Nat × Option Blk) (F0 : Nat → SV) (N M2 : Nat → Nat × Option Blk) (σ : Nat → Option Nat) (ρ : Nat → Option (Nat × Nat)),
    LentOk τ M1 M0 ∧ (∀ i, svLe τ M1 M0 (F0 i) (F i)) ∧ BackOk τ M1 N M2 σ ρ ∧ Le cx ⟨F, M2⟩ ⟨F, inv'⟩ ∧
    ∀ cx' : Cx, cx'.P = cx.P → cx'.n = cx.n → cx'.Good → AWp cx' assign (assignK cx.P cx.n body N) ⟨setPs ps x F0, M0⟩
theorem own_cells (h : SimU cx S a w μ) {b : Nat} (hb : Own S.M μ b) : ∃ o, w.heap[b]? = some o ∧ o.isCells = true := by
  obtain ⟨t, g, blk, cap, e1, _, e3⟩ := hb
  have := h.blk t g blk e1
  unfold BlkRep at this
  rw [e3] at this
  obtain ⟨cur, h1, _⟩ := this
  exact ⟨_, h1, rfl⟩
theorem round_in (hg : cx.Good) (h : SimU cx ⟨S.F, S.M⟩ a w μ) {ps : Array Nat} {assign body : Code} {x : List DV} {inv' : Nat → Nat × Option Blk} (hps : ∀ p ∈ ps.toList, p < cx.n) (hx : DV.frees x = true) (ok : RoundOk cx ps.toList assign body S.F S.M x inv')
    {l D : Nat} {rec : LoopState → Loop} (hl : w.heap[l]? = some (.loop (rec .ready))) (hl0 : cx.w0.heap.size ≤ l) (hD : w.heap[D]? = some (.deferred (some []))) (hDl : D ≠ l) (hrec1 : ∀ s, (rec s).state = s) (hrec2 : ∀ s s', { rec s with state := s' } = rec s') (hrec3 : ∀ s, (rec s).pending = none) {fn : FuncId} :
    RoundIn Fence.wide 0 cx.P l fn ((ps.zip (DV.vals x).toArray).foldl (fun t (p, v) => t.setIfInBounds p v) a.tmps) assign body w fun e W' => e = .returned (.bool true) ∧ (∃ μ', SimU cx ⟨S.F, inv'⟩ a W' μ') ∧ W'.heap[l]? = some (.loop (rec .ready)) ∧ W'.heap[D]? = some (.deferred (some [])) := by
  obtain ⟨τ, M0, F0, N, M2, σ, ρ, hL, hF0, hB, hle, hbody⟩ := ok
  obtain ⟨hMem, hW, hrep⟩ := lent_mem (S := S) hg h hL
  have nl : ∀ {b : Nat} {o : Obj}, w.heap[b]? = some o → o.isCells = true → b ≠ l := fun h1 h2 e => by
    subst e; rw [hl] at h1; cases h1; cases h2
  have hownc : ∀ b, Own M0 (relμ τ μ) b → ∃ o, w.heap[b]? = some o ∧ o.isCells = true := fun b hb => by
    obtain ⟨_, t, g, blk, cap, e1, e2, e3, _⟩ := hW b hb
    exact own_cells h ⟨t, g, blk, cap, e1, e2, e3⟩
  -- the frame of the round
  let cxA : Cx := { P := cx.P, w0 := w, n := cx.n, Wr := Own M0 (relμ τ μ), X0 := fun b => XX cx S.M μ b ∧ ¬ Own M0 (relμ τ μ) b, loc := relμ τ μ, rnd := some l }
  have hX0 : ∀ b, XX cx S.M μ b → b < w.heap.size := fun b hb => by
    rcases hb with ⟨t, g, blk, cap, e1, _, e3⟩ | hx
    · exact (h.place t g blk b cap e1 e3).2
    · exact Nat.lt_of_lt_of_le (hg.1 b hx).1 h.below.size
  have hgA : cxA.Good := ⟨fun b hb => ⟨hX0 b hb.1, hb.2⟩, (h.laid hg).1, fun g hk => ⟨fun hx => (h.laid hg).2 g hk hx.1, fun hx => (h.laid hg).2 g hk (hW g hx).1⟩⟩
  have hA0 : SimU cxA ⟨F0, M0⟩ { tmps := a.tmps, defers := [] } w (relμ τ μ) := by
    refine ⟨hMem.blk, fun i => ?_, fun t g blk b cap e hm => ⟨.inr (hMem.place t g blk b cap e hm).1, (hMem.place t g blk b cap e hm).2⟩, hMem.uniq, hMem.anc, BelowW.refl _ _, h.size, rfl⟩
    have := hrep [F0 i] [S.F i] [a.tmps.getD i undef] (by simp only [svLes]; exact ⟨hF0 i, trivial⟩) (by simp only [SVReps]; exact ⟨h.slot i, trivial⟩)
    simp only [SVReps, and_true] at this
    exact this
  have hA1 := sim_params ps.toList x _ _ _ hA0 hps hx
  have hzip : (ps.zip (DV.vals x).toArray).foldl (fun t (p, v) => t.setIfInBounds p v) a.tmps = (ps.toList.zip (DV.vals x)).foldl (fun t (p, v) => t.setIfInBounds p v) a.tmps := by
    rw [← Array.foldl_toList, Array.toList_zip]
  refine roundIn_of_wpIn (F := Fence.wide) trivial ?_
  rw [hzip]
  refine wpIn_mono (hbody cxA rfl rfl hgA _ w ⟨_, hA1⟩) ?_
  rintro e a1 W1 (⟨S1, ⟨ν1, h1⟩, rfl, hb⟩ | ⟨_, hf⟩)
  rotate_left
  · exact (show False from hf).elim
  -- the record turns busy
  have hl1 : W1.heap[l]? = some (.loop (rec .ready)) := by
    rw [h1.below.block l (Array.getElem?_eq_some_iff.1 hl).1 (fun hw => by obtain ⟨o, h2, h3⟩ := hownc l hw; exact nl h2 h3 rfl)]; exact hl
  have hlt1 := (Array.getElem?_eq_some_iff.1 hl1).1
  have hbr := run_beginRound (P := cx.P) hl1 (hrec1 _)
  rw [hrec2] at hbr
  refine ⟨_, hbr, ?_⟩
  obtain ⟨W2, hW2⟩ : ∃ W2, W1.putObj l (.loop (rec .busy)) = W2 := ⟨_, rfl⟩
  rw [hW2]
  have hl2 : W2.heap[l]? = some (.loop (rec .busy)) := by rw [← hW2]; exact World.putObj_heap_same hlt1
  have hs2 : W2.heap.size = W1.heap.size := by rw [← hW2]; simp
  have ho2 : ∀ k, k ≠ l → W2.heap[k]? = W1.heap[k]? := fun k hk => by rw [← hW2]; exact World.putObj_heap_other hk
  have h2 : SimU cxA.loose S1 a1 W2 ν1 := by
    rw [← hW2]
    exact h1.loose.turn (grownBy_putObj' W1 l _) (fun r e => by cases e; exact ⟨.inr trivial, _, hl1, rfl⟩)
  let cxB : Cx := { P := cx.P, w0 := W2, n := cx.n, Wr := fun b => ∃ t g blk cap, S1.M t = (g, some blk) ∧ ν1 t = some (b, cap), X0 := cxA.X0, loc := relμ τ μ, rnd := some l }
  have hplB : ∀ b, cxB.Wr b → (w.heap.size ≤ b ∨ Own M0 (relμ τ μ) b) ∧ b < W1.heap.size := fun b ⟨t, g, blk, cap, e1, e2⟩ => h1.place t g blk b cap e1 e2
  have hgB : cxB.Good := by
    refine ⟨fun b hb => ⟨?_, fun hw => ?_⟩, ?_, fun g hk => ⟨(hgA.2.2 g hk).1, fun hw => ?_⟩⟩
    · exact Nat.lt_of_lt_of_le (hgA.1 b hb).1 (by rw [hs2]; exact h1.below.size)
    · rcases (hplB b hw).1 with h3 | h3
      · have := (hgA.1 b hb).1; exact absurd this (Nat.not_lt.2 h3)
      · exact (hgA.1 b hb).2 h3
    · refine (h1.laid hgA).1.keep fun g hk => ho2 g fun e => ?_
      subst e
      obtain ⟨p, hp, e⟩ := hk
      subst e
      obtain ⟨⟨cur, t, hc, _⟩, _⟩ := (h1.laid hgA).1 p hp
      rw [hl1] at hc
      cases hc
    · rcases (hplB g hw).1 with h3 | h3
      · have := hgA.2.1.lt hk; exact absurd this (Nat.not_lt.2 h3)
      · exact (hgA.2.2 g hk).2 h3
  have hB2 : SimU cxB S1 a1 W2 ν1 := ⟨h2.blk, h2.slot, fun t g blk b cap e hm => ⟨.inr ⟨t, g, blk, cap, e, hm⟩, (h2.place t g blk b cap e hm).2⟩, h2.uniq, h2.anc, BelowW.refl _ _, h2.size, h2.defers⟩
  refine wpIn_mono (hb cxB rfl rfl hgB _ W2 ⟨_, hB2⟩) ?_
  rintro e a2 W3 (⟨S2, h3, rfl, hle2⟩ | ⟨_, hf⟩)
  rotate_left
  · exact (show False from hf).elim
  obtain ⟨ν, h4⟩ := hle2 _ _ h3
  have hwl : ∀ b, cxB.Wr b → b ≠ l := fun b hw e => by
    subst e
    obtain ⟨t, g, blk, cap, e1, e2⟩ := hw
    have := h1.blk t g blk e1
    unfold BlkRep at this
    rw [e2] at this
    obtain ⟨cur, h5, _⟩ := this
    rw [hl1] at h5
    cases h5
  have hl3 : W3.heap[l]? = some (.loop (rec .busy)) := by
    rw [h4.below.block l (by show l < W2.heap.size; rw [hs2]; exact hlt1) (fun hw => hwl l hw rfl)]; exact hl2
  have her := run_endRound (P := cx.P) none hl3
  simp only [Option.isNone_none, if_true] at her
  have hpe : ({ rec .busy with state := .ready, pending := none } : Loop) = rec .ready := by
    have e1 := hrec2 .busy .ready
    have e2 := hrec3 .ready
    rw [← e1] at e2 ⊢
    simp only at e2
    rw [← e2]
  rw [hpe] at her
  refine ⟨_, _, her, rfl, ?_⟩
  obtain ⟨W4, hW4⟩ : ∃ W4, W3.putObj l (.loop (rec .ready)) = W4 := ⟨_, rfl⟩
  rw [hW4]
  have hlt3 := (Array.getElem?_eq_some_iff.1 hl3).1
  have hl4 : W4.heap[l]? = some (.loop (rec .ready)) := by rw [← hW4]; exact World.putObj_heap_same hlt3
  have ho4 : ∀ k, k ≠ l → W4.heap[k]? = W3.heap[k]? := fun k hk => by rw [← hW4]; exact World.putObj_heap_other hk
  have hs4 : W4.heap.size = W3.heap.size := by rw [← hW4]; simp
  have h5 : SimU cxB.loose ⟨fun _ => .dead, N⟩ a2 W4 ν := by
    rw [← hW4]
    exact h4.loose.turn (grownBy_putObj' W3 l _) (fun r e => by cases e; exact ⟨.inr trivial, _, hl3, rfl⟩)
  have hb3 := h4.below
  have hb1 := h1.below
  have hbel : BelowW (Own M0 (relμ τ μ)) w W4 := by
    refine ⟨?_, ?_, ?_, ?_, fun k hk hw => ?_⟩
    · rw [← hW4]; exact hb3.os.trans (by show W2.os = w.os; rw [← hW2]; exact hb1.os)
    · rw [← hW4]; exact hb3.tape.trans (by show W2.tape = w.tape; rw [← hW2]; exact hb1.tape)
    · rw [← hW4]; exact hb3.output.trans (by show W2.output = w.output; rw [← hW2]; exact hb1.output)
    · have q1 := hb3.size
      have q2 := hb1.size
      change W2.heap.size ≤ W3.heap.size at q1
      change w.heap.size ≤ W1.heap.size at q2
      rw [hs4]; omega
    · by_cases hkl : k = l
      · subst hkl; rw [hl4, hl]
      · rw [ho4 k hkl, hb3.block k ?_ ?_]
        · show W2.heap[k]? = _
          rw [ho2 k hkl]
          exact hb1.block k hk hw
        · show k < W2.heap.size
          rw [hs2]; exact Nat.lt_of_lt_of_le hk hb1.size
        · intro hw2
          rcases (hplB k hw2).1 with h6 | h6
          · omega
          · exact hw h6
  have hN : MemU W4 (fun b => Own N ν b ∨ (XX cx S.M μ b ∧ ¬ Own M0 (relμ τ μ) b)) (fun b => w.heap.size ≤ b ∨ Own M0 (relμ τ μ) b) (relμ τ μ) N ν := by
    refine ⟨h5.blk, fun t g blk b cap e hm => ⟨?_, (h5.place t g blk b cap e hm).2⟩, h5.uniq, h5.anc⟩
    rcases (h4.place t g blk b cap e hm).1 with h6 | h6
    · change W2.heap.size ≤ b at h6
      have := hb1.size
      change w.heap.size ≤ W1.heap.size at this
      rw [hs2] at h6
      exact .inl (by omega)
    · exact (hplB b h6).1
  obtain ⟨μ2, h6, _⟩ := back_sim (S := S) hg h hL hB hbel hN
  refine ⟨hle _ _ ⟨_, h6⟩, hl4, ?_⟩
  have hDs := (Array.getElem?_eq_some_iff.1 hD).1
  rw [hbel.block D hDs (fun hw => by
    obtain ⟨o, q1, q2⟩ := hownc D hw
    rw [hD] at q1; cases q1; cases q2)]
  exact hD
end
end Go.Ab
