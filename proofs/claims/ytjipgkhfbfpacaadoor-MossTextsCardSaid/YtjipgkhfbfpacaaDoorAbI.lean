/- Ab37, Ab38, Ab39, Ab40, Ab41, Ab42, Ab43. -/
import Derived.Test.YtjipgkhfbfpacaaDoorAbH
import Derived.Test.YtjipgkhfbfpacaaDoorAbF
import Derived.Deep.Strs
set_option linter.all false
namespace Go.Ab
open Go.RowKit
def andn (a b : Nat) : Nat := a ^^^ (a &&& b)
theorem and36 {a b : Nat} (ha : a < 68719476736) : a &&& b < 68719476736 := Nat.lt_of_le_of_lt Nat.and_le_left ha
theorem or36 {a b : Nat} (ha : a < 68719476736) (hb : b < 68719476736) : a ||| b < 68719476736 := Nat.or_lt_two_pow (n := 36) ha hb
theorem andn36 {a b : Nat} (ha : a < 68719476736) : andn a b < 68719476736 := Nat.xor_lt_two_pow (n := 36) ha (and36 ha)
theorem two36 {n : Nat} (h : n ≤ 35) : 2 ^ n < 68719476736 := Nat.pow_lt_pow_of_lt (a := 2) (n := n) (m := 36) (by decide) (by omega)
theorem bv_and {a b : Nat} (ha : a < 18446744073709551616) (hb : b < 18446744073709551616) : (BitVec.ofInt 64 (a : Int) &&& BitVec.ofInt 64 (b : Int)).toNat = a &&& b := by
  rw [BitVec.toNat_and, BitVec.toNat_ofInt, BitVec.toNat_ofInt]
  congr 1 <;> omega
theorem bv_or {a b : Nat} (ha : a < 18446744073709551616) (hb : b < 18446744073709551616) : (BitVec.ofInt 64 (a : Int) ||| BitVec.ofInt 64 (b : Int)).toNat = a ||| b := by
  rw [BitVec.toNat_or, BitVec.toNat_ofInt, BitVec.toNat_ofInt]
  congr 1 <;> omega
section
variable {P : Program} {S : St} {x y : Operand} {t e by' tg g o : Nat} {ob : Option Blk}
theorem m_andS {a b : Nat} {t2 : TypeId} (hx : S.ev x = .dv (.int .i64 (a : Int)) := by (simp only [St.look, St.ev, lk, mkM, blkOf, svOf, svOfCell, reduceIte, Nat.reduceAdd, Nat.reduceEqDiff, Nat.reduceMul] <;> rfl)) (hy : S.ev y = .dv (.int .i64 (b : Int)) := by (simp only [St.look, St.ev, lk, mkM, blkOf, svOf, svOfCell, reduceIte, Nat.reduceAdd, Nat.reduceEqDiff, Nat.reduceMul] <;> rfl)) (ha : a < 68719476736 := by (first | assumption | omega | decide | (repeat' (first | assumption | exact two36 (by omega) | apply or36 | apply and36 | apply andn36 | omega | decide)))) (hb : b < 68719476736 := by (first | assumption | omega | decide | (repeat' (first | assumption | exact two36 (by omega) | apply or36 | apply and36 | apply andn36 | omega | decide)))) : outOf P S (.binOp .and t x y t2) = some (.val (.dv (.int .i64 ((a &&& b : Nat) : Int)))) := by
  simp only [outOf, binSV, hx, hy, intBin, if_true, Option.map_some]
  have e' : ((BitVec.ofInt IntKind.i64.bits (a : Int) &&& BitVec.ofInt IntKind.i64.bits (b : Int)).toNat : Int) = ((a &&& b : Nat) : Int) := congrArg Int.ofNat (bv_and (by omega) (by omega))
  have := and36 (b := b) ha
  rw [e', wrap_i64 (by omega) (by omega)]
theorem m_andW {a b : Nat} {t2 : TypeId} (hx : S.ev x = .dv (.int .i64 (a : Int)) := by (simp only [St.look, St.ev, lk, mkM, blkOf, svOf, svOfCell, reduceIte, Nat.reduceAdd, Nat.reduceEqDiff, Nat.reduceMul] <;> rfl)) (hy : S.ev y = .dv (.int .i64 (b : Int)) := by (simp only [St.look, St.ev, lk, mkM, blkOf, svOf, svOfCell, reduceIte, Nat.reduceAdd, Nat.reduceEqDiff, Nat.reduceMul] <;> rfl)) (ha : a < 9223372036854775808 := by (first | omega | (simp only [Int.toNat_natCast, List.length_map, List.length_append, List.length_cons, List.length_nil, List.length_take, List.length_drop, List.length_set, List.length_replicate, Nat.zero_add, Nat.mul_one] <;> omega) | (simp <;> omega))) (hb : b < 9223372036854775808 := by (first | omega | (simp only [Int.toNat_natCast, List.length_map, List.length_append, List.length_cons, List.length_nil, List.length_take, List.length_drop, List.length_set, List.length_replicate, Nat.zero_add, Nat.mul_one] <;> omega) | (simp <;> omega))) : outOf P S (.binOp .and t x y t2) = some (.val (.dv (.int .i64 ((a &&& b : Nat) : Int)))) := by
  simp only [outOf, binSV, hx, hy, intBin, if_true, Option.map_some]
  have e' : ((BitVec.ofInt IntKind.i64.bits (a : Int) &&& BitVec.ofInt IntKind.i64.bits (b : Int)).toNat : Int) = ((a &&& b : Nat) : Int) := congrArg Int.ofNat (bv_and (by omega) (by omega))
  have : a &&& b ≤ a := Nat.and_le_left
  rw [e', wrap_i64 (by omega) (by omega)]
theorem m_orS {a b : Nat} {t2 : TypeId} (hx : S.ev x = .dv (.int .i64 (a : Int)) := by (simp only [St.look, St.ev, lk, mkM, blkOf, svOf, svOfCell, reduceIte, Nat.reduceAdd, Nat.reduceEqDiff, Nat.reduceMul] <;> rfl)) (hy : S.ev y = .dv (.int .i64 (b : Int)) := by (simp only [St.look, St.ev, lk, mkM, blkOf, svOf, svOfCell, reduceIte, Nat.reduceAdd, Nat.reduceEqDiff, Nat.reduceMul] <;> rfl)) (ha : a < 68719476736 := by (first | assumption | omega | decide | (repeat' (first | assumption | exact two36 (by omega) | apply or36 | apply and36 | apply andn36 | omega | decide)))) (hb : b < 68719476736 := by (first | assumption | omega | decide | (repeat' (first | assumption | exact two36 (by omega) | apply or36 | apply and36 | apply andn36 | omega | decide)))) : outOf P S (.binOp .or t x y t2) = some (.val (.dv (.int .i64 ((a ||| b : Nat) : Int)))) := by
  simp only [outOf, binSV, hx, hy, intBin, if_true, Option.map_some]
  have e' : ((BitVec.ofInt IntKind.i64.bits (a : Int) ||| BitVec.ofInt IntKind.i64.bits (b : Int)).toNat : Int) = ((a ||| b : Nat) : Int) := congrArg Int.ofNat (bv_or (by omega) (by omega))
  have := or36 ha hb
  rw [e', wrap_i64 (by omega) (by omega)]
theorem m_shlS {k : IntKind} {z : Int} (b : Nat) {t2 : TypeId} (hx : S.ev x = .dv (.int .i64 1) := by (simp only [St.look, St.ev, lk, mkM, blkOf, svOf, svOfCell, reduceIte, Nat.reduceAdd, Nat.reduceEqDiff, Nat.reduceMul] <;> rfl)) (hy : S.ev y = .dv (.int k z) := by (simp only [St.look, St.ev, lk, mkM, blkOf, svOf, svOfCell, reduceIte, Nat.reduceAdd, Nat.reduceEqDiff, Nat.reduceMul] <;> rfl)) (hz : z = (b : Int) := by (first | rfl | omega)) (hb : b ≤ 62 := by (first | omega | (simp only [Int.toNat_natCast, List.length_map, List.length_append, List.length_cons, List.length_nil, List.length_take, List.length_drop, List.length_set, List.length_replicate, Nat.zero_add, Nat.mul_one] <;> omega) | (simp <;> omega))) : outOf P S (.binOp .shl t x y t2) = some (.val (.dv (.int .i64 ((2 ^ b : Nat) : Int)))) := by
  subst hz
  have e : min b 64 = b := by omega
  simp only [outOf, binSV, hx, hy, shiftBin]
  rw [if_neg (by omega)]
  have h2 : 2 ^ b ≤ 4611686018427387904 := (Nat.pow_le_pow_right (by decide) hb : 2 ^ b ≤ 2 ^ 62)
  have h3 : (1 : Int) * 2 ^ b = ((2 ^ b : Nat) : Int) := by rw [Int.one_mul]; norm_cast
  simp only [Int.toNat_natCast, IntKind.bits, e, Option.map_some]
  rw [h3]
  generalize 2 ^ b = q at *
  rw [wrap_i64 (by omega) (by omega)]
theorem m_shrS {k : IntKind} {a : Nat} {z : Int} (b : Nat) {t2 : TypeId} (hx : S.ev x = .dv (.int .i64 (a : Int)) := by (simp only [St.look, St.ev, lk, mkM, blkOf, svOf, svOfCell, reduceIte, Nat.reduceAdd, Nat.reduceEqDiff, Nat.reduceMul] <;> rfl)) (hy : S.ev y = .dv (.int k z) := by (simp only [St.look, St.ev, lk, mkM, blkOf, svOf, svOfCell, reduceIte, Nat.reduceAdd, Nat.reduceEqDiff, Nat.reduceMul] <;> rfl)) (hz : z = (b : Int) := by (first | rfl | omega)) (hb : b ≤ 62 := by (first | omega | (simp only [Int.toNat_natCast, List.length_map, List.length_append, List.length_cons, List.length_nil, List.length_take, List.length_drop, List.length_set, List.length_replicate, Nat.zero_add, Nat.mul_one] <;> omega) | (simp <;> omega))) : outOf P S (.binOp .shr t x y t2) = some (.val (.dv (.int .i64 ((a / 2 ^ b : Nat) : Int)))) := by
  subst hz
  exact m_shr hx hy hb
theorem wrap_u64' {n : Int} (h1 : 0 ≤ n) (h2 : n < 18446744073709551616) : IntKind.u64.wrap n = n := by
  have e : IntKind.u64.wrap n = n % 18446744073709551616 := by
    simp only [IntKind.wrap, IntKind.bits, IntKind.signed]
    rfl
  rw [e]; omega
theorem m_andU {a b : Nat} {t2 : TypeId} (hx : S.ev x = .dv (.int .u64 (a : Int)) := by (simp only [St.look, St.ev, lk, mkM, blkOf, svOf, svOfCell, reduceIte, Nat.reduceAdd, Nat.reduceEqDiff, Nat.reduceMul] <;> rfl)) (hy : S.ev y = .dv (.int .u64 (b : Int)) := by (simp only [St.look, St.ev, lk, mkM, blkOf, svOf, svOfCell, reduceIte, Nat.reduceAdd, Nat.reduceEqDiff, Nat.reduceMul] <;> rfl)) (ha : a < 18446744073709551616 := by (first | omega | (simp only [Int.toNat_natCast, List.length_map, List.length_append, List.length_cons, List.length_nil, List.length_take, List.length_drop, List.length_set, List.length_replicate, Nat.zero_add, Nat.mul_one] <;> omega) | (simp <;> omega))) (hb : b < 18446744073709551616 := by (first | omega | (simp only [Int.toNat_natCast, List.length_map, List.length_append, List.length_cons, List.length_nil, List.length_take, List.length_drop, List.length_set, List.length_replicate, Nat.zero_add, Nat.mul_one] <;> omega) | (simp <;> omega))) : outOf P S (.binOp .and t x y t2) = some (.val (.dv (.int .u64 ((a &&& b : Nat) : Int)))) := by
  simp only [outOf, binSV, hx, hy, intBin, if_true, Option.map_some]
  have e' : ((BitVec.ofInt IntKind.u64.bits (a : Int) &&& BitVec.ofInt IntKind.u64.bits (b : Int)).toNat : Int) = ((a &&& b : Nat) : Int) := congrArg Int.ofNat (bv_and (by omega) (by omega))
  have : a &&& b ≤ a := Nat.and_le_left
  rw [e', wrap_u64' (by omega) (by omega)]
theorem m_addU {a b : Nat} {t2 : TypeId} (hx : S.ev x = .dv (.int .u64 (a : Int)) := by (simp only [St.look, St.ev, lk, mkM, blkOf, svOf, svOfCell, reduceIte, Nat.reduceAdd, Nat.reduceEqDiff, Nat.reduceMul] <;> rfl)) (hy : S.ev y = .dv (.int .u64 (b : Int)) := by (simp only [St.look, St.ev, lk, mkM, blkOf, svOf, svOfCell, reduceIte, Nat.reduceAdd, Nat.reduceEqDiff, Nat.reduceMul] <;> rfl)) (h : a + b < 18446744073709551616 := by (first | omega | (simp only [Int.toNat_natCast, List.length_map, List.length_append, List.length_cons, List.length_nil, List.length_take, List.length_drop, List.length_set, List.length_replicate, Nat.zero_add, Nat.mul_one] <;> omega) | (simp <;> omega))) : outOf P S (.binOp .add t x y t2) = some (.val (.dv (.int .u64 ((a + b : Nat) : Int)))) := by
  simp only [outOf, binSV, hx, hy, intBin, if_true, Option.map_some]
  rw [show (a : Int) + (b : Int) = ((a + b : Nat) : Int) from by omega, wrap_u64' (by omega) (by omega)]
theorem m_mulU {a b : Nat} {t2 : TypeId} (hx : S.ev x = .dv (.int .u64 (a : Int)) := by (simp only [St.look, St.ev, lk, mkM, blkOf, svOf, svOfCell, reduceIte, Nat.reduceAdd, Nat.reduceEqDiff, Nat.reduceMul] <;> rfl)) (hy : S.ev y = .dv (.int .u64 (b : Int)) := by (simp only [St.look, St.ev, lk, mkM, blkOf, svOf, svOfCell, reduceIte, Nat.reduceAdd, Nat.reduceEqDiff, Nat.reduceMul] <;> rfl)) : outOf P S (.binOp .mul t x y t2) = some (.val (.dv (.int .u64 ((a * b % 18446744073709551616 : Nat) : Int)))) := by
  simp only [outOf, binSV, hx, hy, intBin, if_true, Option.map_some]
  have e : IntKind.u64.wrap ((a : Int) * (b : Int)) = ((a : Int) * (b : Int)) % 18446744073709551616 := by
    simp only [IntKind.wrap, IntKind.bits, IntKind.signed]
    rfl
  rw [e]
  congr 4
theorem m_negU {a : Nat} (hx : S.ev x = .dv (.int .u64 (a : Int)) := by (simp only [St.look, St.ev, lk, mkM, blkOf, svOf, svOfCell, reduceIte, Nat.reduceAdd, Nat.reduceEqDiff, Nat.reduceMul] <;> rfl)) (ha : a < 18446744073709551616 := by (first | omega | (simp only [Int.toNat_natCast, List.length_map, List.length_append, List.length_cons, List.length_nil, List.length_take, List.length_drop, List.length_set, List.length_replicate, Nat.zero_add, Nat.mul_one] <;> omega) | (simp <;> omega))) (h0 : 0 < a := by (first | omega | (simp only [Int.toNat_natCast, List.length_map, List.length_append, List.length_cons, List.length_nil, List.length_take, List.length_drop, List.length_set, List.length_replicate, Nat.zero_add, Nat.mul_one] <;> omega) | (simp <;> omega))) : outOf P S (.unOp .neg t x) = some (.val (.dv (.int .u64 ((18446744073709551616 - a : Nat) : Int)))) := by
  simp only [outOf, unSV, hx, Option.map_some]
  have e : IntKind.u64.wrap (0 - (a : Int)) = (0 - (a : Int)) % 18446744073709551616 := by
    simp only [IntKind.wrap, IntKind.bits, IntKind.signed]
    rfl
  rw [e]
  congr 4
  omega
theorem m_shrU {a b : Nat} {k : IntKind} {t2 : TypeId} (hx : S.ev x = .dv (.int .u64 (a : Int)) := by (simp only [St.look, St.ev, lk, mkM, blkOf, svOf, svOfCell, reduceIte, Nat.reduceAdd, Nat.reduceEqDiff, Nat.reduceMul] <;> rfl)) (hy : S.ev y = .dv (.int k (b : Int)) := by (simp only [St.look, St.ev, lk, mkM, blkOf, svOf, svOfCell, reduceIte, Nat.reduceAdd, Nat.reduceEqDiff, Nat.reduceMul] <;> rfl)) (hb : b ≤ 63 := by (first | omega | (simp only [Int.toNat_natCast, List.length_map, List.length_append, List.length_cons, List.length_nil, List.length_take, List.length_drop, List.length_set, List.length_replicate, Nat.zero_add, Nat.mul_one] <;> omega) | (simp <;> omega))) : outOf P S (.binOp .shr t x y t2) = some (.val (.dv (.int .u64 ((a / 2 ^ b : Nat) : Int)))) := by
  have e : min b 64 = b := by omega
  simp only [outOf, binSV, hx, hy, shiftBin]
  rw [if_neg (by omega)]
  simp only [Int.toNat_natCast, IntKind.bits, e, Option.map_some]
  have : ((a : Int).fdiv (2 ^ b)) = ((a / 2 ^ b : Nat) : Int) := by
    rw [Int.fdiv_eq_ediv_of_nonneg _ (by exact_mod_cast Nat.zero_le _)]
    push_cast
    rfl
  rw [this]
end
end Go.Ab
set_option linter.all false
set_option linter.unusedSimpArgs false
namespace Go.Ab
open Go.RowKit
theorem index_arr {P : Program} {t elem : TypeId} {len : Nat} (ht : P.underlying t = some (.array len elem)) (hs : szP P elem = some 1) (g : Nat) (k : IntKind) (i : Nat) (hi : i < len) (w : World) :
    (Instr.indexAt t (.pointer (some ⟨g, 0, none⟩)) (.int k (i : Int))).run P w = .ok (.pointer (some ⟨g, i, none⟩)) w := by
  unfold szP at hs
  obtain ⟨inf, h1, h2⟩ := Option.map_eq_some_iff.1 hs
  have hi' : (i : Int) < (len : Int) := by omega
  simp [Instr.indexAt, asIntOf, Instr.sureAddr, run_underlying ht, hi', sizeOf, typeInfo, h1, h2, Addr.add, hi]
  by_cases h0 : i = 0
  · subst h0; simp
  · simp [h0]
section
variable {cx : Cx} {P : Program} {N : Nat} {ops : Array Oper} {rest : List Oper} {l : List (Nat × SV)} {m : List (Nat × Nat × Option Blk)} {K : St → Prop}
  {d : Nat} {ty : TypeId} {p : String} {af : Array Edge} {gd : Option (Nat × Bool)}
theorem qgix {t elem : TypeId} {len g i : Nat} {y : Operand} {k : IntKind} {z : Int} {c : DV} {vals : List Value} (ht : P.underlying t = some (.array len elem)) (hs : szP P elem = some 1) (hl : (g, vals.map fun u v => v = u) ∈ laidTab) (hv : vals[i]? = some c.val) (hf : c.free = true) (hi : i < len)
    (hz : z = (i : Int)) (kk : Chain cx ops rest ⟨lk ((d, .dv (.cptr [c])) :: l), mkM m⟩ K)
    (hy : St.ev ⟨lk l, mkM m⟩ y = .dv (.int k z) := by (simp only [St.look, St.ev, lk, mkM, blkOf, svOf, svOfCell, reduceIte, Nat.reduceAdd, Nat.reduceEqDiff, Nat.reduceMul] <;> rfl)) (hP : cx.P = P := by assumption) (hn : cx.n = N := by assumption) (hd : d < N := by decide) (hgd : GOk ops ⟨lk l, mkM m⟩ gd := by (first | exact trivial | exact ⟨_, rfl, by (simp only [lk, reduceIte, Nat.reduceEqDiff])⟩)) :
    Chain cx ops (⟨some d, .indexAddr t (.global g) y, ty, p, af, gd⟩ :: rest) ⟨lk l, mkM m⟩ K := by
  subst hP; subst hn; subst hz
  refine ⟨⟨lk ((d, .dv (.cptr [c])) :: l), mkM m⟩, gstep_of hgd (.sem fun hg a w hsim => ?_), kk⟩
  obtain ⟨μ, h⟩ := hsim
  have hy1 := h.ev y
  rw [hy] at hy1
  simp only [SVRep] at hy1
  generalize hvy : a.eval y = vy at hy1
  cases hy1
  obtain ⟨hL, hX⟩ := h.laid hg
  have hk : laidK g := ⟨_, hl, rfl⟩
  have hrun : (execOp a.eval ⟨some d, .indexAddr t (.global g) y, ty, p, af, gd⟩).run cx.P w = .ok (.value (.pointer (some ⟨g, i, none⟩))) w := by
    unfold execOp
    have he : a.eval (.global g) = .pointer (some ⟨g, 0, none⟩) := rfl
    simp only [he, hvy, Sem.run_bind, index_arr ht hs g k i hi, Result.andThen_ok]
    rfl
  refine (runs_val h hrun (r := .dv (.cptr [c])) (S' := ⟨lk ((d, .dv (.cptr [c])) :: l), mkM m⟩) ?_ ?_).does
  · simp only [SVRep]
    refine .cptr _ g i (fun _ => c.val) (hX g hk) (hL.lt hk) (fun j c' hj => ?_) fun j c' hj => ?_
    · match j, hj with
      | 0, hj =>
        simp only [List.getElem?_cons_zero, Option.some.injEq] at hj
        subst hj
        obtain ⟨v, h1, h2⟩ := (hL _ hl).2 i _ (by rw [List.getElem?_map, hv]; rfl)
        rw [show v = c.val from h2] at h1
        exact h1
    · match j, hj with
      | 0, hj =>
        simp only [List.getElem?_cons_zero, Option.some.injEq] at hj
        subst hj
        exact free_rep hf
  · show (if d < cx.n then _ else _) = _
    rw [if_pos hd, upd_lk]
end
end Go.Ab
set_option linter.all false
namespace Go.Ab
open Go.RowKit
def psL : List Nat → List DV → List (Nat × SV) → List (Nat × SV)
  | p :: ps, d :: ds, l => psL ps ds ((p, .dv d) :: l)
  | _, _, l => l
theorem setPs_lk : ∀ (ps : List Nat) (x : List DV) (l : List (Nat × SV)), setPs ps x (lk l) = lk (psL ps x l)
  | [], _, _ => by simp [setPs, psL]
  | _ :: _, [], _ => by simp [setPs, psL]
  | p :: ps, d :: x, l => by simp only [setPs, psL, upd_lk]; exact setPs_lk ps x _
section
variable {cx : Cx} {P : Program} {N : Nat}
theorem roundL {ps : List Nat} {assign body : Code} {l : List (Nat × SV)} {m1 m1' m2 : List (Nat × Nat × Option Blk)} {x : List DV} (τ : List (Nat × Nat)) (m0 mem : List (Nat × Blk)) (rt : List Nat) (l0 : List (Nat × SV))
    (hP : cx.P = P := by assumption) (hn : cx.n = N := by assumption)
    (h2 : LentL τ (mkM m1) (mkB m0) m0 := by (simp [LentL, svLes, svLe, isLive, tauL, mkB, mkM, frzF, svLes_ints, svLes_self, isDvs, isDvs_map, isDvs_app, isDvs_take, isDvs_set, isDvs_repl, OwS]))
    (h3 : (τ.map (·.2)).Nodup := by decide) (h4 : τ.all (fun p => (m0.map (·.1)).contains p.1) = true := by rfl) (h5 : (m0.map (·.1)).Nodup := by (simp))
    (h6 : FLe (tauL τ) ⟨lk l, mkM m1⟩ (mkB m0) l0 := by (simp [FLe, svLes, svLe, isLive, tauL, mkB, mkM, lk]))
    (h7 : MemOk (mkM m1) τ mem rt := by (simp [MemOk, mkM, tauL])) (h8 : (mem.map (·.1)).Nodup := by (simp)) (h9 : rt.Nodup := by decide)
    (hm : setL (nvL m1) (msG (mkM m1) [] τ mem rt) = m2 := by (simp only [setL, msG, frzMs, drops, puts, renSV, renSVs, renSVs_dvs isDvs_map, rhoG, genG, stG, mkB, mkM, nvL, killV, List.map, List.nil_append, List.cons_append, List.append_nil, Option.map_some, Option.getD_some, reduceIte, Nat.reduceEqDiff, Nat.reduceAdd, Nat.reduceLeDiff] <;> rfl))
    (hle : Le cx ⟨lk l, mkM m2⟩ ⟨lk l, mkM m1'⟩)
    (k : ∀ cx' : Cx, cx'.P = P → cx'.n = N → cx'.Good → AWp cx' assign (assignK P N body (mkB mem)) ⟨lk (psL ps x l0), mkM (m0.map fun p => (p.1, 0, some p.2))⟩) :
    RoundOk cx ps assign body (lk l) (mkM m1) x (mkM m1') := by
  subst hP; subst hn
  have hf : frzF (mkM m1) [] = mkM m1 := by funext t; simp [frzF]
  have hB := backOk_list (fz := []) h7 h8 h9 (fun t _ => by simp)
  rw [hf, noViews_mkM, setM_mkM, hm] at hB
  refine ⟨tauL τ, mkB m0, lk l0, mkB mem, mkM m2, sigG mem rt, rhoG (mkM m1) mem rt, lentOk_list h2 h3 (fun p hp => ?_) h5, FLe_get h6, hB, hle, fun cx' h1 h2 h3 => ?_⟩
  · have := List.all_eq_true.1 h4 p hp
    simpa using this
  · have := k cx' h1 h2 h3
    rw [setPs_lk]
    exact this
theorem asg {body : Code} {N' : Nat → Nat × Option Blk} {S : St} (k : ∀ cx' : Cx, cx'.P = P → cx'.n = N → cx'.Good → AWp cx' body (roundK cx' N') S) : assignK P N body N' .normal S := ⟨rfl, k⟩
theorem rend {mem : List (Nat × Blk)} {S : St} (h : Le cx S ⟨lk [], mkM (mem.map fun p => (p.1, 0, some p.2))⟩) : roundK cx (mkB mem) .normal S := ⟨rfl, h⟩
theorem rgf (hg : cx.Good) (hrn : cx.rnd = none) (hdq : cx.dq = []) {fn : Func} {ds : List DV} (hfin : ∀ a w, FinR cx.P fn ds cx.w0 cx.Wr a w → cx.fin a w) (hP : cx.P = P) (hn : cx.n = N)
    {s gf : Nat} {caps : List DV} {xs : List (List DV)} (hseq : ASeq P gf caps xs) {l : List (Nat × SV)} (bs : Nat → List (Nat × Nat × Option Blk)) {S : St} (hS : Le cx S ⟨lk l, mkM (bs 0)⟩)
    {ps : Array Nat} {bid : Nat} {assign body post : Code} {K : Exit → St → Prop} 
    (round : ∀ k x, xs[k]? = some x → RoundOk cx ps.toList assign body (lk l) (mkM (bs k)) x (mkM (bs (k + 1))))
    (hpost : ∀ cx' : Cx, cx'.P = P → cx'.n = N → cx'.Good → AWp cx' post (EndS P fn.results.toList ds) ⟨lk l, mkM (bs xs.length)⟩)
    (hF : lk l s = .dv (.fn gf [] caps) := by (simp only [lk, reduceIte, Nat.reduceEqDiff])) (hps : ∀ p ∈ ps.toList, p < N := by decide) (hpx : ∀ x ∈ xs, x.length = ps.size := by (intro x hx; simp at hx; obtain ⟨k, _, rfl⟩ := hx; rfl)) :
    RfOk cx (.block bid (.rangeFunc (.tmp s) ps assign body)) post K S := by
  subst hP; subst hn
  exact awp_range hg hrn hdq hfin hseq (fun k => mkM (bs k)) hS hF hps hpx round hpost
theorem xs1 {rv : List ResultVar} {d1 : DV} {S : St} (hs : resSV P S rv = some [.dv d1] := by (simp only [resSV, lk, Option.map_some, reduceIte, Nat.reduceEqDiff] <;> rfl)) (hf : DV.frees [d1] = true := by rfl) : EndS P rv [d1] .ret S := ⟨rfl, hf, hs⟩
theorem xs3 {rv : List ResultVar} {d1 d2 d3 : DV} {S : St} (hs : resSV P S rv = some [.dv d1, .dv d2, .dv d3] := by (simp only [resSV, lk, Option.map_some, reduceIte, Nat.reduceEqDiff] <;> rfl)) (hf : DV.frees [d1, d2, d3] = true := by rfl) : EndS P rv [d1, d2, d3] .ret S := ⟨rfl, hf, hs⟩
end
end Go.Ab
set_option linter.all false
namespace Go.Ab
open Go.RowKit
abbrev i64 (n : Int) : DV := .int .i64 n
abbrev u64 (n : Int) : DV := .int .u64 n
abbrev rowI (L : List Int) : Blk := rowK .i64 3 L
abbrev rI (L : List Int) : R1 := rK .i64 3 L
abbrev ints (l : List Int) : DV := .list (l.map (DV.int .i64))
section
variable {P : Program} {S : St} {x y : Operand} {t t2 : TypeId} {a b : Nat}
theorem m_quoN (hx : S.ev x = .dv (.int .i64 (a : Int)) := by (simp only [St.look, St.ev, lk, mkM, blkOf, svOf, svOfCell, reduceIte, Nat.reduceAdd, Nat.reduceEqDiff, Nat.reduceMul] <;> rfl)) (hy : S.ev y = .dv (.int .i64 (b : Int)) := by (simp only [St.look, St.ev, lk, mkM, blkOf, svOf, svOfCell, reduceIte, Nat.reduceAdd, Nat.reduceEqDiff, Nat.reduceMul] <;> rfl)) (hb : 0 < b := by (first | omega | (simp only [Int.toNat_natCast, List.length_map, List.length_append, List.length_cons, List.length_nil, List.length_take, List.length_drop, List.length_set, List.length_replicate, Nat.zero_add, Nat.mul_one] <;> omega) | (simp <;> omega))) (ha : a < 9223372036854775808 := by (first | omega | (simp only [Int.toNat_natCast, List.length_map, List.length_append, List.length_cons, List.length_nil, List.length_take, List.length_drop, List.length_set, List.length_replicate, Nat.zero_add, Nat.mul_one] <;> omega) | (simp <;> omega))) : outOf P S (.binOp .quo t x y t2) = some (.val (.dv (.int .i64 ((a / b : Nat) : Int)))) := by
  simp only [outOf, binSV, hx, hy, intBin, if_true, Option.map_some]
  rw [if_neg (by omega)]
  have e : (a : Int).tdiv (b : Int) = ((a / b : Nat) : Int) := by simp
  have h : a / b ≤ a := Nat.div_le_self _ _
  rw [e]
  generalize a / b = q at *
  rw [wrap_i64 (by omega) (by omega)]
  rfl
theorem m_remN (hx : S.ev x = .dv (.int .i64 (a : Int)) := by (simp only [St.look, St.ev, lk, mkM, blkOf, svOf, svOfCell, reduceIte, Nat.reduceAdd, Nat.reduceEqDiff, Nat.reduceMul] <;> rfl)) (hy : S.ev y = .dv (.int .i64 (b : Int)) := by (simp only [St.look, St.ev, lk, mkM, blkOf, svOf, svOfCell, reduceIte, Nat.reduceAdd, Nat.reduceEqDiff, Nat.reduceMul] <;> rfl)) (hb : 0 < b := by (first | omega | (simp only [Int.toNat_natCast, List.length_map, List.length_append, List.length_cons, List.length_nil, List.length_take, List.length_drop, List.length_set, List.length_replicate, Nat.zero_add, Nat.mul_one] <;> omega) | (simp <;> omega))) : outOf P S (.binOp .rem t x y t2) = some (.val (.dv (.int .i64 ((a % b : Nat) : Int)))) := by
  simp only [outOf, binSV, hx, hy, intBin, if_true, Option.map_some]
  rw [if_neg (by omega)]
  have e : (a : Int).tmod (b : Int) = ((a % b : Nat) : Int) := by rw [Int.tmod_eq_emod_of_nonneg (by omega)]; simp
  rw [e]
  rfl
theorem m_mulN (hx : S.ev x = .dv (.int .i64 (a : Int)) := by (simp only [St.look, St.ev, lk, mkM, blkOf, svOf, svOfCell, reduceIte, Nat.reduceAdd, Nat.reduceEqDiff, Nat.reduceMul] <;> rfl)) (hy : S.ev y = .dv (.int .i64 (b : Int)) := by (simp only [St.look, St.ev, lk, mkM, blkOf, svOf, svOfCell, reduceIte, Nat.reduceAdd, Nat.reduceEqDiff, Nat.reduceMul] <;> rfl)) (ha : a * b < 9223372036854775808 := by (first | omega | (simp only [Int.toNat_natCast, List.length_map, List.length_append, List.length_cons, List.length_nil, List.length_take, List.length_drop, List.length_set, List.length_replicate, Nat.zero_add, Nat.mul_one] <;> omega) | (simp <;> omega))) : outOf P S (.binOp .mul t x y t2) = some (.val (.dv (.int .i64 ((a * b : Nat) : Int)))) := by
  simp only [outOf, binSV, hx, hy, intBin, if_true, Option.map_some]
  rw [← Int.natCast_mul, wrap_i64 (by omega) (by omega)]
theorem m_addN (hx : S.ev x = .dv (.int .i64 (a : Int)) := by (simp only [St.look, St.ev, lk, mkM, blkOf, svOf, svOfCell, reduceIte, Nat.reduceAdd, Nat.reduceEqDiff, Nat.reduceMul] <;> rfl)) (hy : S.ev y = .dv (.int .i64 (b : Int)) := by (simp only [St.look, St.ev, lk, mkM, blkOf, svOf, svOfCell, reduceIte, Nat.reduceAdd, Nat.reduceEqDiff, Nat.reduceMul] <;> rfl)) (ha : a + b < 9223372036854775808 := by (first | omega | (simp only [Int.toNat_natCast, List.length_map, List.length_append, List.length_cons, List.length_nil, List.length_take, List.length_drop, List.length_set, List.length_replicate, Nat.zero_add, Nat.mul_one] <;> omega) | (simp <;> omega))) : outOf P S (.binOp .add t x y t2) = some (.val (.dv (.int .i64 ((a + b : Nat) : Int)))) := by
  simp only [outOf, binSV, hx, hy, intBin, if_true, Option.map_some]
  rw [← Int.natCast_add, wrap_i64 (by omega) (by omega)]
theorem m_cnvU {k k' : IntKind} (h1 : kindP P t = some k) (h2 : kindP P t2 = some .u64) (hx : S.ev x = .dv (.int k' (a : Int)) := by (simp only [St.look, St.ev, lk, mkM, blkOf, svOf, svOfCell, reduceIte, Nat.reduceAdd, Nat.reduceEqDiff, Nat.reduceMul] <;> rfl)) (ha : a < 18446744073709551616 := by (first | omega | (simp only [Int.toNat_natCast, List.length_map, List.length_append, List.length_cons, List.length_nil, List.length_take, List.length_drop, List.length_set, List.length_replicate, Nat.zero_add, Nat.mul_one] <;> omega) | (simp <;> omega))) : outOf P S (.convert t t2 x) = some (.val (.dv (.int .u64 (a : Int)))) :=
  m_cnv h1 h2 hx (by rw [wrap_u64' (by omega) (by omega)])
theorem m_cnvI {k k' : IntKind} (h1 : kindP P t = some k) (h2 : kindP P t2 = some .i64) (hx : S.ev x = .dv (.int k' (a : Int)) := by (simp only [St.look, St.ev, lk, mkM, blkOf, svOf, svOfCell, reduceIte, Nat.reduceAdd, Nat.reduceEqDiff, Nat.reduceMul] <;> rfl)) (ha : a < 9223372036854775808 := by (first | omega | (simp only [Int.toNat_natCast, List.length_map, List.length_append, List.length_cons, List.length_nil, List.length_take, List.length_drop, List.length_set, List.length_replicate, Nat.zero_add, Nat.mul_one] <;> omega) | (simp <;> omega))) : outOf P S (.convert t t2 x) = some (.val (.dv (.int .i64 (a : Int)))) :=
  m_cnv h1 h2 hx (by rw [wrap_i64 (by omega) (by omega)])
theorem m_subN {z u : Int} (c : Nat) (hx : S.ev x = .dv (.int .i64 z) := by (simp only [St.look, St.ev, lk, mkM, blkOf, svOf, svOfCell, reduceIte, Nat.reduceAdd, Nat.reduceEqDiff, Nat.reduceMul] <;> rfl)) (hy : S.ev y = .dv (.int .i64 u) := by (simp only [St.look, St.ev, lk, mkM, blkOf, svOf, svOfCell, reduceIte, Nat.reduceAdd, Nat.reduceEqDiff, Nat.reduceMul] <;> rfl)) (hc : z - u = (c : Int) := by (first | omega | (simp only [Int.toNat_natCast, List.length_map, List.length_append, List.length_cons, List.length_nil, List.length_take, List.length_drop, List.length_set, List.length_replicate, Nat.zero_add, Nat.mul_one] <;> omega) | (simp <;> omega))) (h1 : c < 9223372036854775808 := by (first | omega | (simp only [Int.toNat_natCast, List.length_map, List.length_append, List.length_cons, List.length_nil, List.length_take, List.length_drop, List.length_set, List.length_replicate, Nat.zero_add, Nat.mul_one] <;> omega) | (simp <;> omega))) : outOf P S (.binOp .sub t x y t2) = some (.val (.dv (.int .i64 (c : Int)))) := by
  simp only [outOf, binSV, hx, hy, intBin, if_true, Option.map_some]
  rw [hc, wrap_i64 (by omega) (by omega)]
end
end Go.Ab
set_option linter.all false
namespace Go.Ab
open Go.ChangeShapes Go.WideShapes Go.ChangeAt Go.RowKit
variable {H : Type} {enc : TypeId × Value → H} {P : Program} {W : World} {t : TypeId} {α β γ : Type} {F : α → DV} {G : β → DV} {E : γ → DV}
theorem opens_three {f0 f1 f2 : Field} (ht : P.underlying t = some (.struct #[f0, f1, f2])) (o0 : f0.offset = 0) (o1 : f1.offset = P.cellsOf f0.type) (o2 : f2.offset = P.cellsOf f0.type + P.cellsOf f1.type) (hn : P.cellsOf t = P.cellsOf f0.type + P.cellsOf f1.type + P.cellsOf f2.type)
    (h0 : Opens enc P W f0.type F) (h1 : Opens enc P W f1.type G) (h2 : Opens enc P W f2.type E) : Opens enc P W t (fun p : α × β × γ => .agg ((F p.1).cells ++ ((G p.2.1).cells ++ (E p.2.2).cells))) := by
  intro fuel cs x h
  obtain ⟨y0, y1, y2, n, _, hl, r0, r1, r2⟩ := Go.Deep.trod_struct3 ht h
  obtain ⟨a, a1, a2⟩ := h0 _ _ _ r0
  obtain ⟨b, b1, b2⟩ := h1 _ _ _ r1
  obtain ⟨e, e1, e2⟩ := h2 _ _ _ r2
  rw [o0, List.drop_zero, List.length_take] at a1
  rw [o1, List.length_take, List.length_drop] at b1
  rw [o2, List.length_take, List.length_drop] at e1
  have ha : (F a).cells.length = P.cellsOf f0.type := by omega
  have hb : (G b).cells.length = P.cellsOf f1.type := by omega
  refine ⟨(a, b, e), by show cs.length = ((F a).cells ++ ((G b).cells ++ (E e).cells)).length; rw [List.length_append, List.length_append]; omega, fun j c hj => ?_⟩
  replace hj : ((F a).cells ++ ((G b).cells ++ (E e).cells))[j]? = some c := hj
  rcases Nat.lt_or_ge j (F a).cells.length with hlt | hge
  · rw [List.getElem?_append_left hlt] at hj
    obtain ⟨u, u1, u2⟩ := a2 j c hj
    rw [o0, List.drop_zero, List.getElem?_take] at u1
    split at u1
    · exact ⟨u, u1, u2⟩
    · cases u1
  · rw [List.getElem?_append_right hge] at hj
    rcases Nat.lt_or_ge (j - (F a).cells.length) (G b).cells.length with hlt2 | hge2
    · rw [List.getElem?_append_left hlt2] at hj
      obtain ⟨u, u1, u2⟩ := b2 _ c hj
      rw [o1, List.getElem?_take] at u1
      split at u1
      · rw [List.getElem?_drop] at u1
        exact ⟨u, by rw [← u1]; congr 1; omega, u2⟩
      · cases u1
    · rw [List.getElem?_append_right hge2] at hj
      obtain ⟨u, u1, u2⟩ := e2 _ c hj
      rw [o2, List.getElem?_take] at u1
      split at u1
      · rw [List.getElem?_drop] at u1
        exact ⟨u, by rw [← u1]; congr 1; omega, u2⟩
      · cases u1
end Go.Ab
set_option linter.all false
set_option linter.unusedSimpArgs false
namespace Go.Ab
open Go.RowKit
section
variable {P : Program} {l : List (Nat × SV)} {m : List (Nat × Nat × Option Blk)} {t e : TypeId} {x y : Operand} {n tg g o o' : Nat} {blk : Blk} {k : IntKind} {z : Int}
theorem m_ixA (ht : arrP P t = some (n, e)) (hs : szP P e = some 1) (hx : St.look ⟨lk l, mkM m⟩ x = (.pt tg g o, some blk) := by (simp only [St.look, St.ev, lk, mkM, blkOf, svOf, svOfCell, reduceIte, Nat.reduceAdd, Nat.reduceEqDiff, Nat.reduceMul] <;> rfl)) (hy : St.ev ⟨lk l, mkM m⟩ y = .dv (.int k z) := by (simp only [St.look, St.ev, lk, mkM, blkOf, svOf, svOfCell, reduceIte, Nat.reduceAdd, Nat.reduceEqDiff, Nat.reduceMul] <;> rfl)) (hz : 0 ≤ z := by decide) (hi : z.toNat < n := by decide) (ho : o + z.toNat = o' := by rfl) :
    outOf P ⟨lk l, mkM m⟩ (.indexAddr t x y) = some (.val (.pt tg g o')) := by
  subst ho
  have he : elemP P t = none := by
    unfold arrP at ht
    split at ht
    · rename_i hu; unfold elemP; rw [hu]
    · cases ht
  simp only [outOf, hx, hy, indexSV, he, ht, indexArr]
  rw [if_pos ⟨hz, hi, hs⟩]
  rfl
end
end Go.Ab
set_option linter.all false
set_option linter.unusedSimpArgs false
namespace Go.Ab
open Go.RowKit
section
variable {cx : Cx} {P : Program} {N : Nat} {ops : Array Oper} {rest : List Oper} {l : List (Nat × SV)} {m : List (Nat × Nat × Option Blk)} {KD : List It → St → Prop} {its : List It}
  {d : Nat} {ty : TypeId} {p : String} {af : Array Edge}
end
end Go.Ab
