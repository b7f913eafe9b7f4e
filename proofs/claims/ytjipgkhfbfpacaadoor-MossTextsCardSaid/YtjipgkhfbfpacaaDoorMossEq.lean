/- Meadows compared. -/
import Derived.Test.YtjipgkhfbfpacaaDoorAbI
import Derived.Test.YtjipgkhfbfpacaaDoorMossD
import Derived.Test.YtjipgkhfbfpacaaDoorMossFacts
import Derived.DeepKeys
set_option linter.all false
namespace Go.Ab.Tryd
open Go Go.Ab Go.Proofs Go.Ab.Moss Go
theorem wf_i64 {q : Int} (h : -9223372036854775808 ≤ q ∧ q < 9223372036854775808) : (Lit.int .i64 q).wf = true := by
  have h1 : IntKind.i64.min = -9223372036854775808 := by decide
  have h2 : IntKind.i64.max = 9223372036854775807 := by decide
  simp [Lit.wf, h1, h2]
  omega
theorem eq_run (a b c : Int) (ha : (Lit.int .i64 a).wf = true) (hb : (Lit.int .i64 b).wf = true) (hc : (Lit.int .i64 c).wf = true) (w : World) :
    (Op.equal 23 (.agg #[.int .i64 a, .int .i64 b, .int .i64 c]) (.agg #[.int .i64 a, .int .i64 b, .int .i64 c])).run Tryd.prog w = .ok true w := by
  have c3 : Tryd.prog.cellsOf 3 = 1 := by kernel_rfl
  have c23 : Tryd.prog.cellsOf 23 = 3 := by kernel_rfl
  have hl : Tryd.prog.keyLits 3 23 [.int .i64 a, .int .i64 b, .int .i64 c] = some [.int .i64 a, .int .i64 b, .int .i64 c] := by
    simp [Program.keyLits, Tryd.underlying23, Tryd.underlying3, c3, c23, ha, hb, hc]
  have hf : Value.formed Tryd.prog 23 (.agg #[.int .i64 a, .int .i64 b, .int .i64 c]) = true := by
    simp [Value.formed, Tryd.underlying23, c23]
  obtain ⟨r, h1, h2⟩ := run_equalIn_deep 9997 3 23 (by kernel_rfl) w 3 3 _ _ _ _ hf hf hl hl
  rw [h2.2 rfl] at h1
  exact h1
theorem rep_mw {w : World} {X : Nat → Prop} {a b c : Int} {v : Value} (h : RepD w X (.agg [i64 a, i64 b, i64 c]) v) : v = .agg #[.int .i64 a, .int .i64 b, .int .i64 c] := by
  cases h with
  | agg _ vs h1 h2 =>
    match vs, h1 with
    | ⟨[x, y, z]⟩, _ =>
      have k0 := h2 0 _ rfl
      have k1 := h2 1 _ rfl
      have k2 := h2 2 _ rfl
      simp at k0 k1 k2
      cases k0; cases k1; cases k2; rfl
theorem neq_run (a b c : Int) (ha : (Lit.int .i64 a).wf = true) (hb : (Lit.int .i64 b).wf = true) (hc : (Lit.int .i64 c).wf = true) (x y : Operand) (w : World) :
    (do eqGuard .neq 23 x y (.agg #[.int .i64 a, .int .i64 b, .int .i64 c]) (.agg #[.int .i64 a, .int .i64 b, .int .i64 c]); binOp .neq 23 (.agg #[.int .i64 a, .int .i64 b, .int .i64 c]) (.agg #[.int .i64 a, .int .i64 b, .int .i64 c]) : Sem Value).run Tryd.prog w = .ok (.bool false) w := by
  have hg : Tryd.prog.eqGuardType Tryd.prog.depth 23 = false := by kernel_rfl
  have h1 : (eqGuard .neq 23 x y (.agg #[.int .i64 a, .int .i64 b, .int .i64 c]) (.agg #[.int .i64 a, .int .i64 b, .int .i64 c]) : Sem Unit).run Tryd.prog w = .ok () w := by
    have hp : ∀ w : World, (Sem.run Tryd.prog (Sem.program Sem.pure) w : Result Program) = .ok Tryd.prog w := fun _ => rfl
    unfold eqGuard
    simp [Sem.run_bind, program, hp, hg]
  rw [Sem.run_bind, h1, Result.andThen_ok]
  show (do pure (.bool (!(← Op.equal 23 (.agg #[.int .i64 a, .int .i64 b, .int .i64 c]) (.agg #[.int .i64 a, .int .i64 b, .int .i64 c])))) : Sem Value).run Tryd.prog w = _
  simp only [Sem.run_bind, eq_run a b c ha hb hc, Result.andThen_ok, Sem.run_pure, Bool.not_true]
section
variable {cx : Cx} {N : Nat} {ops : Array Oper} {rest : List Oper} {l : List (Nat × SV)} {m : List (Nat × Nat × Option Blk)} {K : St → Prop}
  {d : Nat} {ty t2 : TypeId} {p : String} {af : Array Edge}
end
end Go.Ab.Tryd
