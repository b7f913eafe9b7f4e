/- The heap laws' arguments, read as plain data. -/
import Derived.Test.YtapabnafbfnjnaaRows
import Derived.Test.YtapabnafbfnjnaaHeapPT
import Derived.Test.YtapabnafbfnjnaaAbF
import Derived.Test.YtapabnafbfnjnaaAb41
set_option linter.all false
set_option maxRecDepth 100000
namespace Go.Proofs.Ytapabnafbfnjnaa
open Go.ChangeShapes Go.WideShapes Go.ChangeAt Go.RowKit Go.Ab Go.Ab.Heap
theorem own : ownKnob Try.prog.godebug = none := by kernel_rfl
theorem laid : laidOutB Try.prog = true := by kernel_rfl
theorem laidE (W : World) : Laid W := fun p hp => by simp [laidTab] at hp
theorem opens_ints {H : Type} (enc : TypeId × Value → H) (W : World) : Opens enc Try.prog W 23 ints := opens_list (sz := 1) Try.underlying23 (by kernel_rfl) (by decide) (fun _ => rfl) (opens_int Try.underlying3)
theorem opens_hp {H : Type} (enc : TypeId × Value → H) (W : World) : Opens enc Try.prog W 25 dHp :=
  (opens_two Try.underlying25 rfl (by kernel_rfl) (by kernel_rfl) (opens_list (sz := 1) Try.underlying22 (by kernel_rfl) (by decide) (fun _ => rfl) (opens_ints enc W)) (opens_ints enc W)).conv fun p => ⟨⟨p.1, p.2⟩, rfl⟩
theorem arg_ints {H : Type} {enc : TypeId × Value → H} {W : World} {base : Nat} {v : Value} {d : DataW H} {ps : List MemPlace} (hv : Value.okWide Try.prog W .any base 23 v) (hd : DataW.Trod enc Try.prog W 0 (fun _ => true) true 23 v d ps) : ∃ l, RepD W (fun _ => False) (ints l) v := by
  obtain ⟨a, len, cap, rfl⟩ := okWide_slice Try.underlying23 hv
  exact arg_one (fun _ => rfl) (opens_ints enc W) rfl hd
theorem cellTypes25 : Try.prog.cellTypes Try.prog.depth 25 = some [22, 23] := by kernel_rfl
theorem list_cap {W : World} {base : Nat} {l : List DV} {v : Value} (h : RepD W (fun _ => False) (.list l) v) (hc : Cell.okWide Try.prog W .any base 22 v) : l.length ≤ 9223372036854775807 := by
  cases h with
  | listNil a cap => exact Nat.zero_le _
  | list _ b off cap esz u h1 h2 h3 h4 h5 h6 =>
    simp only [Cell.okWide, Try.underlying22, Cell.ok] at hc
    have h7 : (cap : Int) ≤ 9223372036854775807 := hc.2.1
    omega
theorem arg_hp {H : Type} {enc : TypeId × Value → H} {W : World} {base : Nat} {v : Value} {d : DataW H} {ps : List MemPlace} (hv : Value.okWide Try.prog W .any base 25 v) (hd : DataW.Trod enc Try.prog W 0 (fun _ => true) true 25 v d ps) : ∃ y : Hp, RepD W (fun _ => False) (dHp y) v ∧ y.links.length ≤ 9223372036854775807 := by
  have hv2 := hv
  obtain ⟨cs, rfl, _⟩ := okWide_struct Try.underlying25 hv
  obtain ⟨y, hy⟩ := arg_agg (fun _ => rfl) (opens_hp enc W) hd
  refine ⟨y, hy, ?_⟩
  cases hy with
  | agg _ _ hsz hcs =>
    have h0 := hcs 0 _ rfl
    simp only [Value.okWide, Try.underlying25] at hv2
    obtain ⟨cs', e1, _, ts, e3, _, e5⟩ := hv2
    rw [cellTypes25] at e3
    obtain rfl := Option.some.inj e3
    cases e1
    have hl : 0 < cs.size := by rw [hsz]; simp
    have hg : cs[0]? = some (cs.getD 0 undef) := by simp [hl]
    obtain ⟨u, u1, u2⟩ := e5 0 _ hg
    obtain rfl : 22 = u := by simpa using u1
    have := list_cap h0 u2
    simpa using this
end Go.Proofs.Ytapabnafbfnjnaa
