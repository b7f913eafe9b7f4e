/- The library's functions, as calls over plain data. -/
import Derived.Test.YtjipgkhfbfpacaaDoorMossLx
import Derived.Test.YtjipgkhfbfpacaaDoorAbJ
import Derived.Lib.SplitLaws
import Derived.WalkSmall
set_option linter.all false
namespace Go.Ab.Tryd
open Go Go.Ab Go.Proofs Go.RowKit
theorem en88 : EnterP Tryd.prog 88 := ⟨_, Tryd.func88, rfl, rfl⟩
theorem en89 : EnterP Tryd.prog 89 := ⟨_, Tryd.func89, rfl, rfl⟩
theorem en90 : EnterP Tryd.prog 90 := ⟨_, Tryd.func90, rfl, rfl⟩
theorem en91 : EnterP Tryd.prog 91 := ⟨_, Tryd.func91, rfl, rfl⟩
theorem laid_at {w : World} (h : Laid w) {g : Nat} {C : Value → Prop} (hm : (g, [C]) ∈ laidTab) : ∃ v, w.cell? ⟨g, 0, none⟩ = some v ∧ C v :=
  (h (g, [C]) hm).2 0 C rfl
theorem len1 {w : World} (h : Laid w) : ∃ m, w.cell? ⟨1, 0, none⟩ = some (.int .i64 m) := by
  obtain ⟨v, hv, m, rfl⟩ := laid_at h (g := 1) (C := fun v => ∃ m, v = .int .i64 m) (by simp [laidTab])
  exact ⟨m, hv⟩
theorem err2 {w : World} (h : Laid w) : ∃ v, w.cell? ⟨2, 0, none⟩ = some v ∧ (v = .nilIface ∨ ∃ t p, v = .iface t p) :=
  laid_at h (g := 2) (C := fun v => v = .nilIface ∨ ∃ t p, v = .iface t p) (by simp [laidTab])
theorem err3 {w : World} (h : Laid w) : ∃ v, w.cell? ⟨3, 0, none⟩ = some v ∧ (v = .nilIface ∨ ∃ t p, v = .iface t p) :=
  laid_at h (g := 3) (C := fun v => v = .nilIface ∨ ∃ t p, v = .iface t p) (by simp [laidTab])
theorem f88s (n : Nat) (hn : n < 100) : ACallsF Tryd.prog 88 [.int .i64 (n : Int)] (.one (.dv (.str ⟨(Lib.decDigits n).toArray⟩))) := by
  refine ⟨en88, fun w vs _ ha => ?_⟩
  obtain rfl := args1 ha fun u hu => rep_int hu
  refine (Any.strconv_Itoa_small Tryd.laysItoa n hn w).mono fun e w' ⟨he, hw⟩ => ?_
  subst he; subst hw
  exact ⟨_, rfl, Below.refl _ _, res_dv (.str _)⟩
theorem f89s (s p : ByteArray) (hs : s.size < 4294967281) : ACallsF Tryd.prog 89 [.str s, .str p] (.many [.dv (.str ⟨(Lib.cut s.data.toList p.data.toList).1.toArray⟩), .dv (.str ⟨(Lib.cut s.data.toList p.data.toList).2.1.toArray⟩), .dv (.bool (Lib.cut s.data.toList p.data.toList).2.2)]) := by
  refine ⟨en89, fun w vs hl ha => ?_⟩
  obtain rfl := args2 ha (fun u hu => rep_str hu) (fun u hu => rep_str hu)
  obtain ⟨m, hm⟩ := len1 hl
  refine (Any.strings_Cut Tryd.laysCut s p m w hs hm).mono fun e w' ⟨he, n, hw⟩ => ?_
  subst he; subst hw
  exact ⟨_, rfl, below_drewN (Below.refl _ _) n, res_dv3 (.str _) (.str _) (.bool _)⟩
def spl (s p : ByteArray) : List ByteArray := Lib.splitB p 0 (Lib.countB s p) s
theorem spl_data (s p : ByteArray) : (spl s p).map (·.data.toList) = Lib.split s.data.toList p.data.toList := Lib.splitB_data ..
theorem f90s (s p : ByteArray) (hs : s.size < 4294967281) (hp : 1 ≤ p.size) : ACallsF Tryd.prog 90 [.str s, .str p] (.one (.dv (.list ((spl s p).map DV.str)))) := by
  refine ⟨en90, fun w vs hl ha => ?_⟩
  obtain rfl := args2 ha (fun u hu => rep_str hu) (fun u hu => rep_str hu)
  obtain ⟨m, hm⟩ := len1 hl
  refine (Any.strings_Split Tryd.laysSplit (by kernel_rfl) s p m w hs hm hp).mono fun e w' ⟨he, hw⟩ => ?_
  have hlen : (spl s p).length = Lib.countB s p + 1 := Lib.splitB_all p hp 0 _ s rfl
  subst he
  refine ⟨_, rfl, ?_, res_dv ?_⟩
  · rw [hw]; exact (Below.refl _ _).alloc (Nat.le_refl _) _
  · have h := rep_strs (w := w) (w' := w') (Y := fun b => b < w.heap.size ∨ usedBy [none] b) (l := spl s p) (cap := Lib.countB s p + 1) hw (fun b hb => hb.elim id fun h => (used_none1 h).elim) (by omega)
    rw [hlen] at h
    exact h
def atoiD (x : List UInt8) : Int × DV := match Lib.atoiAll x with
  | .ok v => (v, .nilIface)
  | .range => (Lib.atoiSat x, .iface 101 (.cptr []))
  | _ => (0, .iface 101 (.cptr []))
theorem rep_ptr0 {w : World} {X : Nat → Prop} {b : Nat} (hb : b < w.heap.size) (hx : ¬ X b) : RepD w X (.iface 101 (.cptr [])) (.iface 101 (.pointer (some ⟨b, 0, none⟩))) :=
  .iface _ _ _ (.cptr [] b 0 (fun _ => undef) hx hb (fun j c h => by simp at h) (fun j c h => by simp at h))
theorem f91s (s : ByteArray) (hs : s.size ≤ 4294967281) : ACallsF Tryd.prog 91 [.str s] (.many [.dv (.int .i64 (atoiD s.data.toList).1), .dv (atoiD s.data.toList).2]) := by
  refine ⟨en91, fun w vs hl ha => ?_⟩
  obtain rfl := args1 ha fun u hu => rep_str hu
  unfold atoiD
  cases he : Lib.atoiAll s.data.toList with
  | ok v =>
    refine (Any.strconv_Atoi_ok Tryd.laysAtoi s (by omega) v he w).mono fun e w' ⟨he, hw⟩ => ?_
    subst he
    refine ⟨_, rfl, ?_, res_dv2 (.int _ _) .nilIface⟩
    rcases hw with rfl | ⟨t, rfl⟩
    · exact Below.refl _ _
    · exact Lib.bytesWorld_below _ _ _
  | range =>
    obtain ⟨ev, hv, hev⟩ := err3 hl
    refine (Any.strconv_Atoi_range Tryd.laysAtoi s (by omega) he ev w hv hev).mono fun e w' ⟨N, he, h1, h2, hb⟩ => ?_
    subst he
    have hN : N < w'.heap.size := by
      by_cases h : N < w'.heap.size
      · exact h
      · rw [Array.getElem?_eq_none (by omega)] at h2; cases h2
    exact ⟨_, rfl, hb, res_dv2 (.int _ _) (rep_ptr0 hN fun h => h.elim (fun h => by omega) used_none2)⟩
  | _ =>
    obtain ⟨ev, hv, hev⟩ := err2 hl
    refine (Any.strconv_Atoi_syntax Tryd.laysAtoi s (by omega) he ev w hv hev).mono fun e w' ⟨N, he, h1, h2, hb⟩ => ?_
    subst he
    have hN : N < w'.heap.size := by
      by_cases h : N < w'.heap.size
      · exact h
      · rw [Array.getElem?_eq_none (by omega)] at h2; cases h2
    exact ⟨_, rfl, hb, res_dv2 (.int _ _) (rep_ptr0 hN fun h => h.elim (fun h => by omega) used_none2)⟩
end Go.Ab.Tryd
