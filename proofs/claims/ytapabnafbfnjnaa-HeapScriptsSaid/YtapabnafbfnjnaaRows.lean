/-
  No cell of these rows narrows 'for every input' (looked for: loops, veiled, ifaces, maps, wideKeys, modest, calm, conditions, laid).
  DERIVED. THE GIVEN ROWS OF THIS SEAT. 17 by the template 'for every input the law returns true; each argument reads behind the call as it read before'; 0 by the template 'total and deterministic' (their statements: YtapabnafbfnjnaaTotals.lean).
  GIVEN WITH THE SEED: the statements are not yours to turn. If you find one false, say at which input.
  Laid BY PROGRAM, IN A SANDBOX (cutbox-rows.mjs): the forced cells as the released guide's own fill.sh prints them over the translation 0f29a790513f9e0b… (all of the seat's roots in one cut). By AI agents, Wed Nov 11 2026. No macro, syntax, notation, axiom, sorry.
-/
import Derived.Test.YtapabnafbfnjnaaChecked
import GoSem.Claim
import GoSem.ClaimJoined
import GoSem.ClaimMapViews
import Derived.JoinedTies
import Derived.KernelRfl
namespace Go.Proofs.Ytapabnafbfnjnaa
/- THE CELL 'sum', in the pinned program and in every row, IS THE sha256 OF THE DUMP (.gsa) THAT YtapabnafbfnjnaaProg.lean LOADS. Nothing in Lean hashes anything: it is a label: what it is worth is what the hold of that sum in a sandbox is worth. -/
noncomputable def Try.pinned : Pinned := { name := "ytapabnafbfnjnaa", sum := "0f29a790513f9e0b5567b213f3ce9b52f4167862401c1c7e4d892bc87992afa4", checked := Try.checked }
namespace Rows
def none {H : Type} : Left H := { results := [], args := [] }

/-- 'turbarytop.TopHeaps': WHATEVER THE INPUT: true; the input reads as it did. -/
def topHeapsSpec : ChangeSpec := { name := "topHeaps", fn := fun _ => fun
  | [d1, d2, d3] => { results := [.lit (.bool true)], args := [d1, d2, d3] }
  | _ => none }
def topHeapsRow : OpenClaim := { program := "ytapabnafbfnjnaa", sum := "0f29a790513f9e0b5567b213f3ce9b52f4167862401c1c7e4d892bc87992afa4", func := "turbary/turbarytop.TopHeaps", spec := "topHeaps", unfollowed := true, recurses := true, apart := false }
def TopHeapsSaid : Prop := topHeapsRow.holds Try.pinned (OpenSpec.ofChange topHeapsSpec)

/-- ITS FALSE NEIGHBOUR: 'it returns false'. Refute it at one input. -/
def topHeapsWrong : ChangeSpec := { name := "topHeaps", fn := fun _ => fun
  | [d1, d2, d3] => { results := [.lit (.bool false)], args := [d1, d2, d3] }
  | _ => none }
def TopHeapsWrongFalsely : Prop := topHeapsRow.holds Try.pinned (OpenSpec.ofChange topHeapsWrong)

/-- 'turbarylaw05.HeapCounts': WHATEVER THE INPUT: true; the input reads as it did. -/
def heapCountsSpec : ChangeSpec := { name := "heapCounts", fn := fun _ => fun
  | [d] => { results := [.lit (.bool true)], args := [d] }
  | _ => none }
def heapCountsRow : OpenClaim := { program := "ytapabnafbfnjnaa", sum := "0f29a790513f9e0b5567b213f3ce9b52f4167862401c1c7e4d892bc87992afa4", func := "turbary/turbarylaw05.HeapCounts", spec := "heapCounts", unfollowed := true, recurses := true, apart := false }
def HeapCountsSaid : Prop := heapCountsRow.holds Try.pinned (OpenSpec.ofChange heapCountsSpec)

/-- ITS FALSE NEIGHBOUR: 'it returns false'. Refute it at one input. -/
def heapCountsWrong : ChangeSpec := { name := "heapCounts", fn := fun _ => fun
  | [d] => { results := [.lit (.bool false)], args := [d] }
  | _ => none }
def HeapCountsWrongFalsely : Prop := heapCountsRow.holds Try.pinned (OpenSpec.ofChange heapCountsWrong)

/-- 'turbarylaw05.HeapAdds': WHATEVER THE INPUT: true; the input reads as it did. -/
def heapAddsSpec : ChangeSpec := { name := "heapAdds", fn := fun _ => fun
  | [d1, d2, d3] => { results := [.lit (.bool true)], args := [d1, d2, d3] }
  | _ => none }
def heapAddsRow : OpenClaim := { program := "ytapabnafbfnjnaa", sum := "0f29a790513f9e0b5567b213f3ce9b52f4167862401c1c7e4d892bc87992afa4", func := "turbary/turbarylaw05.HeapAdds", spec := "heapAdds", unfollowed := true, recurses := true, apart := false }
def HeapAddsSaid : Prop := heapAddsRow.holds Try.pinned (OpenSpec.ofChange heapAddsSpec)

/-- ITS FALSE NEIGHBOUR: 'it returns false'. Refute it at one input. -/
def heapAddsWrong : ChangeSpec := { name := "heapAdds", fn := fun _ => fun
  | [d1, d2, d3] => { results := [.lit (.bool false)], args := [d1, d2, d3] }
  | _ => none }
def HeapAddsWrongFalsely : Prop := heapAddsRow.holds Try.pinned (OpenSpec.ofChange heapAddsWrong)

/-- 'turbarylaw05.HeapSums': WHATEVER THE INPUT: true; the input reads as it did. -/
def heapSumsSpec : ChangeSpec := { name := "heapSums", fn := fun _ => fun
  | [d1, d2] => { results := [.lit (.bool true)], args := [d1, d2] }
  | _ => none }
def heapSumsRow : OpenClaim := { program := "ytapabnafbfnjnaa", sum := "0f29a790513f9e0b5567b213f3ce9b52f4167862401c1c7e4d892bc87992afa4", func := "turbary/turbarylaw05.HeapSums", spec := "heapSums", unfollowed := true, recurses := true, apart := false }
def HeapSumsSaid : Prop := heapSumsRow.holds Try.pinned (OpenSpec.ofChange heapSumsSpec)

/-- ITS FALSE NEIGHBOUR: 'it returns false'. Refute it at one input. -/
def heapSumsWrong : ChangeSpec := { name := "heapSums", fn := fun _ => fun
  | [d1, d2] => { results := [.lit (.bool false)], args := [d1, d2] }
  | _ => none }
def HeapSumsWrongFalsely : Prop := heapSumsRow.holds Try.pinned (OpenSpec.ofChange heapSumsWrong)

/-- 'turbarylaw05.HeapLimits': WHATEVER THE INPUT: true; the input reads as it did. -/
def heapLimitsSpec : ChangeSpec := { name := "heapLimits", fn := fun _ => fun
  | [d1, d2] => { results := [.lit (.bool true)], args := [d1, d2] }
  | _ => none }
def heapLimitsRow : OpenClaim := { program := "ytapabnafbfnjnaa", sum := "0f29a790513f9e0b5567b213f3ce9b52f4167862401c1c7e4d892bc87992afa4", func := "turbary/turbarylaw05.HeapLimits", spec := "heapLimits", unfollowed := true, recurses := true, apart := false }
def HeapLimitsSaid : Prop := heapLimitsRow.holds Try.pinned (OpenSpec.ofChange heapLimitsSpec)

/-- ITS FALSE NEIGHBOUR: 'it returns false'. Refute it at one input. -/
def heapLimitsWrong : ChangeSpec := { name := "heapLimits", fn := fun _ => fun
  | [d1, d2] => { results := [.lit (.bool false)], args := [d1, d2] }
  | _ => none }
def HeapLimitsWrongFalsely : Prop := heapLimitsRow.holds Try.pinned (OpenSpec.ofChange heapLimitsWrong)

/-- 'turbarylaw05.HeapDrops': WHATEVER THE INPUT: true; the input reads as it did. -/
def heapDropsSpec : ChangeSpec := { name := "heapDrops", fn := fun _ => fun
  | [d1, d2, d3] => { results := [.lit (.bool true)], args := [d1, d2, d3] }
  | _ => none }
def heapDropsRow : OpenClaim := { program := "ytapabnafbfnjnaa", sum := "0f29a790513f9e0b5567b213f3ce9b52f4167862401c1c7e4d892bc87992afa4", func := "turbary/turbarylaw05.HeapDrops", spec := "heapDrops", unfollowed := true, recurses := true, apart := false }
def HeapDropsSaid : Prop := heapDropsRow.holds Try.pinned (OpenSpec.ofChange heapDropsSpec)

/-- ITS FALSE NEIGHBOUR: 'it returns false'. Refute it at one input. -/
def heapDropsWrong : ChangeSpec := { name := "heapDrops", fn := fun _ => fun
  | [d1, d2, d3] => { results := [.lit (.bool false)], args := [d1, d2, d3] }
  | _ => none }
def HeapDropsWrongFalsely : Prop := heapDropsRow.holds Try.pinned (OpenSpec.ofChange heapDropsWrong)

/-- 'turbarylaw05.HeapOrders': WHATEVER THE INPUT: true; the input reads as it did. -/
def heapOrdersSpec : ChangeSpec := { name := "heapOrders", fn := fun _ => fun
  | [d1, d2, d3] => { results := [.lit (.bool true)], args := [d1, d2, d3] }
  | _ => none }
def heapOrdersRow : OpenClaim := { program := "ytapabnafbfnjnaa", sum := "0f29a790513f9e0b5567b213f3ce9b52f4167862401c1c7e4d892bc87992afa4", func := "turbary/turbarylaw05.HeapOrders", spec := "heapOrders", unfollowed := true, recurses := true, apart := false }
def HeapOrdersSaid : Prop := heapOrdersRow.holds Try.pinned (OpenSpec.ofChange heapOrdersSpec)

/-- ITS FALSE NEIGHBOUR: 'it returns false'. Refute it at one input. -/
def heapOrdersWrong : ChangeSpec := { name := "heapOrders", fn := fun _ => fun
  | [d1, d2, d3] => { results := [.lit (.bool false)], args := [d1, d2, d3] }
  | _ => none }
def HeapOrdersWrongFalsely : Prop := heapOrdersRow.holds Try.pinned (OpenSpec.ofChange heapOrdersWrong)

/-- 'turbarylaw05.HeapAnyOrder': WHATEVER THE INPUT: true; the input reads as it did. -/
def heapAnyOrderSpec : ChangeSpec := { name := "heapAnyOrder", fn := fun _ => fun
  | [d1, d2, d3] => { results := [.lit (.bool true)], args := [d1, d2, d3] }
  | _ => none }
def heapAnyOrderRow : OpenClaim := { program := "ytapabnafbfnjnaa", sum := "0f29a790513f9e0b5567b213f3ce9b52f4167862401c1c7e4d892bc87992afa4", func := "turbary/turbarylaw05.HeapAnyOrder", spec := "heapAnyOrder", unfollowed := true, recurses := true, apart := false }
def HeapAnyOrderSaid : Prop := heapAnyOrderRow.holds Try.pinned (OpenSpec.ofChange heapAnyOrderSpec)

/-- ITS FALSE NEIGHBOUR: 'it returns false'. Refute it at one input. -/
def heapAnyOrderWrong : ChangeSpec := { name := "heapAnyOrder", fn := fun _ => fun
  | [d1, d2, d3] => { results := [.lit (.bool false)], args := [d1, d2, d3] }
  | _ => none }
def HeapAnyOrderWrongFalsely : Prop := heapAnyOrderRow.holds Try.pinned (OpenSpec.ofChange heapAnyOrderWrong)

/-- 'turbarylaw05.HeapScripts': WHATEVER THE INPUT: true; the input reads as it did. -/
def heapScriptsSpec : ChangeSpec := { name := "heapScripts", fn := fun _ => fun
  | [d1, d2, d3] => { results := [.lit (.bool true)], args := [d1, d2, d3] }
  | _ => none }
def heapScriptsRow : OpenClaim := { program := "ytapabnafbfnjnaa", sum := "0f29a790513f9e0b5567b213f3ce9b52f4167862401c1c7e4d892bc87992afa4", func := "turbary/turbarylaw05.HeapScripts", spec := "heapScripts", unfollowed := true, recurses := true, apart := false }
def HeapScriptsSaid : Prop := heapScriptsRow.holds Try.pinned (OpenSpec.ofChange heapScriptsSpec)

/-- ITS FALSE NEIGHBOUR: 'it returns false'. Refute it at one input. -/
def heapScriptsWrong : ChangeSpec := { name := "heapScripts", fn := fun _ => fun
  | [d1, d2, d3] => { results := [.lit (.bool false)], args := [d1, d2, d3] }
  | _ => none }
def HeapScriptsWrongFalsely : Prop := heapScriptsRow.holds Try.pinned (OpenSpec.ofChange heapScriptsWrong)

/-- 'turbarylaw05.HeapTopples': WHATEVER THE INPUT: true; the input reads as it did. -/
def heapTopplesSpec : ChangeSpec := { name := "heapTopples", fn := fun _ => fun
  | [d1, d2, d3] => { results := [.lit (.bool true)], args := [d1, d2, d3] }
  | _ => none }
def heapTopplesRow : OpenClaim := { program := "ytapabnafbfnjnaa", sum := "0f29a790513f9e0b5567b213f3ce9b52f4167862401c1c7e4d892bc87992afa4", func := "turbary/turbarylaw05.HeapTopples", spec := "heapTopples", unfollowed := true, recurses := true, apart := false }
def HeapTopplesSaid : Prop := heapTopplesRow.holds Try.pinned (OpenSpec.ofChange heapTopplesSpec)

/-- ITS FALSE NEIGHBOUR: 'it returns false'. Refute it at one input. -/
def heapTopplesWrong : ChangeSpec := { name := "heapTopples", fn := fun _ => fun
  | [d1, d2, d3] => { results := [.lit (.bool false)], args := [d1, d2, d3] }
  | _ => none }
def HeapTopplesWrongFalsely : Prop := heapTopplesRow.holds Try.pinned (OpenSpec.ofChange heapTopplesWrong)

/-- 'turbarylaw05.HeapSettles': WHATEVER THE INPUT: true; the input reads as it did. -/
def heapSettlesSpec : ChangeSpec := { name := "heapSettles", fn := fun _ => fun
  | [d1, d2] => { results := [.lit (.bool true)], args := [d1, d2] }
  | _ => none }
def heapSettlesRow : OpenClaim := { program := "ytapabnafbfnjnaa", sum := "0f29a790513f9e0b5567b213f3ce9b52f4167862401c1c7e4d892bc87992afa4", func := "turbary/turbarylaw05.HeapSettles", spec := "heapSettles", unfollowed := true, recurses := true, apart := false }
def HeapSettlesSaid : Prop := heapSettlesRow.holds Try.pinned (OpenSpec.ofChange heapSettlesSpec)

/-- ITS FALSE NEIGHBOUR: 'it returns false'. Refute it at one input. -/
def heapSettlesWrong : ChangeSpec := { name := "heapSettles", fn := fun _ => fun
  | [d1, d2] => { results := [.lit (.bool false)], args := [d1, d2] }
  | _ => none }
def HeapSettlesWrongFalsely : Prop := heapSettlesRow.holds Try.pinned (OpenSpec.ofChange heapSettlesWrong)

/-- 'turbarylaw05.HeapChecks': WHATEVER THE INPUT: true; the input reads as it did. -/
def heapChecksSpec : ChangeSpec := { name := "heapChecks", fn := fun _ => fun
  | [d1, d2] => { results := [.lit (.bool true)], args := [d1, d2] }
  | _ => none }
def heapChecksRow : OpenClaim := { program := "ytapabnafbfnjnaa", sum := "0f29a790513f9e0b5567b213f3ce9b52f4167862401c1c7e4d892bc87992afa4", func := "turbary/turbarylaw05.HeapChecks", spec := "heapChecks", unfollowed := true, recurses := true, apart := false }
def HeapChecksSaid : Prop := heapChecksRow.holds Try.pinned (OpenSpec.ofChange heapChecksSpec)

/-- ITS FALSE NEIGHBOUR: 'it returns false'. Refute it at one input. -/
def heapChecksWrong : ChangeSpec := { name := "heapChecks", fn := fun _ => fun
  | [d1, d2] => { results := [.lit (.bool false)], args := [d1, d2] }
  | _ => none }
def HeapChecksWrongFalsely : Prop := heapChecksRow.holds Try.pinned (OpenSpec.ofChange heapChecksWrong)

/-- 'turbarylaw05.HeapLasts': WHATEVER THE INPUT: true; the input reads as it did. -/
def heapLastsSpec : ChangeSpec := { name := "heapLasts", fn := fun _ => fun
  | [d1, d2] => { results := [.lit (.bool true)], args := [d1, d2] }
  | _ => none }
def heapLastsRow : OpenClaim := { program := "ytapabnafbfnjnaa", sum := "0f29a790513f9e0b5567b213f3ce9b52f4167862401c1c7e4d892bc87992afa4", func := "turbary/turbarylaw05.HeapLasts", spec := "heapLasts", unfollowed := true, recurses := true, apart := false }
def HeapLastsSaid : Prop := heapLastsRow.holds Try.pinned (OpenSpec.ofChange heapLastsSpec)

/-- ITS FALSE NEIGHBOUR: 'it returns false'. Refute it at one input. -/
def heapLastsWrong : ChangeSpec := { name := "heapLasts", fn := fun _ => fun
  | [d1, d2] => { results := [.lit (.bool false)], args := [d1, d2] }
  | _ => none }
def HeapLastsWrongFalsely : Prop := heapLastsRow.holds Try.pinned (OpenSpec.ofChange heapLastsWrong)

/-- 'turbarylaw05.HeapBacks': WHATEVER THE INPUT: true; the input reads as it did. -/
def heapBacksSpec : ChangeSpec := { name := "heapBacks", fn := fun _ => fun
  | [d1, d2] => { results := [.lit (.bool true)], args := [d1, d2] }
  | _ => none }
def heapBacksRow : OpenClaim := { program := "ytapabnafbfnjnaa", sum := "0f29a790513f9e0b5567b213f3ce9b52f4167862401c1c7e4d892bc87992afa4", func := "turbary/turbarylaw05.HeapBacks", spec := "heapBacks", unfollowed := true, recurses := true, apart := false }
def HeapBacksSaid : Prop := heapBacksRow.holds Try.pinned (OpenSpec.ofChange heapBacksSpec)

/-- ITS FALSE NEIGHBOUR: 'it returns false'. Refute it at one input. -/
def heapBacksWrong : ChangeSpec := { name := "heapBacks", fn := fun _ => fun
  | [d1, d2] => { results := [.lit (.bool false)], args := [d1, d2] }
  | _ => none }
def HeapBacksWrongFalsely : Prop := heapBacksRow.holds Try.pinned (OpenSpec.ofChange heapBacksWrong)

/-- 'turbarylaw05.HeapTurns': WHATEVER THE INPUT: true; the input reads as it did. -/
def heapTurnsSpec : ChangeSpec := { name := "heapTurns", fn := fun _ => fun
  | [d1, d2] => { results := [.lit (.bool true)], args := [d1, d2] }
  | _ => none }
def heapTurnsRow : OpenClaim := { program := "ytapabnafbfnjnaa", sum := "0f29a790513f9e0b5567b213f3ce9b52f4167862401c1c7e4d892bc87992afa4", func := "turbary/turbarylaw05.HeapTurns", spec := "heapTurns", unfollowed := true, recurses := true, apart := false }
def HeapTurnsSaid : Prop := heapTurnsRow.holds Try.pinned (OpenSpec.ofChange heapTurnsSpec)

/-- ITS FALSE NEIGHBOUR: 'it returns false'. Refute it at one input. -/
def heapTurnsWrong : ChangeSpec := { name := "heapTurns", fn := fun _ => fun
  | [d1, d2] => { results := [.lit (.bool false)], args := [d1, d2] }
  | _ => none }
def HeapTurnsWrongFalsely : Prop := heapTurnsRow.holds Try.pinned (OpenSpec.ofChange heapTurnsWrong)

/-- 'turbarylaw05.HeapLasting': WHATEVER THE INPUT: true; the input reads as it did. -/
def heapLastingSpec : ChangeSpec := { name := "heapLasting", fn := fun _ => fun
  | [d1, d2] => { results := [.lit (.bool true)], args := [d1, d2] }
  | _ => none }
def heapLastingRow : OpenClaim := { program := "ytapabnafbfnjnaa", sum := "0f29a790513f9e0b5567b213f3ce9b52f4167862401c1c7e4d892bc87992afa4", func := "turbary/turbarylaw05.HeapLasting", spec := "heapLasting", unfollowed := true, recurses := true, apart := false }
def HeapLastingSaid : Prop := heapLastingRow.holds Try.pinned (OpenSpec.ofChange heapLastingSpec)

/-- ITS FALSE NEIGHBOUR: 'it returns false'. Refute it at one input. -/
def heapLastingWrong : ChangeSpec := { name := "heapLasting", fn := fun _ => fun
  | [d1, d2] => { results := [.lit (.bool false)], args := [d1, d2] }
  | _ => none }
def HeapLastingWrongFalsely : Prop := heapLastingRow.holds Try.pinned (OpenSpec.ofChange heapLastingWrong)

/-- 'turbarylaw05.HeapGroups': WHATEVER THE INPUT: true; the input reads as it did. -/
def heapGroupsSpec : ChangeSpec := { name := "heapGroups", fn := fun _ => fun
  | [d1, d2, d3] => { results := [.lit (.bool true)], args := [d1, d2, d3] }
  | _ => none }
def heapGroupsRow : OpenClaim := { program := "ytapabnafbfnjnaa", sum := "0f29a790513f9e0b5567b213f3ce9b52f4167862401c1c7e4d892bc87992afa4", func := "turbary/turbarylaw05.HeapGroups", spec := "heapGroups", unfollowed := true, recurses := true, apart := false }
def HeapGroupsSaid : Prop := heapGroupsRow.holds Try.pinned (OpenSpec.ofChange heapGroupsSpec)

/-- ITS FALSE NEIGHBOUR: 'it returns false'. Refute it at one input. -/
def heapGroupsWrong : ChangeSpec := { name := "heapGroups", fn := fun _ => fun
  | [d1, d2, d3] => { results := [.lit (.bool false)], args := [d1, d2, d3] }
  | _ => none }
def HeapGroupsWrongFalsely : Prop := heapGroupsRow.holds Try.pinned (OpenSpec.ofChange heapGroupsWrong)

/- THE SECOND FORM. 'bulk': how many values and letters a reading holds, each counted each time it is reached (what is shared counts as often as it is met; a slice's spare places count too). A statement '..UptoSaid' is the law's where the arguments, and the package variables that the reading takes, are together of bulk at most 1048576: NARROWER than '..Said'. Prove '..Said' where nothing that the law and all that it calls make is longer than what came in: it says more and counts as full. Else prove '..UptoSaid'. A law counts once. -/
mutual
def uptoBulk {H : Type} : DataW H → Nat
  | .lit (.string bytes) => bytes.length + 1
  | .lit _ => 1
  | .nil => 1
  | .ptr d => uptoBulk d + 1
  | .slice elems spare => uptoBulkAll elems + uptoBulkAll spare + 1
  | .agg parts => uptoBulkAll parts + 1
  | .iface _ d => uptoBulk d + 1
  | .map entries => uptoBulkEntries entries + 1
  | .held _ => 1
def uptoBulkAll {H : Type} : List (DataW H) → Nat
  | [] => 0
  | d :: r => uptoBulk d + uptoBulkAll r
def uptoBulkEntries {H : Type} : List (Lit × DataW H) → Nat
  | [] => 0
  | x :: r => uptoBulkEntry x + uptoBulkEntries r
def uptoBulkEntry {H : Type} : Lit × DataW H → Nat
  | (.string bytes, d) => bytes.length + uptoBulk d + 1
  | (_, d) => uptoBulk d + 1
 end
def uptoSmall : (H : Type) → List (DataW H) → Bool := fun _ ds => decide (uptoBulkAll ds ≤ 1048576)
def OpenSpec.upto (s : _root_.Go.ChangeSpec) : _root_.Go.OpenSpec := { _root_.Go.OpenSpec.ofChange s with cond := some uptoSmall }

/-- 'turbarytop.TopHeaps', WHERE WHAT IT READS IS OF BULK AT MOST 1048576: true; the input reads as it did. -/
def topHeapsUptoRow : OpenClaim := { program := "ytapabnafbfnjnaa", sum := "0f29a790513f9e0b5567b213f3ce9b52f4167862401c1c7e4d892bc87992afa4", func := "turbary/turbarytop.TopHeaps", spec := "topHeaps", unfollowed := true, recurses := true, apart := false, narrowed := true }
def TopHeapsUptoSaid : Prop := topHeapsUptoRow.holds Try.pinned (OpenSpec.upto topHeapsSpec)

/-- 'turbarylaw05.HeapCounts', WHERE WHAT IT READS IS OF BULK AT MOST 1048576: true; the input reads as it did. -/
def heapCountsUptoRow : OpenClaim := { program := "ytapabnafbfnjnaa", sum := "0f29a790513f9e0b5567b213f3ce9b52f4167862401c1c7e4d892bc87992afa4", func := "turbary/turbarylaw05.HeapCounts", spec := "heapCounts", unfollowed := true, recurses := true, apart := false, narrowed := true }
def HeapCountsUptoSaid : Prop := heapCountsUptoRow.holds Try.pinned (OpenSpec.upto heapCountsSpec)

/-- 'turbarylaw05.HeapAdds', WHERE WHAT IT READS IS OF BULK AT MOST 1048576: true; the input reads as it did. -/
def heapAddsUptoRow : OpenClaim := { program := "ytapabnafbfnjnaa", sum := "0f29a790513f9e0b5567b213f3ce9b52f4167862401c1c7e4d892bc87992afa4", func := "turbary/turbarylaw05.HeapAdds", spec := "heapAdds", unfollowed := true, recurses := true, apart := false, narrowed := true }
def HeapAddsUptoSaid : Prop := heapAddsUptoRow.holds Try.pinned (OpenSpec.upto heapAddsSpec)

/-- 'turbarylaw05.HeapSums', WHERE WHAT IT READS IS OF BULK AT MOST 1048576: true; the input reads as it did. -/
def heapSumsUptoRow : OpenClaim := { program := "ytapabnafbfnjnaa", sum := "0f29a790513f9e0b5567b213f3ce9b52f4167862401c1c7e4d892bc87992afa4", func := "turbary/turbarylaw05.HeapSums", spec := "heapSums", unfollowed := true, recurses := true, apart := false, narrowed := true }
def HeapSumsUptoSaid : Prop := heapSumsUptoRow.holds Try.pinned (OpenSpec.upto heapSumsSpec)

/-- 'turbarylaw05.HeapLimits', WHERE WHAT IT READS IS OF BULK AT MOST 1048576: true; the input reads as it did. -/
def heapLimitsUptoRow : OpenClaim := { program := "ytapabnafbfnjnaa", sum := "0f29a790513f9e0b5567b213f3ce9b52f4167862401c1c7e4d892bc87992afa4", func := "turbary/turbarylaw05.HeapLimits", spec := "heapLimits", unfollowed := true, recurses := true, apart := false, narrowed := true }
def HeapLimitsUptoSaid : Prop := heapLimitsUptoRow.holds Try.pinned (OpenSpec.upto heapLimitsSpec)

/-- 'turbarylaw05.HeapDrops', WHERE WHAT IT READS IS OF BULK AT MOST 1048576: true; the input reads as it did. -/
def heapDropsUptoRow : OpenClaim := { program := "ytapabnafbfnjnaa", sum := "0f29a790513f9e0b5567b213f3ce9b52f4167862401c1c7e4d892bc87992afa4", func := "turbary/turbarylaw05.HeapDrops", spec := "heapDrops", unfollowed := true, recurses := true, apart := false, narrowed := true }
def HeapDropsUptoSaid : Prop := heapDropsUptoRow.holds Try.pinned (OpenSpec.upto heapDropsSpec)

/-- 'turbarylaw05.HeapOrders', WHERE WHAT IT READS IS OF BULK AT MOST 1048576: true; the input reads as it did. -/
def heapOrdersUptoRow : OpenClaim := { program := "ytapabnafbfnjnaa", sum := "0f29a790513f9e0b5567b213f3ce9b52f4167862401c1c7e4d892bc87992afa4", func := "turbary/turbarylaw05.HeapOrders", spec := "heapOrders", unfollowed := true, recurses := true, apart := false, narrowed := true }
def HeapOrdersUptoSaid : Prop := heapOrdersUptoRow.holds Try.pinned (OpenSpec.upto heapOrdersSpec)

/-- 'turbarylaw05.HeapAnyOrder', WHERE WHAT IT READS IS OF BULK AT MOST 1048576: true; the input reads as it did. -/
def heapAnyOrderUptoRow : OpenClaim := { program := "ytapabnafbfnjnaa", sum := "0f29a790513f9e0b5567b213f3ce9b52f4167862401c1c7e4d892bc87992afa4", func := "turbary/turbarylaw05.HeapAnyOrder", spec := "heapAnyOrder", unfollowed := true, recurses := true, apart := false, narrowed := true }
def HeapAnyOrderUptoSaid : Prop := heapAnyOrderUptoRow.holds Try.pinned (OpenSpec.upto heapAnyOrderSpec)

/-- 'turbarylaw05.HeapScripts', WHERE WHAT IT READS IS OF BULK AT MOST 1048576: true; the input reads as it did. -/
def heapScriptsUptoRow : OpenClaim := { program := "ytapabnafbfnjnaa", sum := "0f29a790513f9e0b5567b213f3ce9b52f4167862401c1c7e4d892bc87992afa4", func := "turbary/turbarylaw05.HeapScripts", spec := "heapScripts", unfollowed := true, recurses := true, apart := false, narrowed := true }
def HeapScriptsUptoSaid : Prop := heapScriptsUptoRow.holds Try.pinned (OpenSpec.upto heapScriptsSpec)

/-- 'turbarylaw05.HeapTopples', WHERE WHAT IT READS IS OF BULK AT MOST 1048576: true; the input reads as it did. -/
def heapTopplesUptoRow : OpenClaim := { program := "ytapabnafbfnjnaa", sum := "0f29a790513f9e0b5567b213f3ce9b52f4167862401c1c7e4d892bc87992afa4", func := "turbary/turbarylaw05.HeapTopples", spec := "heapTopples", unfollowed := true, recurses := true, apart := false, narrowed := true }
def HeapTopplesUptoSaid : Prop := heapTopplesUptoRow.holds Try.pinned (OpenSpec.upto heapTopplesSpec)

/-- 'turbarylaw05.HeapSettles', WHERE WHAT IT READS IS OF BULK AT MOST 1048576: true; the input reads as it did. -/
def heapSettlesUptoRow : OpenClaim := { program := "ytapabnafbfnjnaa", sum := "0f29a790513f9e0b5567b213f3ce9b52f4167862401c1c7e4d892bc87992afa4", func := "turbary/turbarylaw05.HeapSettles", spec := "heapSettles", unfollowed := true, recurses := true, apart := false, narrowed := true }
def HeapSettlesUptoSaid : Prop := heapSettlesUptoRow.holds Try.pinned (OpenSpec.upto heapSettlesSpec)

/-- 'turbarylaw05.HeapChecks', WHERE WHAT IT READS IS OF BULK AT MOST 1048576: true; the input reads as it did. -/
def heapChecksUptoRow : OpenClaim := { program := "ytapabnafbfnjnaa", sum := "0f29a790513f9e0b5567b213f3ce9b52f4167862401c1c7e4d892bc87992afa4", func := "turbary/turbarylaw05.HeapChecks", spec := "heapChecks", unfollowed := true, recurses := true, apart := false, narrowed := true }
def HeapChecksUptoSaid : Prop := heapChecksUptoRow.holds Try.pinned (OpenSpec.upto heapChecksSpec)

/-- 'turbarylaw05.HeapLasts', WHERE WHAT IT READS IS OF BULK AT MOST 1048576: true; the input reads as it did. -/
def heapLastsUptoRow : OpenClaim := { program := "ytapabnafbfnjnaa", sum := "0f29a790513f9e0b5567b213f3ce9b52f4167862401c1c7e4d892bc87992afa4", func := "turbary/turbarylaw05.HeapLasts", spec := "heapLasts", unfollowed := true, recurses := true, apart := false, narrowed := true }
def HeapLastsUptoSaid : Prop := heapLastsUptoRow.holds Try.pinned (OpenSpec.upto heapLastsSpec)

/-- 'turbarylaw05.HeapBacks', WHERE WHAT IT READS IS OF BULK AT MOST 1048576: true; the input reads as it did. -/
def heapBacksUptoRow : OpenClaim := { program := "ytapabnafbfnjnaa", sum := "0f29a790513f9e0b5567b213f3ce9b52f4167862401c1c7e4d892bc87992afa4", func := "turbary/turbarylaw05.HeapBacks", spec := "heapBacks", unfollowed := true, recurses := true, apart := false, narrowed := true }
def HeapBacksUptoSaid : Prop := heapBacksUptoRow.holds Try.pinned (OpenSpec.upto heapBacksSpec)

/-- 'turbarylaw05.HeapTurns', WHERE WHAT IT READS IS OF BULK AT MOST 1048576: true; the input reads as it did. -/
def heapTurnsUptoRow : OpenClaim := { program := "ytapabnafbfnjnaa", sum := "0f29a790513f9e0b5567b213f3ce9b52f4167862401c1c7e4d892bc87992afa4", func := "turbary/turbarylaw05.HeapTurns", spec := "heapTurns", unfollowed := true, recurses := true, apart := false, narrowed := true }
def HeapTurnsUptoSaid : Prop := heapTurnsUptoRow.holds Try.pinned (OpenSpec.upto heapTurnsSpec)

/-- 'turbarylaw05.HeapLasting', WHERE WHAT IT READS IS OF BULK AT MOST 1048576: true; the input reads as it did. -/
def heapLastingUptoRow : OpenClaim := { program := "ytapabnafbfnjnaa", sum := "0f29a790513f9e0b5567b213f3ce9b52f4167862401c1c7e4d892bc87992afa4", func := "turbary/turbarylaw05.HeapLasting", spec := "heapLasting", unfollowed := true, recurses := true, apart := false, narrowed := true }
def HeapLastingUptoSaid : Prop := heapLastingUptoRow.holds Try.pinned (OpenSpec.upto heapLastingSpec)

/-- 'turbarylaw05.HeapGroups', WHERE WHAT IT READS IS OF BULK AT MOST 1048576: true; the input reads as it did. -/
def heapGroupsUptoRow : OpenClaim := { program := "ytapabnafbfnjnaa", sum := "0f29a790513f9e0b5567b213f3ce9b52f4167862401c1c7e4d892bc87992afa4", func := "turbary/turbarylaw05.HeapGroups", spec := "heapGroups", unfollowed := true, recurses := true, apart := false, narrowed := true }
def HeapGroupsUptoSaid : Prop := heapGroupsUptoRow.holds Try.pinned (OpenSpec.upto heapGroupsSpec)

end Rows
end Go.Proofs.Ytapabnafbfnjnaa
