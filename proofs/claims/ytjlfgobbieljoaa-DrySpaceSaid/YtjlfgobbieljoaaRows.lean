/-
  No cell of these rows narrows 'for every input' (looked for: loops, veiled, ifaces, maps, wideKeys, modest, calm, conditions, laid).
  DERIVED. THE GIVEN ROWS OF THIS SEAT. 13 by the template 'for every input the law returns true; each argument reads behind the call as it read before'; 0 by the template 'total and deterministic' (their statements: YtjlfgobbieljoaaTotals.lean).
  GIVEN WITH THE SEED: the statements are not yours to turn. If you find one false, say at which input.
  Laid BY PROGRAM, IN A SANDBOX (cutbox-rows.mjs): the forced cells as the released guide's own fill.sh prints them over the translation 0b20d642deb17110… (all of the seat's roots in one cut). By AI agents, Wed Nov 11 2026. No macro, syntax, notation, axiom, sorry.
-/
import Derived.Test.YtjlfgobbieljoaaChecked
import GoSem.Claim
import GoSem.ClaimJoined
import GoSem.ClaimMapViews
import Derived.JoinedTies
import Derived.KernelRfl
namespace Go.Proofs.Ytjlfgobbieljoaa
/- THE CELL 'sum', in the pinned program and in every row, IS THE sha256 OF THE DUMP (.gsa) THAT YtjlfgobbieljoaaProg.lean LOADS. Nothing in Lean hashes anything: it is a label: what it is worth is what the hold of that sum in a sandbox is worth. -/
noncomputable def Try.pinned : Pinned := { name := "ytjlfgobbieljoaa", sum := "0b20d642deb17110073e95566ef7523c88f8032beeb46a78b8b248f510906677", checked := Try.checked }
namespace Rows
def none {H : Type} : Left H := { results := [], args := [] }

/-- 'turbarylaw06.DryRuns': WHATEVER THE INPUT: true; the input reads as it did. -/
def dryRunsSpec : ChangeSpec := { name := "dryRuns", fn := fun _ => fun
  | [d1, d2, d3] => { results := [.lit (.bool true)], args := [d1, d2, d3] }
  | _ => none }
def dryRunsRow : OpenClaim := { program := "ytjlfgobbieljoaa", sum := "0b20d642deb17110073e95566ef7523c88f8032beeb46a78b8b248f510906677", func := "turbary/turbarylaw06.DryRuns", spec := "dryRuns", unfollowed := true, recurses := true, apart := false }
def DryRunsSaid : Prop := dryRunsRow.holds Try.pinned (OpenSpec.ofChange dryRunsSpec)

/-- ITS FALSE NEIGHBOUR: 'it returns false'. Refute it at one input. -/
def dryRunsWrong : ChangeSpec := { name := "dryRuns", fn := fun _ => fun
  | [d1, d2, d3] => { results := [.lit (.bool false)], args := [d1, d2, d3] }
  | _ => none }
def DryRunsWrongFalsely : Prop := dryRunsRow.holds Try.pinned (OpenSpec.ofChange dryRunsWrong)

/-- 'turbarylaw06.DryStuck': WHATEVER THE INPUT: true; the input reads as it did. -/
def dryStuckSpec : ChangeSpec := { name := "dryStuck", fn := fun _ => fun
  | [d1, d2, d3] => { results := [.lit (.bool true)], args := [d1, d2, d3] }
  | _ => none }
def dryStuckRow : OpenClaim := { program := "ytjlfgobbieljoaa", sum := "0b20d642deb17110073e95566ef7523c88f8032beeb46a78b8b248f510906677", func := "turbary/turbarylaw06.DryStuck", spec := "dryStuck", unfollowed := true, recurses := true, apart := false }
def DryStuckSaid : Prop := dryStuckRow.holds Try.pinned (OpenSpec.ofChange dryStuckSpec)

/-- ITS FALSE NEIGHBOUR: 'it returns false'. Refute it at one input. -/
def dryStuckWrong : ChangeSpec := { name := "dryStuck", fn := fun _ => fun
  | [d1, d2, d3] => { results := [.lit (.bool false)], args := [d1, d2, d3] }
  | _ => none }
def DryStuckWrongFalsely : Prop := dryStuckRow.holds Try.pinned (OpenSpec.ofChange dryStuckWrong)

/-- 'turbarylaw06.DryDoes': WHATEVER THE INPUT: true; the input reads as it did. -/
def dryDoesSpec : ChangeSpec := { name := "dryDoes", fn := fun _ => fun
  | [d1, d2, d3] => { results := [.lit (.bool true)], args := [d1, d2, d3] }
  | _ => none }
def dryDoesRow : OpenClaim := { program := "ytjlfgobbieljoaa", sum := "0b20d642deb17110073e95566ef7523c88f8032beeb46a78b8b248f510906677", func := "turbary/turbarylaw06.DryDoes", spec := "dryDoes", unfollowed := true, recurses := true, apart := false }
def DryDoesSaid : Prop := dryDoesRow.holds Try.pinned (OpenSpec.ofChange dryDoesSpec)

/-- ITS FALSE NEIGHBOUR: 'it returns false'. Refute it at one input. -/
def dryDoesWrong : ChangeSpec := { name := "dryDoes", fn := fun _ => fun
  | [d1, d2, d3] => { results := [.lit (.bool false)], args := [d1, d2, d3] }
  | _ => none }
def DryDoesWrongFalsely : Prop := dryDoesRow.holds Try.pinned (OpenSpec.ofChange dryDoesWrong)

/-- 'turbarylaw06.DryEffects': WHATEVER THE INPUT: true; the input reads as it did. -/
def dryEffectsSpec : ChangeSpec := { name := "dryEffects", fn := fun _ => fun
  | [d1, d2, d3] => { results := [.lit (.bool true)], args := [d1, d2, d3] }
  | _ => none }
def dryEffectsRow : OpenClaim := { program := "ytjlfgobbieljoaa", sum := "0b20d642deb17110073e95566ef7523c88f8032beeb46a78b8b248f510906677", func := "turbary/turbarylaw06.DryEffects", spec := "dryEffects", unfollowed := true, recurses := true, apart := false }
def DryEffectsSaid : Prop := dryEffectsRow.holds Try.pinned (OpenSpec.ofChange dryEffectsSpec)

/-- ITS FALSE NEIGHBOUR: 'it returns false'. Refute it at one input. -/
def dryEffectsWrong : ChangeSpec := { name := "dryEffects", fn := fun _ => fun
  | [d1, d2, d3] => { results := [.lit (.bool false)], args := [d1, d2, d3] }
  | _ => none }
def DryEffectsWrongFalsely : Prop := dryEffectsRow.holds Try.pinned (OpenSpec.ofChange dryEffectsWrong)

/-- 'turbarylaw06.DryAdds': WHATEVER THE INPUT: true; the input reads as it did. -/
def dryAddsSpec : ChangeSpec := { name := "dryAdds", fn := fun _ => fun
  | [d1, d2, d3] => { results := [.lit (.bool true)], args := [d1, d2, d3] }
  | _ => none }
def dryAddsRow : OpenClaim := { program := "ytjlfgobbieljoaa", sum := "0b20d642deb17110073e95566ef7523c88f8032beeb46a78b8b248f510906677", func := "turbary/turbarylaw06.DryAdds", spec := "dryAdds", unfollowed := true, recurses := true, apart := false }
def DryAddsSaid : Prop := dryAddsRow.holds Try.pinned (OpenSpec.ofChange dryAddsSpec)

/-- ITS FALSE NEIGHBOUR: 'it returns false'. Refute it at one input. -/
def dryAddsWrong : ChangeSpec := { name := "dryAdds", fn := fun _ => fun
  | [d1, d2, d3] => { results := [.lit (.bool false)], args := [d1, d2, d3] }
  | _ => none }
def DryAddsWrongFalsely : Prop := dryAddsRow.holds Try.pinned (OpenSpec.ofChange dryAddsWrong)

/-- 'turbarylaw06.DryInvariants': WHATEVER THE INPUT: true; the input reads as it did. -/
def dryInvariantsSpec : ChangeSpec := { name := "dryInvariants", fn := fun _ => fun
  | [d1, d2, d3] => { results := [.lit (.bool true)], args := [d1, d2, d3] }
  | _ => none }
def dryInvariantsRow : OpenClaim := { program := "ytjlfgobbieljoaa", sum := "0b20d642deb17110073e95566ef7523c88f8032beeb46a78b8b248f510906677", func := "turbary/turbarylaw06.DryInvariants", spec := "dryInvariants", unfollowed := true, recurses := true, apart := false }
def DryInvariantsSaid : Prop := dryInvariantsRow.holds Try.pinned (OpenSpec.ofChange dryInvariantsSpec)

/-- ITS FALSE NEIGHBOUR: 'it returns false'. Refute it at one input. -/
def dryInvariantsWrong : ChangeSpec := { name := "dryInvariants", fn := fun _ => fun
  | [d1, d2, d3] => { results := [.lit (.bool false)], args := [d1, d2, d3] }
  | _ => none }
def DryInvariantsWrongFalsely : Prop := dryInvariantsRow.holds Try.pinned (OpenSpec.ofChange dryInvariantsWrong)

/-- 'turbarylaw06.DryKeeps': WHATEVER THE INPUT: true; the input reads as it did. -/
def dryKeepsSpec : ChangeSpec := { name := "dryKeeps", fn := fun _ => fun
  | [d1, d2, d3] => { results := [.lit (.bool true)], args := [d1, d2, d3] }
  | _ => none }
def dryKeepsRow : OpenClaim := { program := "ytjlfgobbieljoaa", sum := "0b20d642deb17110073e95566ef7523c88f8032beeb46a78b8b248f510906677", func := "turbary/turbarylaw06.DryKeeps", spec := "dryKeeps", unfollowed := true, recurses := true, apart := false }
def DryKeepsSaid : Prop := dryKeepsRow.holds Try.pinned (OpenSpec.ofChange dryKeepsSpec)

/-- ITS FALSE NEIGHBOUR: 'it returns false'. Refute it at one input. -/
def dryKeepsWrong : ChangeSpec := { name := "dryKeeps", fn := fun _ => fun
  | [d1, d2, d3] => { results := [.lit (.bool false)], args := [d1, d2, d3] }
  | _ => none }
def DryKeepsWrongFalsely : Prop := dryKeepsRow.holds Try.pinned (OpenSpec.ofChange dryKeepsWrong)

/-- 'turbarylaw06.DryTurns': WHATEVER THE INPUT: true; the input reads as it did. -/
def dryTurnsSpec : ChangeSpec := { name := "dryTurns", fn := fun _ => fun
  | [d1, d2, d3] => { results := [.lit (.bool true)], args := [d1, d2, d3] }
  | _ => none }
def dryTurnsRow : OpenClaim := { program := "ytjlfgobbieljoaa", sum := "0b20d642deb17110073e95566ef7523c88f8032beeb46a78b8b248f510906677", func := "turbary/turbarylaw06.DryTurns", spec := "dryTurns", unfollowed := true, recurses := true, apart := false }
def DryTurnsSaid : Prop := dryTurnsRow.holds Try.pinned (OpenSpec.ofChange dryTurnsSpec)

/-- ITS FALSE NEIGHBOUR: 'it returns false'. Refute it at one input. -/
def dryTurnsWrong : ChangeSpec := { name := "dryTurns", fn := fun _ => fun
  | [d1, d2, d3] => { results := [.lit (.bool false)], args := [d1, d2, d3] }
  | _ => none }
def DryTurnsWrongFalsely : Prop := dryTurnsRow.holds Try.pinned (OpenSpec.ofChange dryTurnsWrong)

/-- 'turbarylaw06.DryOrders': WHATEVER THE INPUT: true; the input reads as it did. -/
def dryOrdersSpec : ChangeSpec := { name := "dryOrders", fn := fun _ => fun
  | [d1, d2, d3] => { results := [.lit (.bool true)], args := [d1, d2, d3] }
  | _ => none }
def dryOrdersRow : OpenClaim := { program := "ytjlfgobbieljoaa", sum := "0b20d642deb17110073e95566ef7523c88f8032beeb46a78b8b248f510906677", func := "turbary/turbarylaw06.DryOrders", spec := "dryOrders", unfollowed := true, recurses := true, apart := false }
def DryOrdersSaid : Prop := dryOrdersRow.holds Try.pinned (OpenSpec.ofChange dryOrdersSpec)

/-- ITS FALSE NEIGHBOUR: 'it returns false'. Refute it at one input. -/
def dryOrdersWrong : ChangeSpec := { name := "dryOrders", fn := fun _ => fun
  | [d1, d2, d3] => { results := [.lit (.bool false)], args := [d1, d2, d3] }
  | _ => none }
def DryOrdersWrongFalsely : Prop := dryOrdersRow.holds Try.pinned (OpenSpec.ofChange dryOrdersWrong)

/-- 'turbarylaw06.DrySpace': WHATEVER THE INPUT: true; the input reads as it did. -/
def drySpaceSpec : ChangeSpec := { name := "drySpace", fn := fun _ => fun
  | [d] => { results := [.lit (.bool true)], args := [d] }
  | _ => none }
def drySpaceRow : OpenClaim := { program := "ytjlfgobbieljoaa", sum := "0b20d642deb17110073e95566ef7523c88f8032beeb46a78b8b248f510906677", func := "turbary/turbarylaw06.DrySpace", spec := "drySpace", unfollowed := true, recurses := true, apart := false }
def DrySpaceSaid : Prop := drySpaceRow.holds Try.pinned (OpenSpec.ofChange drySpaceSpec)

/-- ITS FALSE NEIGHBOUR: 'it returns false'. Refute it at one input. -/
def drySpaceWrong : ChangeSpec := { name := "drySpace", fn := fun _ => fun
  | [d] => { results := [.lit (.bool false)], args := [d] }
  | _ => none }
def DrySpaceWrongFalsely : Prop := drySpaceRow.holds Try.pinned (OpenSpec.ofChange drySpaceWrong)

/-- 'turbarylaw06.DryStays': WHATEVER THE INPUT: true; the input reads as it did. -/
def dryStaysSpec : ChangeSpec := { name := "dryStays", fn := fun _ => fun
  | [d1, d2, d3] => { results := [.lit (.bool true)], args := [d1, d2, d3] }
  | _ => none }
def dryStaysRow : OpenClaim := { program := "ytjlfgobbieljoaa", sum := "0b20d642deb17110073e95566ef7523c88f8032beeb46a78b8b248f510906677", func := "turbary/turbarylaw06.DryStays", spec := "dryStays", unfollowed := true, recurses := true, apart := false }
def DryStaysSaid : Prop := dryStaysRow.holds Try.pinned (OpenSpec.ofChange dryStaysSpec)

/-- ITS FALSE NEIGHBOUR: 'it returns false'. Refute it at one input. -/
def dryStaysWrong : ChangeSpec := { name := "dryStays", fn := fun _ => fun
  | [d1, d2, d3] => { results := [.lit (.bool false)], args := [d1, d2, d3] }
  | _ => none }
def DryStaysWrongFalsely : Prop := dryStaysRow.holds Try.pinned (OpenSpec.ofChange dryStaysWrong)

/-- 'turbarylaw06.DrySets': WHATEVER THE INPUT: true; the input reads as it did. -/
def drySetsSpec : ChangeSpec := { name := "drySets", fn := fun _ => fun
  | [d1, d2] => { results := [.lit (.bool true)], args := [d1, d2] }
  | _ => none }
def drySetsRow : OpenClaim := { program := "ytjlfgobbieljoaa", sum := "0b20d642deb17110073e95566ef7523c88f8032beeb46a78b8b248f510906677", func := "turbary/turbarylaw06.DrySets", spec := "drySets", unfollowed := true, recurses := true, apart := false }
def DrySetsSaid : Prop := drySetsRow.holds Try.pinned (OpenSpec.ofChange drySetsSpec)

/-- ITS FALSE NEIGHBOUR: 'it returns false'. Refute it at one input. -/
def drySetsWrong : ChangeSpec := { name := "drySets", fn := fun _ => fun
  | [d1, d2] => { results := [.lit (.bool false)], args := [d1, d2] }
  | _ => none }
def DrySetsWrongFalsely : Prop := drySetsRow.holds Try.pinned (OpenSpec.ofChange drySetsWrong)

/-- 'turbarytop.TopSteps': WHATEVER THE INPUT: true; the input reads as it did. -/
def topStepsSpec : ChangeSpec := { name := "topSteps", fn := fun _ => fun
  | [d1, d2, d3] => { results := [.lit (.bool true)], args := [d1, d2, d3] }
  | _ => none }
def topStepsRow : OpenClaim := { program := "ytjlfgobbieljoaa", sum := "0b20d642deb17110073e95566ef7523c88f8032beeb46a78b8b248f510906677", func := "turbary/turbarytop.TopSteps", spec := "topSteps", unfollowed := true, recurses := true, apart := false }
def TopStepsSaid : Prop := topStepsRow.holds Try.pinned (OpenSpec.ofChange topStepsSpec)

/-- ITS FALSE NEIGHBOUR: 'it returns false'. Refute it at one input. -/
def topStepsWrong : ChangeSpec := { name := "topSteps", fn := fun _ => fun
  | [d1, d2, d3] => { results := [.lit (.bool false)], args := [d1, d2, d3] }
  | _ => none }
def TopStepsWrongFalsely : Prop := topStepsRow.holds Try.pinned (OpenSpec.ofChange topStepsWrong)

/- THE SECOND FORM. 'bulk': how many values and letters a reading holds, each counted each time it is reached (what is shared counts as often as it is met; a slice's spare places count too). A statement '..UptoSaid' is the law's where the arguments, and the package variables that the reading takes, are together of bulk at most 1048576: NARROWER than '..Said'. Prove '..Said' where nothing that the law and all that it calls make is longer than what came in: it says more and counts as full. Else prove '..UptoSaid'. A law counts once. -/
mutual
def uptoBulk {H : Type} : DataW H → Nat
  | .lit (.string bytes) => bytes.length + 1
  | .lit _ => 1
  | .nil => 1
  | .ptr d => uptoBulk d + 1
  | .slice elems spare => uptoBulkAll elems + uptoBulkAll spare + 1
  | .agg parts => uptoBulkAll parts + 1
  | .iface _ d => uptoBulk d + 1
  | .map entries => uptoBulkEntries entries + 1
  | .held _ => 1
def uptoBulkAll {H : Type} : List (DataW H) → Nat
  | [] => 0
  | d :: r => uptoBulk d + uptoBulkAll r
def uptoBulkEntries {H : Type} : List (Lit × DataW H) → Nat
  | [] => 0
  | x :: r => uptoBulkEntry x + uptoBulkEntries r
def uptoBulkEntry {H : Type} : Lit × DataW H → Nat
  | (.string bytes, d) => bytes.length + uptoBulk d + 1
  | (_, d) => uptoBulk d + 1
 end
def uptoSmall : (H : Type) → List (DataW H) → Bool := fun _ ds => decide (uptoBulkAll ds ≤ 1048576)
def OpenSpec.upto (s : _root_.Go.ChangeSpec) : _root_.Go.OpenSpec := { _root_.Go.OpenSpec.ofChange s with cond := some uptoSmall }

/-- 'turbarylaw06.DryRuns', WHERE WHAT IT READS IS OF BULK AT MOST 1048576: true; the input reads as it did. -/
def dryRunsUptoRow : OpenClaim := { program := "ytjlfgobbieljoaa", sum := "0b20d642deb17110073e95566ef7523c88f8032beeb46a78b8b248f510906677", func := "turbary/turbarylaw06.DryRuns", spec := "dryRuns", unfollowed := true, recurses := true, apart := false, narrowed := true }
def DryRunsUptoSaid : Prop := dryRunsUptoRow.holds Try.pinned (OpenSpec.upto dryRunsSpec)

/-- 'turbarylaw06.DryStuck', WHERE WHAT IT READS IS OF BULK AT MOST 1048576: true; the input reads as it did. -/
def dryStuckUptoRow : OpenClaim := { program := "ytjlfgobbieljoaa", sum := "0b20d642deb17110073e95566ef7523c88f8032beeb46a78b8b248f510906677", func := "turbary/turbarylaw06.DryStuck", spec := "dryStuck", unfollowed := true, recurses := true, apart := false, narrowed := true }
def DryStuckUptoSaid : Prop := dryStuckUptoRow.holds Try.pinned (OpenSpec.upto dryStuckSpec)

/-- 'turbarylaw06.DryDoes', WHERE WHAT IT READS IS OF BULK AT MOST 1048576: true; the input reads as it did. -/
def dryDoesUptoRow : OpenClaim := { program := "ytjlfgobbieljoaa", sum := "0b20d642deb17110073e95566ef7523c88f8032beeb46a78b8b248f510906677", func := "turbary/turbarylaw06.DryDoes", spec := "dryDoes", unfollowed := true, recurses := true, apart := false, narrowed := true }
def DryDoesUptoSaid : Prop := dryDoesUptoRow.holds Try.pinned (OpenSpec.upto dryDoesSpec)

/-- 'turbarylaw06.DryEffects', WHERE WHAT IT READS IS OF BULK AT MOST 1048576: true; the input reads as it did. -/
def dryEffectsUptoRow : OpenClaim := { program := "ytjlfgobbieljoaa", sum := "0b20d642deb17110073e95566ef7523c88f8032beeb46a78b8b248f510906677", func := "turbary/turbarylaw06.DryEffects", spec := "dryEffects", unfollowed := true, recurses := true, apart := false, narrowed := true }
def DryEffectsUptoSaid : Prop := dryEffectsUptoRow.holds Try.pinned (OpenSpec.upto dryEffectsSpec)

/-- 'turbarylaw06.DryAdds', WHERE WHAT IT READS IS OF BULK AT MOST 1048576: true; the input reads as it did. -/
def dryAddsUptoRow : OpenClaim := { program := "ytjlfgobbieljoaa", sum := "0b20d642deb17110073e95566ef7523c88f8032beeb46a78b8b248f510906677", func := "turbary/turbarylaw06.DryAdds", spec := "dryAdds", unfollowed := true, recurses := true, apart := false, narrowed := true }
def DryAddsUptoSaid : Prop := dryAddsUptoRow.holds Try.pinned (OpenSpec.upto dryAddsSpec)

/-- 'turbarylaw06.DryInvariants', WHERE WHAT IT READS IS OF BULK AT MOST 1048576: true; the input reads as it did. -/
def dryInvariantsUptoRow : OpenClaim := { program := "ytjlfgobbieljoaa", sum := "0b20d642deb17110073e95566ef7523c88f8032beeb46a78b8b248f510906677", func := "turbary/turbarylaw06.DryInvariants", spec := "dryInvariants", unfollowed := true, recurses := true, apart := false, narrowed := true }
def DryInvariantsUptoSaid : Prop := dryInvariantsUptoRow.holds Try.pinned (OpenSpec.upto dryInvariantsSpec)

/-- 'turbarylaw06.DryKeeps', WHERE WHAT IT READS IS OF BULK AT MOST 1048576: true; the input reads as it did. -/
def dryKeepsUptoRow : OpenClaim := { program := "ytjlfgobbieljoaa", sum := "0b20d642deb17110073e95566ef7523c88f8032beeb46a78b8b248f510906677", func := "turbary/turbarylaw06.DryKeeps", spec := "dryKeeps", unfollowed := true, recurses := true, apart := false, narrowed := true }
def DryKeepsUptoSaid : Prop := dryKeepsUptoRow.holds Try.pinned (OpenSpec.upto dryKeepsSpec)

/-- 'turbarylaw06.DryTurns', WHERE WHAT IT READS IS OF BULK AT MOST 1048576: true; the input reads as it did. -/
def dryTurnsUptoRow : OpenClaim := { program := "ytjlfgobbieljoaa", sum := "0b20d642deb17110073e95566ef7523c88f8032beeb46a78b8b248f510906677", func := "turbary/turbarylaw06.DryTurns", spec := "dryTurns", unfollowed := true, recurses := true, apart := false, narrowed := true }
def DryTurnsUptoSaid : Prop := dryTurnsUptoRow.holds Try.pinned (OpenSpec.upto dryTurnsSpec)

/-- 'turbarylaw06.DryOrders', WHERE WHAT IT READS IS OF BULK AT MOST 1048576: true; the input reads as it did. -/
def dryOrdersUptoRow : OpenClaim := { program := "ytjlfgobbieljoaa", sum := "0b20d642deb17110073e95566ef7523c88f8032beeb46a78b8b248f510906677", func := "turbary/turbarylaw06.DryOrders", spec := "dryOrders", unfollowed := true, recurses := true, apart := false, narrowed := true }
def DryOrdersUptoSaid : Prop := dryOrdersUptoRow.holds Try.pinned (OpenSpec.upto dryOrdersSpec)

/-- 'turbarylaw06.DrySpace', WHERE WHAT IT READS IS OF BULK AT MOST 1048576: true; the input reads as it did. -/
def drySpaceUptoRow : OpenClaim := { program := "ytjlfgobbieljoaa", sum := "0b20d642deb17110073e95566ef7523c88f8032beeb46a78b8b248f510906677", func := "turbary/turbarylaw06.DrySpace", spec := "drySpace", unfollowed := true, recurses := true, apart := false, narrowed := true }
def DrySpaceUptoSaid : Prop := drySpaceUptoRow.holds Try.pinned (OpenSpec.upto drySpaceSpec)

/-- 'turbarylaw06.DryStays', WHERE WHAT IT READS IS OF BULK AT MOST 1048576: true; the input reads as it did. -/
def dryStaysUptoRow : OpenClaim := { program := "ytjlfgobbieljoaa", sum := "0b20d642deb17110073e95566ef7523c88f8032beeb46a78b8b248f510906677", func := "turbary/turbarylaw06.DryStays", spec := "dryStays", unfollowed := true, recurses := true, apart := false, narrowed := true }
def DryStaysUptoSaid : Prop := dryStaysUptoRow.holds Try.pinned (OpenSpec.upto dryStaysSpec)

/-- 'turbarylaw06.DrySets', WHERE WHAT IT READS IS OF BULK AT MOST 1048576: true; the input reads as it did. -/
def drySetsUptoRow : OpenClaim := { program := "ytjlfgobbieljoaa", sum := "0b20d642deb17110073e95566ef7523c88f8032beeb46a78b8b248f510906677", func := "turbary/turbarylaw06.DrySets", spec := "drySets", unfollowed := true, recurses := true, apart := false, narrowed := true }
def DrySetsUptoSaid : Prop := drySetsUptoRow.holds Try.pinned (OpenSpec.upto drySetsSpec)

/-- 'turbarytop.TopSteps', WHERE WHAT IT READS IS OF BULK AT MOST 1048576: true; the input reads as it did. -/
def topStepsUptoRow : OpenClaim := { program := "ytjlfgobbieljoaa", sum := "0b20d642deb17110073e95566ef7523c88f8032beeb46a78b8b248f510906677", func := "turbary/turbarytop.TopSteps", spec := "topSteps", unfollowed := true, recurses := true, apart := false, narrowed := true }
def TopStepsUptoSaid : Prop := topStepsUptoRow.holds Try.pinned (OpenSpec.upto topStepsSpec)

end Rows
end Go.Proofs.Ytjlfgobbieljoaa
