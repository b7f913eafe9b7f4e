/-
  NARROWER THAN 'FOR EVERY INPUT', by the rows' own cells (each row's printed sentence says how): MossGrows: laid · MossEdges: laid · MossNeighbors: laid · MossSteps: laid · TopMoss: laid · MossDays: laid · MossProofs: laid · MossFewest: laid · MossOrders: laid · MossOrderly: laid · MossTurns: laid · MossCores: laid · MossThins: laid · MossTexts: laid.
  DERIVED. THE GIVEN ROWS OF THIS SEAT. 14 by the template 'for every input the law returns true; each argument reads behind the call as it read before'; 0 by the template 'total and deterministic' (their statements: YtjipgkhfbfpacaaDoorTotals.lean).
  GIVEN WITH THE SEED: the statements are not yours to turn. If you find one false, say at which input.
  Laid BY PROGRAM, IN A SANDBOX (cutbox-rows.mjs): the forced cells as the released guide's own fill.sh prints them over the translation 3a107e329ea0526f… (all of the seat's roots in one cut). By AI agents, Wed Nov 11 2026. No macro, syntax, notation, axiom, sorry.
-/
import Derived.Test.YtjipgkhfbfpacaaDoorChecked
import GoSem.PinnedTables
import GoSem.Claim
import GoSem.ClaimJoined
import GoSem.ClaimMapViews
import Derived.JoinedTies
import Derived.KernelRfl
namespace Go.Proofs.YtjipgkhfbfpacaaDoor
/- THE CELL 'sum', in the pinned program and in every row, IS THE sha256 OF THE DUMP (.gsa) THAT YtjipgkhfbfpacaaDoorProg.lean LOADS. Nothing in Lean hashes anything: it is a label: what it is worth is what the hold of that sum in a sandbox is worth. -/
noncomputable def Tryd.pinned : Pinned := { name := "ytjipgkhfbfpacaadoor", sum := "3a107e329ea0526f9024e2ff79e365f5257d94161f0089c3abb5789adf7d65cf", checked := Tryd.checked }
namespace Rows
def none {H : Type} : Left H := { results := [], args := [] }

/- WHAT THE LISTED PACKAGE-LEVEL VARIABLES READ AS WHEN THE CALL BEGINS. Each datum BY PROGRAM (the guide's laid-datum.mjs) off the statement by which the dump's own 'gosem.cut.vars' lays the variable. In a bare row this is a premise. The card (YtjipgkhfbfpacaaDoorCards.lean) ties it to the program's text. -/
def laid_math_bits_deBruijn64tab {H : Type} : DataW H := .agg [.lit (.int .u8 0), .lit (.int .u8 1), .lit (.int .u8 56), .lit (.int .u8 2), .lit (.int .u8 57), .lit (.int .u8 49), .lit (.int .u8 28), .lit (.int .u8 3), .lit (.int .u8 61), .lit (.int .u8 58), .lit (.int .u8 42), .lit (.int .u8 50), .lit (.int .u8 38), .lit (.int .u8 29), .lit (.int .u8 17), .lit (.int .u8 4), .lit (.int .u8 62), .lit (.int .u8 47), .lit (.int .u8 59), .lit (.int .u8 36), .lit (.int .u8 45), .lit (.int .u8 43), .lit (.int .u8 51), .lit (.int .u8 22), .lit (.int .u8 53), .lit (.int .u8 39), .lit (.int .u8 33), .lit (.int .u8 30), .lit (.int .u8 24), .lit (.int .u8 18), .lit (.int .u8 12), .lit (.int .u8 5), .lit (.int .u8 63), .lit (.int .u8 55), .lit (.int .u8 48), .lit (.int .u8 27), .lit (.int .u8 60), .lit (.int .u8 41), .lit (.int .u8 37), .lit (.int .u8 16), .lit (.int .u8 46), .lit (.int .u8 35), .lit (.int .u8 44), .lit (.int .u8 21), .lit (.int .u8 52), .lit (.int .u8 32), .lit (.int .u8 23), .lit (.int .u8 11), .lit (.int .u8 54), .lit (.int .u8 26), .lit (.int .u8 40), .lit (.int .u8 15), .lit (.int .u8 34), .lit (.int .u8 20), .lit (.int .u8 31), .lit (.int .u8 10), .lit (.int .u8 25), .lit (.int .u8 14), .lit (.int .u8 19), .lit (.int .u8 9), .lit (.int .u8 13), .lit (.int .u8 8), .lit (.int .u8 7), .lit (.int .u8 6)]
def laid_math_bits_deBruijn32tab {H : Type} : DataW H := .agg [.lit (.int .u8 0), .lit (.int .u8 1), .lit (.int .u8 28), .lit (.int .u8 2), .lit (.int .u8 29), .lit (.int .u8 14), .lit (.int .u8 24), .lit (.int .u8 3), .lit (.int .u8 30), .lit (.int .u8 22), .lit (.int .u8 20), .lit (.int .u8 15), .lit (.int .u8 25), .lit (.int .u8 17), .lit (.int .u8 4), .lit (.int .u8 8), .lit (.int .u8 31), .lit (.int .u8 27), .lit (.int .u8 13), .lit (.int .u8 23), .lit (.int .u8 21), .lit (.int .u8 19), .lit (.int .u8 16), .lit (.int .u8 7), .lit (.int .u8 26), .lit (.int .u8 12), .lit (.int .u8 18), .lit (.int .u8 6), .lit (.int .u8 11), .lit (.int .u8 5), .lit (.int .u8 10), .lit (.int .u8 9)]
def laid_internal_strconv_uint64pow10 {H : Type} : DataW H := .agg [.lit (.int .u64 1), .lit (.int .u64 10), .lit (.int .u64 100), .lit (.int .u64 1000), .lit (.int .u64 10000), .lit (.int .u64 100000), .lit (.int .u64 1000000), .lit (.int .u64 10000000), .lit (.int .u64 100000000), .lit (.int .u64 1000000000), .lit (.int .u64 10000000000), .lit (.int .u64 100000000000), .lit (.int .u64 1000000000000), .lit (.int .u64 10000000000000), .lit (.int .u64 100000000000000), .lit (.int .u64 1000000000000000), .lit (.int .u64 10000000000000000), .lit (.int .u64 100000000000000000), .lit (.int .u64 1000000000000000000), .lit (.int .u64 10000000000000000000)]
def laid_unicode_utf8_acceptRanges {H : Type} : DataW H := .agg [.agg [.lit (.int .u8 128), .lit (.int .u8 191)], .agg [.lit (.int .u8 160), .lit (.int .u8 191)], .agg [.lit (.int .u8 128), .lit (.int .u8 159)], .agg [.lit (.int .u8 144), .lit (.int .u8 191)], .agg [.lit (.int .u8 128), .lit (.int .u8 143)], .agg [.lit (.int .u8 0), .lit (.int .u8 0)], .agg [.lit (.int .u8 0), .lit (.int .u8 0)], .agg [.lit (.int .u8 0), .lit (.int .u8 0)], .agg [.lit (.int .u8 0), .lit (.int .u8 0)], .agg [.lit (.int .u8 0), .lit (.int .u8 0)], .agg [.lit (.int .u8 0), .lit (.int .u8 0)], .agg [.lit (.int .u8 0), .lit (.int .u8 0)], .agg [.lit (.int .u8 0), .lit (.int .u8 0)], .agg [.lit (.int .u8 0), .lit (.int .u8 0)], .agg [.lit (.int .u8 0), .lit (.int .u8 0)], .agg [.lit (.int .u8 0), .lit (.int .u8 0)]]
def laid_strconv_ErrRange {H : Type} : DataW H := .iface "*errors.errorString" (.ptr (.agg [.lit (.string [118, 97, 108, 117, 101, 32, 111, 117, 116, 32, 111, 102, 32, 114, 97, 110, 103, 101])]))
def laid_strconv_ErrSyntax {H : Type} : DataW H := .iface "*errors.errorString" (.ptr (.agg [.lit (.string [105, 110, 118, 97, 108, 105, 100, 32, 115, 121, 110, 116, 97, 120])]))
/-- One of Go's own tables, pinned by name: the form's constant. -/
def laid_unicode_utf8_first : DataW Unit := Go.Pinned.utf8First

/-- 'turbarylaw08.MossGrows': WHATEVER THE INPUT: true; the input reads as it did. -/
def mossGrowsSpec : ChangeSpec := { name := "mossGrows", fn := fun _ => fun
  | [d1, d2, d3] => { results := [.lit (.bool true)], args := [d1, d2, d3] }
  | _ => none }
def mossGrowsRow : OpenClaim := { program := "ytjipgkhfbfpacaadoor", sum := "3a107e329ea0526f9024e2ff79e365f5257d94161f0089c3abb5789adf7d65cf", func := "turbary/turbarylaw08.MossGrows", spec := "mossGrows", unfollowed := true, recurses := true, named := ["math/bits.deBruijn64tab"], apart := false, laid := [("math/bits.deBruijn64tab", laid_math_bits_deBruijn64tab)] }
def MossGrowsSaid : Prop := mossGrowsRow.holds Tryd.pinned (OpenSpec.ofChange mossGrowsSpec)

/-- ITS FALSE NEIGHBOUR: 'it returns false'. Refute it at one input. -/
def mossGrowsWrong : ChangeSpec := { name := "mossGrows", fn := fun _ => fun
  | [d1, d2, d3] => { results := [.lit (.bool false)], args := [d1, d2, d3] }
  | _ => none }
def MossGrowsWrongFalsely : Prop := mossGrowsRow.holds Tryd.pinned (OpenSpec.ofChange mossGrowsWrong)

/-- 'turbarylaw08.MossEdges': WHATEVER THE INPUT: true; the input reads as it did. -/
def mossEdgesSpec : ChangeSpec := { name := "mossEdges", fn := fun _ => fun
  | [d1, d2] => { results := [.lit (.bool true)], args := [d1, d2] }
  | _ => none }
def mossEdgesRow : OpenClaim := { program := "ytjipgkhfbfpacaadoor", sum := "3a107e329ea0526f9024e2ff79e365f5257d94161f0089c3abb5789adf7d65cf", func := "turbary/turbarylaw08.MossEdges", spec := "mossEdges", unfollowed := true, recurses := true, named := ["math/bits.deBruijn64tab"], apart := false, laid := [("math/bits.deBruijn64tab", laid_math_bits_deBruijn64tab)] }
def MossEdgesSaid : Prop := mossEdgesRow.holds Tryd.pinned (OpenSpec.ofChange mossEdgesSpec)

/-- ITS FALSE NEIGHBOUR: 'it returns false'. Refute it at one input. -/
def mossEdgesWrong : ChangeSpec := { name := "mossEdges", fn := fun _ => fun
  | [d1, d2] => { results := [.lit (.bool false)], args := [d1, d2] }
  | _ => none }
def MossEdgesWrongFalsely : Prop := mossEdgesRow.holds Tryd.pinned (OpenSpec.ofChange mossEdgesWrong)

/-- 'turbarylaw08.MossNeighbors': WHATEVER THE INPUT: true; the input reads as it did. -/
def mossNeighborsSpec : ChangeSpec := { name := "mossNeighbors", fn := fun _ => fun
  | [d1, d2] => { results := [.lit (.bool true)], args := [d1, d2] }
  | _ => none }
def mossNeighborsRow : OpenClaim := { program := "ytjipgkhfbfpacaadoor", sum := "3a107e329ea0526f9024e2ff79e365f5257d94161f0089c3abb5789adf7d65cf", func := "turbary/turbarylaw08.MossNeighbors", spec := "mossNeighbors", unfollowed := true, recurses := true, named := ["math/bits.deBruijn64tab"], apart := false, laid := [("math/bits.deBruijn64tab", laid_math_bits_deBruijn64tab)] }
def MossNeighborsSaid : Prop := mossNeighborsRow.holds Tryd.pinned (OpenSpec.ofChange mossNeighborsSpec)

/-- ITS FALSE NEIGHBOUR: 'it returns false'. Refute it at one input. -/
def mossNeighborsWrong : ChangeSpec := { name := "mossNeighbors", fn := fun _ => fun
  | [d1, d2] => { results := [.lit (.bool false)], args := [d1, d2] }
  | _ => none }
def MossNeighborsWrongFalsely : Prop := mossNeighborsRow.holds Tryd.pinned (OpenSpec.ofChange mossNeighborsWrong)

/-- 'turbarylaw08.MossSteps': WHATEVER THE INPUT: true; the input reads as it did. -/
def mossStepsSpec : ChangeSpec := { name := "mossSteps", fn := fun _ => fun
  | [d1, d2] => { results := [.lit (.bool true)], args := [d1, d2] }
  | _ => none }
def mossStepsRow : OpenClaim := { program := "ytjipgkhfbfpacaadoor", sum := "3a107e329ea0526f9024e2ff79e365f5257d94161f0089c3abb5789adf7d65cf", func := "turbary/turbarylaw08.MossSteps", spec := "mossSteps", unfollowed := true, recurses := true, named := ["math/bits.deBruijn64tab"], apart := false, laid := [("math/bits.deBruijn64tab", laid_math_bits_deBruijn64tab)] }
def MossStepsSaid : Prop := mossStepsRow.holds Tryd.pinned (OpenSpec.ofChange mossStepsSpec)

/-- ITS FALSE NEIGHBOUR: 'it returns false'. Refute it at one input. -/
def mossStepsWrong : ChangeSpec := { name := "mossSteps", fn := fun _ => fun
  | [d1, d2] => { results := [.lit (.bool false)], args := [d1, d2] }
  | _ => none }
def MossStepsWrongFalsely : Prop := mossStepsRow.holds Tryd.pinned (OpenSpec.ofChange mossStepsWrong)

/-- 'turbarytop.TopMoss': WHATEVER THE INPUT: true; the input reads as it did. -/
def topMossSpec : ChangeSpec := { name := "topMoss", fn := fun _ => fun
  | [d1, d2, d3] => { results := [.lit (.bool true)], args := [d1, d2, d3] }
  | _ => none }
def topMossRow : OpenClaim := { program := "ytjipgkhfbfpacaadoor", sum := "3a107e329ea0526f9024e2ff79e365f5257d94161f0089c3abb5789adf7d65cf", func := "turbary/turbarytop.TopMoss", spec := "topMoss", unfollowed := true, recurses := true, named := ["math/bits.deBruijn64tab"], apart := false, laid := [("math/bits.deBruijn64tab", laid_math_bits_deBruijn64tab)] }
def TopMossSaid : Prop := topMossRow.holds Tryd.pinned (OpenSpec.ofChange topMossSpec)

/-- ITS FALSE NEIGHBOUR: 'it returns false'. Refute it at one input. -/
def topMossWrong : ChangeSpec := { name := "topMoss", fn := fun _ => fun
  | [d1, d2, d3] => { results := [.lit (.bool false)], args := [d1, d2, d3] }
  | _ => none }
def TopMossWrongFalsely : Prop := topMossRow.holds Tryd.pinned (OpenSpec.ofChange topMossWrong)

/-- 'turbarylaw08.MossDays': WHATEVER THE INPUT: true; the input reads as it did. -/
def mossDaysSpec : ChangeSpec := { name := "mossDays", fn := fun _ => fun
  | [d1, d2, d3] => { results := [.lit (.bool true)], args := [d1, d2, d3] }
  | _ => none }
def mossDaysRow : OpenClaim := { program := "ytjipgkhfbfpacaadoor", sum := "3a107e329ea0526f9024e2ff79e365f5257d94161f0089c3abb5789adf7d65cf", func := "turbary/turbarylaw08.MossDays", spec := "mossDays", unfollowed := true, recurses := true, named := ["math/bits.deBruijn64tab"], apart := false, laid := [("math/bits.deBruijn64tab", laid_math_bits_deBruijn64tab)] }
def MossDaysSaid : Prop := mossDaysRow.holds Tryd.pinned (OpenSpec.ofChange mossDaysSpec)

/-- ITS FALSE NEIGHBOUR: 'it returns false'. Refute it at one input. -/
def mossDaysWrong : ChangeSpec := { name := "mossDays", fn := fun _ => fun
  | [d1, d2, d3] => { results := [.lit (.bool false)], args := [d1, d2, d3] }
  | _ => none }
def MossDaysWrongFalsely : Prop := mossDaysRow.holds Tryd.pinned (OpenSpec.ofChange mossDaysWrong)

/-- 'turbarylaw08.MossProofs': WHATEVER THE INPUT: true; the input reads as it did. -/
def mossProofsSpec : ChangeSpec := { name := "mossProofs", fn := fun _ => fun
  | [d1, d2, d3] => { results := [.lit (.bool true)], args := [d1, d2, d3] }
  | _ => none }
def mossProofsRow : OpenClaim := { program := "ytjipgkhfbfpacaadoor", sum := "3a107e329ea0526f9024e2ff79e365f5257d94161f0089c3abb5789adf7d65cf", func := "turbary/turbarylaw08.MossProofs", spec := "mossProofs", unfollowed := true, recurses := true, named := ["math/bits.deBruijn64tab"], apart := false, laid := [("math/bits.deBruijn64tab", laid_math_bits_deBruijn64tab)] }
def MossProofsSaid : Prop := mossProofsRow.holds Tryd.pinned (OpenSpec.ofChange mossProofsSpec)

/-- ITS FALSE NEIGHBOUR: 'it returns false'. Refute it at one input. -/
def mossProofsWrong : ChangeSpec := { name := "mossProofs", fn := fun _ => fun
  | [d1, d2, d3] => { results := [.lit (.bool false)], args := [d1, d2, d3] }
  | _ => none }
def MossProofsWrongFalsely : Prop := mossProofsRow.holds Tryd.pinned (OpenSpec.ofChange mossProofsWrong)

/-- 'turbarylaw08.MossFewest': WHATEVER THE INPUT: true; the input reads as it did. -/
def mossFewestSpec : ChangeSpec := { name := "mossFewest", fn := fun _ => fun
  | [d] => { results := [.lit (.bool true)], args := [d] }
  | _ => none }
def mossFewestRow : OpenClaim := { program := "ytjipgkhfbfpacaadoor", sum := "3a107e329ea0526f9024e2ff79e365f5257d94161f0089c3abb5789adf7d65cf", func := "turbary/turbarylaw08.MossFewest", spec := "mossFewest", unfollowed := true, recurses := true, named := ["math/bits.deBruijn64tab"], apart := false, laid := [("math/bits.deBruijn64tab", laid_math_bits_deBruijn64tab)] }
def MossFewestSaid : Prop := mossFewestRow.holds Tryd.pinned (OpenSpec.ofChange mossFewestSpec)

/-- ITS FALSE NEIGHBOUR: 'it returns false'. Refute it at one input. -/
def mossFewestWrong : ChangeSpec := { name := "mossFewest", fn := fun _ => fun
  | [d] => { results := [.lit (.bool false)], args := [d] }
  | _ => none }
def MossFewestWrongFalsely : Prop := mossFewestRow.holds Tryd.pinned (OpenSpec.ofChange mossFewestWrong)

/-- 'turbarylaw08.MossOrders': WHATEVER THE INPUT: true; the input reads as it did. -/
def mossOrdersSpec : ChangeSpec := { name := "mossOrders", fn := fun _ => fun
  | [d1, d2, d3] => { results := [.lit (.bool true)], args := [d1, d2, d3] }
  | _ => none }
def mossOrdersRow : OpenClaim := { program := "ytjipgkhfbfpacaadoor", sum := "3a107e329ea0526f9024e2ff79e365f5257d94161f0089c3abb5789adf7d65cf", func := "turbary/turbarylaw08.MossOrders", spec := "mossOrders", unfollowed := true, recurses := true, named := ["math/bits.deBruijn64tab"], apart := false, laid := [("math/bits.deBruijn64tab", laid_math_bits_deBruijn64tab)] }
def MossOrdersSaid : Prop := mossOrdersRow.holds Tryd.pinned (OpenSpec.ofChange mossOrdersSpec)

/-- ITS FALSE NEIGHBOUR: 'it returns false'. Refute it at one input. -/
def mossOrdersWrong : ChangeSpec := { name := "mossOrders", fn := fun _ => fun
  | [d1, d2, d3] => { results := [.lit (.bool false)], args := [d1, d2, d3] }
  | _ => none }
def MossOrdersWrongFalsely : Prop := mossOrdersRow.holds Tryd.pinned (OpenSpec.ofChange mossOrdersWrong)

/-- 'turbarylaw08.MossOrderly': WHATEVER THE INPUT: true; the input reads as it did. -/
def mossOrderlySpec : ChangeSpec := { name := "mossOrderly", fn := fun _ => fun
  | [d1, d2] => { results := [.lit (.bool true)], args := [d1, d2] }
  | _ => none }
def mossOrderlyRow : OpenClaim := { program := "ytjipgkhfbfpacaadoor", sum := "3a107e329ea0526f9024e2ff79e365f5257d94161f0089c3abb5789adf7d65cf", func := "turbary/turbarylaw08.MossOrderly", spec := "mossOrderly", unfollowed := true, recurses := true, named := ["math/bits.deBruijn64tab"], apart := false, laid := [("math/bits.deBruijn64tab", laid_math_bits_deBruijn64tab)] }
def MossOrderlySaid : Prop := mossOrderlyRow.holds Tryd.pinned (OpenSpec.ofChange mossOrderlySpec)

/-- ITS FALSE NEIGHBOUR: 'it returns false'. Refute it at one input. -/
def mossOrderlyWrong : ChangeSpec := { name := "mossOrderly", fn := fun _ => fun
  | [d1, d2] => { results := [.lit (.bool false)], args := [d1, d2] }
  | _ => none }
def MossOrderlyWrongFalsely : Prop := mossOrderlyRow.holds Tryd.pinned (OpenSpec.ofChange mossOrderlyWrong)

/-- 'turbarylaw08.MossTurns': WHATEVER THE INPUT: true; the input reads as it did. -/
def mossTurnsSpec : ChangeSpec := { name := "mossTurns", fn := fun _ => fun
  | [d1, d2] => { results := [.lit (.bool true)], args := [d1, d2] }
  | _ => none }
def mossTurnsRow : OpenClaim := { program := "ytjipgkhfbfpacaadoor", sum := "3a107e329ea0526f9024e2ff79e365f5257d94161f0089c3abb5789adf7d65cf", func := "turbary/turbarylaw08.MossTurns", spec := "mossTurns", unfollowed := true, recurses := true, named := ["math/bits.deBruijn64tab"], apart := false, laid := [("math/bits.deBruijn64tab", laid_math_bits_deBruijn64tab)] }
def MossTurnsSaid : Prop := mossTurnsRow.holds Tryd.pinned (OpenSpec.ofChange mossTurnsSpec)

/-- ITS FALSE NEIGHBOUR: 'it returns false'. Refute it at one input. -/
def mossTurnsWrong : ChangeSpec := { name := "mossTurns", fn := fun _ => fun
  | [d1, d2] => { results := [.lit (.bool false)], args := [d1, d2] }
  | _ => none }
def MossTurnsWrongFalsely : Prop := mossTurnsRow.holds Tryd.pinned (OpenSpec.ofChange mossTurnsWrong)

/-- 'turbarylaw08.MossCores': WHATEVER THE INPUT: true; the input reads as it did. -/
def mossCoresSpec : ChangeSpec := { name := "mossCores", fn := fun _ => fun
  | [d1, d2] => { results := [.lit (.bool true)], args := [d1, d2] }
  | _ => none }
def mossCoresRow : OpenClaim := { program := "ytjipgkhfbfpacaadoor", sum := "3a107e329ea0526f9024e2ff79e365f5257d94161f0089c3abb5789adf7d65cf", func := "turbary/turbarylaw08.MossCores", spec := "mossCores", unfollowed := true, recurses := true, named := ["math/bits.deBruijn64tab"], apart := false, laid := [("math/bits.deBruijn64tab", laid_math_bits_deBruijn64tab)] }
def MossCoresSaid : Prop := mossCoresRow.holds Tryd.pinned (OpenSpec.ofChange mossCoresSpec)

/-- ITS FALSE NEIGHBOUR: 'it returns false'. Refute it at one input. -/
def mossCoresWrong : ChangeSpec := { name := "mossCores", fn := fun _ => fun
  | [d1, d2] => { results := [.lit (.bool false)], args := [d1, d2] }
  | _ => none }
def MossCoresWrongFalsely : Prop := mossCoresRow.holds Tryd.pinned (OpenSpec.ofChange mossCoresWrong)

/-- 'turbarylaw08.MossThins': WHATEVER THE INPUT: true; the input reads as it did. -/
def mossThinsSpec : ChangeSpec := { name := "mossThins", fn := fun _ => fun
  | [d1, d2] => { results := [.lit (.bool true)], args := [d1, d2] }
  | _ => none }
def mossThinsRow : OpenClaim := { program := "ytjipgkhfbfpacaadoor", sum := "3a107e329ea0526f9024e2ff79e365f5257d94161f0089c3abb5789adf7d65cf", func := "turbary/turbarylaw08.MossThins", spec := "mossThins", unfollowed := true, recurses := true, named := ["math/bits.deBruijn64tab"], apart := false, laid := [("math/bits.deBruijn64tab", laid_math_bits_deBruijn64tab)] }
def MossThinsSaid : Prop := mossThinsRow.holds Tryd.pinned (OpenSpec.ofChange mossThinsSpec)

/-- ITS FALSE NEIGHBOUR: 'it returns false'. Refute it at one input. -/
def mossThinsWrong : ChangeSpec := { name := "mossThins", fn := fun _ => fun
  | [d1, d2] => { results := [.lit (.bool false)], args := [d1, d2] }
  | _ => none }
def MossThinsWrongFalsely : Prop := mossThinsRow.holds Tryd.pinned (OpenSpec.ofChange mossThinsWrong)

/-- 'turbarylaw08.MossTexts': WHATEVER THE INPUT: true; the input reads as it did. -/
def mossTextsSpec : ChangeSpec := { name := "mossTexts", fn := fun _ => fun
  | [d1, d2, d3] => { results := [.lit (.bool true)], args := [d1, d2, d3] }
  | _ => none }
def mossTextsRow : OpenClaim := { program := "ytjipgkhfbfpacaadoor", sum := "3a107e329ea0526f9024e2ff79e365f5257d94161f0089c3abb5789adf7d65cf", func := "turbary/turbarylaw08.MossTexts", spec := "mossTexts", inPlace := ["internal/bytealg.IndexByteString", "internal/bytealg.IndexString", "internal/bytealg.CountString"], unfollowed := true, recurses := true, named := ["math/bits.deBruijn64tab", "internal/strconv.uint64pow10", "math/bits.deBruijn32tab", "internal/bytealg.MaxLen", "unicode/utf8.first", "unicode/utf8.acceptRanges", "strconv.ErrSyntax", "strconv.ErrRange"], apart := false, laid := [("math/bits.deBruijn32tab", laid_math_bits_deBruijn32tab), ("math/bits.deBruijn64tab", laid_math_bits_deBruijn64tab), ("internal/strconv.uint64pow10", laid_internal_strconv_uint64pow10), ("unicode/utf8.acceptRanges", laid_unicode_utf8_acceptRanges), ("strconv.ErrRange", laid_strconv_ErrRange), ("strconv.ErrSyntax", laid_strconv_ErrSyntax), ("unicode/utf8.first", laid_unicode_utf8_first)] }
def MossTextsSaid : Prop := mossTextsRow.holds Tryd.pinned (OpenSpec.ofChange mossTextsSpec)

/-- ITS FALSE NEIGHBOUR: 'it returns false'. Refute it at one input. -/
def mossTextsWrong : ChangeSpec := { name := "mossTexts", fn := fun _ => fun
  | [d1, d2, d3] => { results := [.lit (.bool false)], args := [d1, d2, d3] }
  | _ => none }
def MossTextsWrongFalsely : Prop := mossTextsRow.holds Tryd.pinned (OpenSpec.ofChange mossTextsWrong)

/- THE SECOND FORM. 'bulk': how many values and letters a reading holds, each counted each time it is reached (what is shared counts as often as it is met; a slice's spare places count too). A statement '..UptoSaid' is the law's where the arguments, and the package variables that the reading takes, are together of bulk at most 1048576: NARROWER than '..Said'. Prove '..Said' where nothing that the law and all that it calls make is longer than what came in: it says more and counts as full. Else prove '..UptoSaid'. A law counts once. -/
mutual
def uptoBulk {H : Type} : DataW H → Nat
  | .lit (.string bytes) => bytes.length + 1
  | .lit _ => 1
  | .nil => 1
  | .ptr d => uptoBulk d + 1
  | .slice elems spare => uptoBulkAll elems + uptoBulkAll spare + 1
  | .agg parts => uptoBulkAll parts + 1
  | .iface _ d => uptoBulk d + 1
  | .map entries => uptoBulkEntries entries + 1
  | .held _ => 1
def uptoBulkAll {H : Type} : List (DataW H) → Nat
  | [] => 0
  | d :: r => uptoBulk d + uptoBulkAll r
def uptoBulkEntries {H : Type} : List (Lit × DataW H) → Nat
  | [] => 0
  | x :: r => uptoBulkEntry x + uptoBulkEntries r
def uptoBulkEntry {H : Type} : Lit × DataW H → Nat
  | (.string bytes, d) => bytes.length + uptoBulk d + 1
  | (_, d) => uptoBulk d + 1
 end
def uptoSmall : (H : Type) → List (DataW H) → Bool := fun _ ds => decide (uptoBulkAll ds ≤ 1048576)
def OpenSpec.upto (s : _root_.Go.ChangeSpec) : _root_.Go.OpenSpec := { _root_.Go.OpenSpec.ofChange s with cond := some uptoSmall }

/-- 'turbarylaw08.MossGrows', WHERE WHAT IT READS IS OF BULK AT MOST 1048576: true; the input reads as it did. -/
def mossGrowsUptoRow : OpenClaim := { program := "ytjipgkhfbfpacaadoor", sum := "3a107e329ea0526f9024e2ff79e365f5257d94161f0089c3abb5789adf7d65cf", func := "turbary/turbarylaw08.MossGrows", spec := "mossGrows", unfollowed := true, recurses := true, named := ["math/bits.deBruijn64tab"], apart := false, laid := [("math/bits.deBruijn64tab", laid_math_bits_deBruijn64tab)], narrowed := true }
def MossGrowsUptoSaid : Prop := mossGrowsUptoRow.holds Tryd.pinned (OpenSpec.upto mossGrowsSpec)

/-- 'turbarylaw08.MossEdges', WHERE WHAT IT READS IS OF BULK AT MOST 1048576: true; the input reads as it did. -/
def mossEdgesUptoRow : OpenClaim := { program := "ytjipgkhfbfpacaadoor", sum := "3a107e329ea0526f9024e2ff79e365f5257d94161f0089c3abb5789adf7d65cf", func := "turbary/turbarylaw08.MossEdges", spec := "mossEdges", unfollowed := true, recurses := true, named := ["math/bits.deBruijn64tab"], apart := false, laid := [("math/bits.deBruijn64tab", laid_math_bits_deBruijn64tab)], narrowed := true }
def MossEdgesUptoSaid : Prop := mossEdgesUptoRow.holds Tryd.pinned (OpenSpec.upto mossEdgesSpec)

/-- 'turbarylaw08.MossNeighbors', WHERE WHAT IT READS IS OF BULK AT MOST 1048576: true; the input reads as it did. -/
def mossNeighborsUptoRow : OpenClaim := { program := "ytjipgkhfbfpacaadoor", sum := "3a107e329ea0526f9024e2ff79e365f5257d94161f0089c3abb5789adf7d65cf", func := "turbary/turbarylaw08.MossNeighbors", spec := "mossNeighbors", unfollowed := true, recurses := true, named := ["math/bits.deBruijn64tab"], apart := false, laid := [("math/bits.deBruijn64tab", laid_math_bits_deBruijn64tab)], narrowed := true }
def MossNeighborsUptoSaid : Prop := mossNeighborsUptoRow.holds Tryd.pinned (OpenSpec.upto mossNeighborsSpec)

/-- 'turbarylaw08.MossSteps', WHERE WHAT IT READS IS OF BULK AT MOST 1048576: true; the input reads as it did. -/
def mossStepsUptoRow : OpenClaim := { program := "ytjipgkhfbfpacaadoor", sum := "3a107e329ea0526f9024e2ff79e365f5257d94161f0089c3abb5789adf7d65cf", func := "turbary/turbarylaw08.MossSteps", spec := "mossSteps", unfollowed := true, recurses := true, named := ["math/bits.deBruijn64tab"], apart := false, laid := [("math/bits.deBruijn64tab", laid_math_bits_deBruijn64tab)], narrowed := true }
def MossStepsUptoSaid : Prop := mossStepsUptoRow.holds Tryd.pinned (OpenSpec.upto mossStepsSpec)

/-- 'turbarytop.TopMoss', WHERE WHAT IT READS IS OF BULK AT MOST 1048576: true; the input reads as it did. -/
def topMossUptoRow : OpenClaim := { program := "ytjipgkhfbfpacaadoor", sum := "3a107e329ea0526f9024e2ff79e365f5257d94161f0089c3abb5789adf7d65cf", func := "turbary/turbarytop.TopMoss", spec := "topMoss", unfollowed := true, recurses := true, named := ["math/bits.deBruijn64tab"], apart := false, laid := [("math/bits.deBruijn64tab", laid_math_bits_deBruijn64tab)], narrowed := true }
def TopMossUptoSaid : Prop := topMossUptoRow.holds Tryd.pinned (OpenSpec.upto topMossSpec)

/-- 'turbarylaw08.MossDays', WHERE WHAT IT READS IS OF BULK AT MOST 1048576: true; the input reads as it did. -/
def mossDaysUptoRow : OpenClaim := { program := "ytjipgkhfbfpacaadoor", sum := "3a107e329ea0526f9024e2ff79e365f5257d94161f0089c3abb5789adf7d65cf", func := "turbary/turbarylaw08.MossDays", spec := "mossDays", unfollowed := true, recurses := true, named := ["math/bits.deBruijn64tab"], apart := false, laid := [("math/bits.deBruijn64tab", laid_math_bits_deBruijn64tab)], narrowed := true }
def MossDaysUptoSaid : Prop := mossDaysUptoRow.holds Tryd.pinned (OpenSpec.upto mossDaysSpec)

/-- 'turbarylaw08.MossProofs', WHERE WHAT IT READS IS OF BULK AT MOST 1048576: true; the input reads as it did. -/
def mossProofsUptoRow : OpenClaim := { program := "ytjipgkhfbfpacaadoor", sum := "3a107e329ea0526f9024e2ff79e365f5257d94161f0089c3abb5789adf7d65cf", func := "turbary/turbarylaw08.MossProofs", spec := "mossProofs", unfollowed := true, recurses := true, named := ["math/bits.deBruijn64tab"], apart := false, laid := [("math/bits.deBruijn64tab", laid_math_bits_deBruijn64tab)], narrowed := true }
def MossProofsUptoSaid : Prop := mossProofsUptoRow.holds Tryd.pinned (OpenSpec.upto mossProofsSpec)

/-- 'turbarylaw08.MossFewest', WHERE WHAT IT READS IS OF BULK AT MOST 1048576: true; the input reads as it did. -/
def mossFewestUptoRow : OpenClaim := { program := "ytjipgkhfbfpacaadoor", sum := "3a107e329ea0526f9024e2ff79e365f5257d94161f0089c3abb5789adf7d65cf", func := "turbary/turbarylaw08.MossFewest", spec := "mossFewest", unfollowed := true, recurses := true, named := ["math/bits.deBruijn64tab"], apart := false, laid := [("math/bits.deBruijn64tab", laid_math_bits_deBruijn64tab)], narrowed := true }
def MossFewestUptoSaid : Prop := mossFewestUptoRow.holds Tryd.pinned (OpenSpec.upto mossFewestSpec)

/-- 'turbarylaw08.MossOrders', WHERE WHAT IT READS IS OF BULK AT MOST 1048576: true; the input reads as it did. -/
def mossOrdersUptoRow : OpenClaim := { program := "ytjipgkhfbfpacaadoor", sum := "3a107e329ea0526f9024e2ff79e365f5257d94161f0089c3abb5789adf7d65cf", func := "turbary/turbarylaw08.MossOrders", spec := "mossOrders", unfollowed := true, recurses := true, named := ["math/bits.deBruijn64tab"], apart := false, laid := [("math/bits.deBruijn64tab", laid_math_bits_deBruijn64tab)], narrowed := true }
def MossOrdersUptoSaid : Prop := mossOrdersUptoRow.holds Tryd.pinned (OpenSpec.upto mossOrdersSpec)

/-- 'turbarylaw08.MossOrderly', WHERE WHAT IT READS IS OF BULK AT MOST 1048576: true; the input reads as it did. -/
def mossOrderlyUptoRow : OpenClaim := { program := "ytjipgkhfbfpacaadoor", sum := "3a107e329ea0526f9024e2ff79e365f5257d94161f0089c3abb5789adf7d65cf", func := "turbary/turbarylaw08.MossOrderly", spec := "mossOrderly", unfollowed := true, recurses := true, named := ["math/bits.deBruijn64tab"], apart := false, laid := [("math/bits.deBruijn64tab", laid_math_bits_deBruijn64tab)], narrowed := true }
def MossOrderlyUptoSaid : Prop := mossOrderlyUptoRow.holds Tryd.pinned (OpenSpec.upto mossOrderlySpec)

/-- 'turbarylaw08.MossTurns', WHERE WHAT IT READS IS OF BULK AT MOST 1048576: true; the input reads as it did. -/
def mossTurnsUptoRow : OpenClaim := { program := "ytjipgkhfbfpacaadoor", sum := "3a107e329ea0526f9024e2ff79e365f5257d94161f0089c3abb5789adf7d65cf", func := "turbary/turbarylaw08.MossTurns", spec := "mossTurns", unfollowed := true, recurses := true, named := ["math/bits.deBruijn64tab"], apart := false, laid := [("math/bits.deBruijn64tab", laid_math_bits_deBruijn64tab)], narrowed := true }
def MossTurnsUptoSaid : Prop := mossTurnsUptoRow.holds Tryd.pinned (OpenSpec.upto mossTurnsSpec)

/-- 'turbarylaw08.MossCores', WHERE WHAT IT READS IS OF BULK AT MOST 1048576: true; the input reads as it did. -/
def mossCoresUptoRow : OpenClaim := { program := "ytjipgkhfbfpacaadoor", sum := "3a107e329ea0526f9024e2ff79e365f5257d94161f0089c3abb5789adf7d65cf", func := "turbary/turbarylaw08.MossCores", spec := "mossCores", unfollowed := true, recurses := true, named := ["math/bits.deBruijn64tab"], apart := false, laid := [("math/bits.deBruijn64tab", laid_math_bits_deBruijn64tab)], narrowed := true }
def MossCoresUptoSaid : Prop := mossCoresUptoRow.holds Tryd.pinned (OpenSpec.upto mossCoresSpec)

/-- 'turbarylaw08.MossThins', WHERE WHAT IT READS IS OF BULK AT MOST 1048576: true; the input reads as it did. -/
def mossThinsUptoRow : OpenClaim := { program := "ytjipgkhfbfpacaadoor", sum := "3a107e329ea0526f9024e2ff79e365f5257d94161f0089c3abb5789adf7d65cf", func := "turbary/turbarylaw08.MossThins", spec := "mossThins", unfollowed := true, recurses := true, named := ["math/bits.deBruijn64tab"], apart := false, laid := [("math/bits.deBruijn64tab", laid_math_bits_deBruijn64tab)], narrowed := true }
def MossThinsUptoSaid : Prop := mossThinsUptoRow.holds Tryd.pinned (OpenSpec.upto mossThinsSpec)

/-- 'turbarylaw08.MossTexts', WHERE WHAT IT READS IS OF BULK AT MOST 1048576: true; the input reads as it did. -/
def mossTextsUptoRow : OpenClaim := { program := "ytjipgkhfbfpacaadoor", sum := "3a107e329ea0526f9024e2ff79e365f5257d94161f0089c3abb5789adf7d65cf", func := "turbary/turbarylaw08.MossTexts", spec := "mossTexts", inPlace := ["internal/bytealg.IndexByteString", "internal/bytealg.IndexString", "internal/bytealg.CountString"], unfollowed := true, recurses := true, named := ["math/bits.deBruijn64tab", "internal/strconv.uint64pow10", "math/bits.deBruijn32tab", "internal/bytealg.MaxLen", "unicode/utf8.first", "unicode/utf8.acceptRanges", "strconv.ErrSyntax", "strconv.ErrRange"], apart := false, laid := [("math/bits.deBruijn32tab", laid_math_bits_deBruijn32tab), ("math/bits.deBruijn64tab", laid_math_bits_deBruijn64tab), ("internal/strconv.uint64pow10", laid_internal_strconv_uint64pow10), ("unicode/utf8.acceptRanges", laid_unicode_utf8_acceptRanges), ("strconv.ErrRange", laid_strconv_ErrRange), ("strconv.ErrSyntax", laid_strconv_ErrSyntax), ("unicode/utf8.first", laid_unicode_utf8_first)], narrowed := true }
def MossTextsUptoSaid : Prop := mossTextsUptoRow.holds Tryd.pinned (OpenSpec.upto mossTextsSpec)

end Rows
end Go.Proofs.YtjipgkhfbfpacaaDoor
