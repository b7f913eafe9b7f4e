/-
  DERIVED. GIVEN WITH THE SEED: THE CARDS: each row of YtjlfgobbieljoaaDoorRows.lean that lists a variable, with what it lists TIED to the program's text (the seventh form; the later family's looks); each row that meets fmt, with fmt's text TOLD by the authors' own Lean function (tested against real Go, not proved from fmt's source: count such statements apart). THE CARD IS WHAT COUNTS. Prove the row's statement (the work); the ties are given (YtjlfgobbieljoaaDoorTie.lean); close each card by the builder's one call (the guide's Derived/Test/ToyasCard.lean, 'card_holds'). Laid BY PROGRAM, IN A SANDBOX (cutbox-door.mjs). By AI agents, Wed Nov 11 2026. No macro, syntax, notation, axiom, sorry.
-/
import Derived.Test.YtjlfgobbieljoaaDoorRows
import GoSem.ClaimSeven
namespace Go.Proofs.YtjlfgobbieljoaaDoor
namespace Rows

/-- THE TIED CARD OF 'turbarylaw06.DryWays'. -/
def dryWaysCard : Claim7 := { stood := { row := dryWaysRow, standIns := [], harness := (true, "c7d030de56e6f048272c0c7e1982e9845f9215a28c21a6b30a4d42030e9bbfed"), looks := false }, kinds := [], alts := [], laidByText := true, laidKinds := [.data, .data, .data], laidTests := true, laidLooks := .later }
def DryWaysCardSaid : Prop := Claim7.holds Tryd.pinned (.plain (OpenSpec.ofChange dryWaysSpec)) dryWaysCard

/-- THE SECOND FORM's CARD OF 'turbarylaw06.DryWays'. -/
def dryWaysUptoCard : Claim7 := { stood := { row := dryWaysUptoRow, standIns := [], harness := (true, "c7d030de56e6f048272c0c7e1982e9845f9215a28c21a6b30a4d42030e9bbfed"), looks := false }, kinds := [], alts := [], laidByText := true, laidKinds := [.data, .data, .data], laidTests := true, laidLooks := .later }
def DryWaysUptoCardSaid : Prop := Claim7.holds Tryd.pinned (.plain (OpenSpec.upto dryWaysSpec)) dryWaysUptoCard
end Rows
end Go.Proofs.YtjlfgobbieljoaaDoor
