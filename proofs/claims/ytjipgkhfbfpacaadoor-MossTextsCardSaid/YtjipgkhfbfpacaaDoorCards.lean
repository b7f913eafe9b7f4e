/-
  DERIVED. GIVEN WITH THE SEED: THE CARDS: each row of YtjipgkhfbfpacaaDoorRows.lean that lists a variable, with what it lists TIED to the program's text (the seventh form; the later family's looks); each row that meets fmt, with fmt's text TOLD by the authors' own Lean function (tested against real Go, not proved from fmt's source: count such statements apart). THE CARD IS WHAT COUNTS. Prove the row's statement (the work); the ties are given (YtjipgkhfbfpacaaDoorTie.lean); close each card by the builder's one call (the guide's Derived/Test/ToyasCard.lean, 'card_holds'). Laid BY PROGRAM, IN A SANDBOX (cutbox-door.mjs). By AI agents, Wed Nov 11 2026. No macro, syntax, notation, axiom, sorry.
-/
import Derived.Test.YtjipgkhfbfpacaaDoorRows
import GoSem.ClaimSeven
namespace Go.Proofs.YtjipgkhfbfpacaaDoor
namespace Rows

/-- THE TIED CARD OF 'turbarylaw08.MossGrows'. -/
def mossGrowsCard : Claim7 := { stood := { row := mossGrowsRow, standIns := [], harness := (true, "9c46ed7864b0043f4f4fafa56ed552a8e42e1b2e56c6715bc85b19576b53ab00"), looks := true }, kinds := [], alts := [], laidByText := true, laidKinds := [.data], laidTests := true, laidLooks := .later }
def MossGrowsCardSaid : Prop := Claim7.holds Tryd.pinned (.plain (OpenSpec.ofChange mossGrowsSpec)) mossGrowsCard

/-- THE TIED CARD OF 'turbarylaw08.MossEdges'. -/
def mossEdgesCard : Claim7 := { stood := { row := mossEdgesRow, standIns := [], harness := (true, "9c46ed7864b0043f4f4fafa56ed552a8e42e1b2e56c6715bc85b19576b53ab00"), looks := true }, kinds := [], alts := [], laidByText := true, laidKinds := [.data], laidTests := true, laidLooks := .later }
def MossEdgesCardSaid : Prop := Claim7.holds Tryd.pinned (.plain (OpenSpec.ofChange mossEdgesSpec)) mossEdgesCard

/-- THE TIED CARD OF 'turbarylaw08.MossNeighbors'. -/
def mossNeighborsCard : Claim7 := { stood := { row := mossNeighborsRow, standIns := [], harness := (true, "9c46ed7864b0043f4f4fafa56ed552a8e42e1b2e56c6715bc85b19576b53ab00"), looks := true }, kinds := [], alts := [], laidByText := true, laidKinds := [.data], laidTests := true, laidLooks := .later }
def MossNeighborsCardSaid : Prop := Claim7.holds Tryd.pinned (.plain (OpenSpec.ofChange mossNeighborsSpec)) mossNeighborsCard

/-- THE TIED CARD OF 'turbarylaw08.MossSteps'. -/
def mossStepsCard : Claim7 := { stood := { row := mossStepsRow, standIns := [], harness := (true, "9c46ed7864b0043f4f4fafa56ed552a8e42e1b2e56c6715bc85b19576b53ab00"), looks := true }, kinds := [], alts := [], laidByText := true, laidKinds := [.data], laidTests := true, laidLooks := .later }
def MossStepsCardSaid : Prop := Claim7.holds Tryd.pinned (.plain (OpenSpec.ofChange mossStepsSpec)) mossStepsCard

/-- THE TIED CARD OF 'turbarytop.TopMoss'. -/
def topMossCard : Claim7 := { stood := { row := topMossRow, standIns := [], harness := (true, "9c46ed7864b0043f4f4fafa56ed552a8e42e1b2e56c6715bc85b19576b53ab00"), looks := true }, kinds := [], alts := [], laidByText := true, laidKinds := [.data], laidTests := true, laidLooks := .later }
def TopMossCardSaid : Prop := Claim7.holds Tryd.pinned (.plain (OpenSpec.ofChange topMossSpec)) topMossCard

/-- THE TIED CARD OF 'turbarylaw08.MossDays'. -/
def mossDaysCard : Claim7 := { stood := { row := mossDaysRow, standIns := [], harness := (true, "9c46ed7864b0043f4f4fafa56ed552a8e42e1b2e56c6715bc85b19576b53ab00"), looks := true }, kinds := [], alts := [], laidByText := true, laidKinds := [.data], laidTests := true, laidLooks := .later }
def MossDaysCardSaid : Prop := Claim7.holds Tryd.pinned (.plain (OpenSpec.ofChange mossDaysSpec)) mossDaysCard

/-- THE TIED CARD OF 'turbarylaw08.MossProofs'. -/
def mossProofsCard : Claim7 := { stood := { row := mossProofsRow, standIns := [], harness := (true, "9c46ed7864b0043f4f4fafa56ed552a8e42e1b2e56c6715bc85b19576b53ab00"), looks := true }, kinds := [], alts := [], laidByText := true, laidKinds := [.data], laidTests := true, laidLooks := .later }
def MossProofsCardSaid : Prop := Claim7.holds Tryd.pinned (.plain (OpenSpec.ofChange mossProofsSpec)) mossProofsCard

/-- THE TIED CARD OF 'turbarylaw08.MossFewest'. -/
def mossFewestCard : Claim7 := { stood := { row := mossFewestRow, standIns := [], harness := (true, "9c46ed7864b0043f4f4fafa56ed552a8e42e1b2e56c6715bc85b19576b53ab00"), looks := true }, kinds := [], alts := [], laidByText := true, laidKinds := [.data], laidTests := true, laidLooks := .later }
def MossFewestCardSaid : Prop := Claim7.holds Tryd.pinned (.plain (OpenSpec.ofChange mossFewestSpec)) mossFewestCard

/-- THE TIED CARD OF 'turbarylaw08.MossOrders'. -/
def mossOrdersCard : Claim7 := { stood := { row := mossOrdersRow, standIns := [], harness := (true, "9c46ed7864b0043f4f4fafa56ed552a8e42e1b2e56c6715bc85b19576b53ab00"), looks := true }, kinds := [], alts := [], laidByText := true, laidKinds := [.data], laidTests := true, laidLooks := .later }
def MossOrdersCardSaid : Prop := Claim7.holds Tryd.pinned (.plain (OpenSpec.ofChange mossOrdersSpec)) mossOrdersCard

/-- THE TIED CARD OF 'turbarylaw08.MossOrderly'. -/
def mossOrderlyCard : Claim7 := { stood := { row := mossOrderlyRow, standIns := [], harness := (true, "9c46ed7864b0043f4f4fafa56ed552a8e42e1b2e56c6715bc85b19576b53ab00"), looks := true }, kinds := [], alts := [], laidByText := true, laidKinds := [.data], laidTests := true, laidLooks := .later }
def MossOrderlyCardSaid : Prop := Claim7.holds Tryd.pinned (.plain (OpenSpec.ofChange mossOrderlySpec)) mossOrderlyCard

/-- THE TIED CARD OF 'turbarylaw08.MossTurns'. -/
def mossTurnsCard : Claim7 := { stood := { row := mossTurnsRow, standIns := [], harness := (true, "9c46ed7864b0043f4f4fafa56ed552a8e42e1b2e56c6715bc85b19576b53ab00"), looks := true }, kinds := [], alts := [], laidByText := true, laidKinds := [.data], laidTests := true, laidLooks := .later }
def MossTurnsCardSaid : Prop := Claim7.holds Tryd.pinned (.plain (OpenSpec.ofChange mossTurnsSpec)) mossTurnsCard

/-- THE TIED CARD OF 'turbarylaw08.MossCores'. -/
def mossCoresCard : Claim7 := { stood := { row := mossCoresRow, standIns := [], harness := (true, "9c46ed7864b0043f4f4fafa56ed552a8e42e1b2e56c6715bc85b19576b53ab00"), looks := true }, kinds := [], alts := [], laidByText := true, laidKinds := [.data], laidTests := true, laidLooks := .later }
def MossCoresCardSaid : Prop := Claim7.holds Tryd.pinned (.plain (OpenSpec.ofChange mossCoresSpec)) mossCoresCard

/-- THE TIED CARD OF 'turbarylaw08.MossThins'. -/
def mossThinsCard : Claim7 := { stood := { row := mossThinsRow, standIns := [], harness := (true, "9c46ed7864b0043f4f4fafa56ed552a8e42e1b2e56c6715bc85b19576b53ab00"), looks := true }, kinds := [], alts := [], laidByText := true, laidKinds := [.data], laidTests := true, laidLooks := .later }
def MossThinsCardSaid : Prop := Claim7.holds Tryd.pinned (.plain (OpenSpec.ofChange mossThinsSpec)) mossThinsCard

/-- THE TIED CARD OF 'turbarylaw08.MossTexts'. -/
def mossTextsCard : Claim7 := { stood := { row := mossTextsRow, standIns := [], harness := (true, "9c46ed7864b0043f4f4fafa56ed552a8e42e1b2e56c6715bc85b19576b53ab00"), looks := true }, kinds := [], alts := [], laidByText := true, laidKinds := [.data, .data, .data, .data, .sentinel, .sentinel, .pinned], laidTests := true, laidLooks := .later }
def MossTextsCardSaid : Prop := Claim7.holds Tryd.pinned (.plain (OpenSpec.ofChange mossTextsSpec)) mossTextsCard

/-- THE SECOND FORM's CARD OF 'turbarylaw08.MossGrows'. -/
def mossGrowsUptoCard : Claim7 := { stood := { row := mossGrowsUptoRow, standIns := [], harness := (true, "9c46ed7864b0043f4f4fafa56ed552a8e42e1b2e56c6715bc85b19576b53ab00"), looks := true }, kinds := [], alts := [], laidByText := true, laidKinds := [.data], laidTests := true, laidLooks := .later }
def MossGrowsUptoCardSaid : Prop := Claim7.holds Tryd.pinned (.plain (OpenSpec.upto mossGrowsSpec)) mossGrowsUptoCard

/-- THE SECOND FORM's CARD OF 'turbarylaw08.MossEdges'. -/
def mossEdgesUptoCard : Claim7 := { stood := { row := mossEdgesUptoRow, standIns := [], harness := (true, "9c46ed7864b0043f4f4fafa56ed552a8e42e1b2e56c6715bc85b19576b53ab00"), looks := true }, kinds := [], alts := [], laidByText := true, laidKinds := [.data], laidTests := true, laidLooks := .later }
def MossEdgesUptoCardSaid : Prop := Claim7.holds Tryd.pinned (.plain (OpenSpec.upto mossEdgesSpec)) mossEdgesUptoCard

/-- THE SECOND FORM's CARD OF 'turbarylaw08.MossNeighbors'. -/
def mossNeighborsUptoCard : Claim7 := { stood := { row := mossNeighborsUptoRow, standIns := [], harness := (true, "9c46ed7864b0043f4f4fafa56ed552a8e42e1b2e56c6715bc85b19576b53ab00"), looks := true }, kinds := [], alts := [], laidByText := true, laidKinds := [.data], laidTests := true, laidLooks := .later }
def MossNeighborsUptoCardSaid : Prop := Claim7.holds Tryd.pinned (.plain (OpenSpec.upto mossNeighborsSpec)) mossNeighborsUptoCard

/-- THE SECOND FORM's CARD OF 'turbarylaw08.MossSteps'. -/
def mossStepsUptoCard : Claim7 := { stood := { row := mossStepsUptoRow, standIns := [], harness := (true, "9c46ed7864b0043f4f4fafa56ed552a8e42e1b2e56c6715bc85b19576b53ab00"), looks := true }, kinds := [], alts := [], laidByText := true, laidKinds := [.data], laidTests := true, laidLooks := .later }
def MossStepsUptoCardSaid : Prop := Claim7.holds Tryd.pinned (.plain (OpenSpec.upto mossStepsSpec)) mossStepsUptoCard

/-- THE SECOND FORM's CARD OF 'turbarytop.TopMoss'. -/
def topMossUptoCard : Claim7 := { stood := { row := topMossUptoRow, standIns := [], harness := (true, "9c46ed7864b0043f4f4fafa56ed552a8e42e1b2e56c6715bc85b19576b53ab00"), looks := true }, kinds := [], alts := [], laidByText := true, laidKinds := [.data], laidTests := true, laidLooks := .later }
def TopMossUptoCardSaid : Prop := Claim7.holds Tryd.pinned (.plain (OpenSpec.upto topMossSpec)) topMossUptoCard

/-- THE SECOND FORM's CARD OF 'turbarylaw08.MossDays'. -/
def mossDaysUptoCard : Claim7 := { stood := { row := mossDaysUptoRow, standIns := [], harness := (true, "9c46ed7864b0043f4f4fafa56ed552a8e42e1b2e56c6715bc85b19576b53ab00"), looks := true }, kinds := [], alts := [], laidByText := true, laidKinds := [.data], laidTests := true, laidLooks := .later }
def MossDaysUptoCardSaid : Prop := Claim7.holds Tryd.pinned (.plain (OpenSpec.upto mossDaysSpec)) mossDaysUptoCard

/-- THE SECOND FORM's CARD OF 'turbarylaw08.MossProofs'. -/
def mossProofsUptoCard : Claim7 := { stood := { row := mossProofsUptoRow, standIns := [], harness := (true, "9c46ed7864b0043f4f4fafa56ed552a8e42e1b2e56c6715bc85b19576b53ab00"), looks := true }, kinds := [], alts := [], laidByText := true, laidKinds := [.data], laidTests := true, laidLooks := .later }
def MossProofsUptoCardSaid : Prop := Claim7.holds Tryd.pinned (.plain (OpenSpec.upto mossProofsSpec)) mossProofsUptoCard

/-- THE SECOND FORM's CARD OF 'turbarylaw08.MossFewest'. -/
def mossFewestUptoCard : Claim7 := { stood := { row := mossFewestUptoRow, standIns := [], harness := (true, "9c46ed7864b0043f4f4fafa56ed552a8e42e1b2e56c6715bc85b19576b53ab00"), looks := true }, kinds := [], alts := [], laidByText := true, laidKinds := [.data], laidTests := true, laidLooks := .later }
def MossFewestUptoCardSaid : Prop := Claim7.holds Tryd.pinned (.plain (OpenSpec.upto mossFewestSpec)) mossFewestUptoCard

/-- THE SECOND FORM's CARD OF 'turbarylaw08.MossOrders'. -/
def mossOrdersUptoCard : Claim7 := { stood := { row := mossOrdersUptoRow, standIns := [], harness := (true, "9c46ed7864b0043f4f4fafa56ed552a8e42e1b2e56c6715bc85b19576b53ab00"), looks := true }, kinds := [], alts := [], laidByText := true, laidKinds := [.data], laidTests := true, laidLooks := .later }
def MossOrdersUptoCardSaid : Prop := Claim7.holds Tryd.pinned (.plain (OpenSpec.upto mossOrdersSpec)) mossOrdersUptoCard

/-- THE SECOND FORM's CARD OF 'turbarylaw08.MossOrderly'. -/
def mossOrderlyUptoCard : Claim7 := { stood := { row := mossOrderlyUptoRow, standIns := [], harness := (true, "9c46ed7864b0043f4f4fafa56ed552a8e42e1b2e56c6715bc85b19576b53ab00"), looks := true }, kinds := [], alts := [], laidByText := true, laidKinds := [.data], laidTests := true, laidLooks := .later }
def MossOrderlyUptoCardSaid : Prop := Claim7.holds Tryd.pinned (.plain (OpenSpec.upto mossOrderlySpec)) mossOrderlyUptoCard

/-- THE SECOND FORM's CARD OF 'turbarylaw08.MossTurns'. -/
def mossTurnsUptoCard : Claim7 := { stood := { row := mossTurnsUptoRow, standIns := [], harness := (true, "9c46ed7864b0043f4f4fafa56ed552a8e42e1b2e56c6715bc85b19576b53ab00"), looks := true }, kinds := [], alts := [], laidByText := true, laidKinds := [.data], laidTests := true, laidLooks := .later }
def MossTurnsUptoCardSaid : Prop := Claim7.holds Tryd.pinned (.plain (OpenSpec.upto mossTurnsSpec)) mossTurnsUptoCard

/-- THE SECOND FORM's CARD OF 'turbarylaw08.MossCores'. -/
def mossCoresUptoCard : Claim7 := { stood := { row := mossCoresUptoRow, standIns := [], harness := (true, "9c46ed7864b0043f4f4fafa56ed552a8e42e1b2e56c6715bc85b19576b53ab00"), looks := true }, kinds := [], alts := [], laidByText := true, laidKinds := [.data], laidTests := true, laidLooks := .later }
def MossCoresUptoCardSaid : Prop := Claim7.holds Tryd.pinned (.plain (OpenSpec.upto mossCoresSpec)) mossCoresUptoCard

/-- THE SECOND FORM's CARD OF 'turbarylaw08.MossThins'. -/
def mossThinsUptoCard : Claim7 := { stood := { row := mossThinsUptoRow, standIns := [], harness := (true, "9c46ed7864b0043f4f4fafa56ed552a8e42e1b2e56c6715bc85b19576b53ab00"), looks := true }, kinds := [], alts := [], laidByText := true, laidKinds := [.data], laidTests := true, laidLooks := .later }
def MossThinsUptoCardSaid : Prop := Claim7.holds Tryd.pinned (.plain (OpenSpec.upto mossThinsSpec)) mossThinsUptoCard

/-- THE SECOND FORM's CARD OF 'turbarylaw08.MossTexts'. -/
def mossTextsUptoCard : Claim7 := { stood := { row := mossTextsUptoRow, standIns := [], harness := (true, "9c46ed7864b0043f4f4fafa56ed552a8e42e1b2e56c6715bc85b19576b53ab00"), looks := true }, kinds := [], alts := [], laidByText := true, laidKinds := [.data, .data, .data, .data, .sentinel, .sentinel, .pinned], laidTests := true, laidLooks := .later }
def MossTextsUptoCardSaid : Prop := Claim7.holds Tryd.pinned (.plain (OpenSpec.upto mossTextsSpec)) mossTextsUptoCard
end Rows
end Go.Proofs.YtjipgkhfbfpacaaDoor
