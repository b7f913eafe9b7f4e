/-
  DERIVED. GIVEN WITH THE SEED: THE CARDS: each row of YtjcecljhjailiaaGreatDoorRows.lean that lists a variable, with what it lists TIED to the program's text (the seventh form; the later family's looks); each row that meets fmt, with fmt's text TOLD by the authors' own Lean function (tested against real Go, not proved from fmt's source: count such statements apart). THE CARD IS WHAT COUNTS. Prove the row's statement (the work); the ties are given (YtjcecljhjailiaaGreatDoorTie.lean); close each card by the builder's one call (the guide's Derived/Test/ToyasCard.lean, 'card_holds'). Laid BY PROGRAM, IN A SANDBOX (cutbox-door.mjs). By AI agents, Wed Nov 11 2026. No macro, syntax, notation, axiom, sorry.
-/
import Derived.Test.YtjcecljhjailiaaGreatDoorRows
import GoSem.ClaimSeven
namespace Go.Proofs.YtjcecljhjailiaaGreatDoor
namespace Rows

/-- THE TIED CARD OF 'turbarylaw09.BogHollows'. -/
def bogHollowsCard : Claim7 := { stood := { row := bogHollowsRow, standIns := [], harness := (true, "3db829cce18005878e8754b8e59e180ceed115a91828322c6a281b16f2fc2ec3"), looks := true }, kinds := [], alts := [], laidByText := true, laidKinds := [.data, .data, .data, .data, .handle, .sentinel, .sentinel, .pinned], laidTests := true, laidLooks := .later }
def BogHollowsCardSaid : Prop := Claim7.holds Tryz.pinned (.plain (OpenSpec.ofChange bogHollowsSpec)) bogHollowsCard

/-- THE TIED CARD OF 'turbarylaw09.BogOrders'. -/
def bogOrdersCard : Claim7 := { stood := { row := bogOrdersRow, standIns := [], harness := (true, "3db829cce18005878e8754b8e59e180ceed115a91828322c6a281b16f2fc2ec3"), looks := true }, kinds := [], alts := [], laidByText := true, laidKinds := [.data, .data, .data, .data, .handle, .sentinel, .sentinel, .pinned], laidTests := true, laidLooks := .later }
def BogOrdersCardSaid : Prop := Claim7.holds Tryz.pinned (.plain (OpenSpec.ofChange bogOrdersSpec)) bogOrdersCard

/-- THE TIED CARD OF 'turbarylaw09.BogRuns'. -/
def bogRunsCard : Claim7 := { stood := { row := bogRunsRow, standIns := [], harness := (true, "3db829cce18005878e8754b8e59e180ceed115a91828322c6a281b16f2fc2ec3"), looks := true }, kinds := [], alts := [], laidByText := true, laidKinds := [.data, .data, .data, .data, .handle, .sentinel, .sentinel, .pinned], laidTests := true, laidLooks := .later }
def BogRunsCardSaid : Prop := Claim7.holds Tryz.pinned (.plain (OpenSpec.ofChange bogRunsSpec)) bogRunsCard

/-- THE TIED CARD OF 'turbarylaw09.BogBalances'. -/
def bogBalancesCard : Claim7 := { stood := { row := bogBalancesRow, standIns := [], harness := (true, "3db829cce18005878e8754b8e59e180ceed115a91828322c6a281b16f2fc2ec3"), looks := true }, kinds := [], alts := [], laidByText := true, laidKinds := [.data, .data, .data, .data, .handle, .sentinel, .sentinel, .pinned], laidTests := true, laidLooks := .later }
def BogBalancesCardSaid : Prop := Claim7.holds Tryz.pinned (.plain (OpenSpec.ofChange bogBalancesSpec)) bogBalancesCard

/-- THE TIED CARD OF 'turbarylaw09.BogReads'. -/
def bogReadsCard : Claim7 := { stood := { row := bogReadsRow, standIns := [], harness := (true, "3db829cce18005878e8754b8e59e180ceed115a91828322c6a281b16f2fc2ec3"), looks := true }, kinds := [], alts := [], laidByText := true, laidKinds := [.data, .data, .data, .data, .handle, .sentinel, .sentinel, .pinned], laidTests := true, laidLooks := .later }
def BogReadsCardSaid : Prop := Claim7.holds Tryz.pinned (.plain (OpenSpec.ofChange bogReadsSpec)) bogReadsCard

/-- THE TIED CARD OF 'turbarylaw09.BogWrites'. -/
def bogWritesCard : Claim7 := { stood := { row := bogWritesRow, standIns := [], harness := (true, "3db829cce18005878e8754b8e59e180ceed115a91828322c6a281b16f2fc2ec3"), looks := true }, kinds := [], alts := [], laidByText := true, laidKinds := [.data, .data, .data, .data, .handle, .sentinel, .sentinel, .pinned], laidTests := true, laidLooks := .later }
def BogWritesCardSaid : Prop := Claim7.holds Tryz.pinned (.plain (OpenSpec.ofChange bogWritesSpec)) bogWritesCard

/-- THE TIED CARD OF 'turbarylaw09.BogRefuses'. -/
def bogRefusesCard : Claim7 := { stood := { row := bogRefusesRow, standIns := [], harness := (true, "3db829cce18005878e8754b8e59e180ceed115a91828322c6a281b16f2fc2ec3"), looks := true }, kinds := [], alts := [], laidByText := true, laidKinds := [.data, .data, .data, .data, .handle, .sentinel, .sentinel, .pinned], laidTests := true, laidLooks := .later }
def BogRefusesCardSaid : Prop := Claim7.holds Tryz.pinned (.plain (OpenSpec.ofChange bogRefusesSpec)) bogRefusesCard

/-- THE TIED CARD OF 'turbarylaw09.BogMerges'. -/
def bogMergesCard : Claim7 := { stood := { row := bogMergesRow, standIns := [], harness := (true, "3db829cce18005878e8754b8e59e180ceed115a91828322c6a281b16f2fc2ec3"), looks := true }, kinds := [], alts := [], laidByText := true, laidKinds := [.data, .data, .data, .data, .handle, .sentinel, .sentinel, .pinned], laidTests := true, laidLooks := .later }
def BogMergesCardSaid : Prop := Claim7.holds Tryz.pinned (.plain (OpenSpec.ofChange bogMergesSpec)) bogMergesCard

/-- THE TIED CARD OF 'turbarylaw09.BogReplays'. -/
def bogReplaysCard : Claim7 := { stood := { row := bogReplaysRow, standIns := [], harness := (true, "3db829cce18005878e8754b8e59e180ceed115a91828322c6a281b16f2fc2ec3"), looks := true }, kinds := [], alts := [], laidByText := true, laidKinds := [.data, .data, .data, .data, .handle, .sentinel, .sentinel, .pinned], laidTests := true, laidLooks := .later }
def BogReplaysCardSaid : Prop := Claim7.holds Tryz.pinned (.plain (OpenSpec.ofChange bogReplaysSpec)) bogReplaysCard

/-- THE TIED CARD OF 'turbarylaw09.BogBooks'. -/
def bogBooksCard : Claim7 := { stood := { row := bogBooksRow, standIns := [], harness := (true, "3db829cce18005878e8754b8e59e180ceed115a91828322c6a281b16f2fc2ec3"), looks := true }, kinds := [], alts := [], laidByText := true, laidKinds := [.data, .data, .data, .data, .handle, .sentinel, .sentinel, .pinned], laidTests := true, laidLooks := .later }
def BogBooksCardSaid : Prop := Claim7.holds Tryz.pinned (.plain (OpenSpec.ofChange bogBooksSpec)) bogBooksCard

/-- THE TIED CARD OF 'turbarylaw09.BogAudits'. -/
def bogAuditsCard : Claim7 := { stood := { row := bogAuditsRow, standIns := [], harness := (true, "3db829cce18005878e8754b8e59e180ceed115a91828322c6a281b16f2fc2ec3"), looks := true }, kinds := [], alts := [], laidByText := true, laidKinds := [.data, .data, .data, .data, .handle, .sentinel, .sentinel, .pinned], laidTests := true, laidLooks := .later }
def BogAuditsCardSaid : Prop := Claim7.holds Tryz.pinned (.plain (OpenSpec.ofChange bogAuditsSpec)) bogAuditsCard

/-- THE TIED CARD OF 'turbarylaw09.BogNews'. -/
def bogNewsCard : Claim7 := { stood := { row := bogNewsRow, standIns := [], harness := (true, "3db829cce18005878e8754b8e59e180ceed115a91828322c6a281b16f2fc2ec3"), looks := true }, kinds := [], alts := [], laidByText := true, laidKinds := [.data, .data, .data, .data, .handle, .sentinel, .sentinel, .pinned], laidTests := true, laidLooks := .later }
def BogNewsCardSaid : Prop := Claim7.holds Tryz.pinned (.plain (OpenSpec.ofChange bogNewsSpec)) bogNewsCard

/-- THE TIED CARD OF 'turbarytop.TopBook'. -/
def topBookCard : Claim7 := { stood := { row := topBookRow, standIns := [], harness := (true, "3db829cce18005878e8754b8e59e180ceed115a91828322c6a281b16f2fc2ec3"), looks := true }, kinds := [], alts := [], laidByText := true, laidKinds := [.data, .data, .data, .data, .handle, .sentinel, .sentinel, .pinned], laidTests := true, laidLooks := .later }
def TopBookCardSaid : Prop := Claim7.holds Tryz.pinned (.plain (OpenSpec.ofChange topBookSpec)) topBookCard

/-- THE TIED CARD OF 'turbarytop.TopReplay'. -/
def topReplayCard : Claim7 := { stood := { row := topReplayRow, standIns := [], harness := (true, "3db829cce18005878e8754b8e59e180ceed115a91828322c6a281b16f2fc2ec3"), looks := true }, kinds := [], alts := [], laidByText := true, laidKinds := [.data, .data, .data, .data, .handle, .sentinel, .sentinel, .pinned], laidTests := true, laidLooks := .later }
def TopReplayCardSaid : Prop := Claim7.holds Tryz.pinned (.plain (OpenSpec.ofChange topReplaySpec)) topReplayCard

/-- THE TIED CARD OF 'turbarytop.TopCompany'. -/
def topCompanyCard : Claim7 := { stood := { row := topCompanyRow, standIns := [], harness := (true, "3db829cce18005878e8754b8e59e180ceed115a91828322c6a281b16f2fc2ec3"), looks := true }, kinds := [], alts := [], laidByText := true, laidKinds := [.data, .data, .data, .data, .handle, .sentinel, .sentinel, .pinned], laidTests := true, laidLooks := .later }
def TopCompanyCardSaid : Prop := Claim7.holds Tryz.pinned (.plain (OpenSpec.ofChange topCompanySpec)) topCompanyCard

/-- THE SECOND FORM's CARD OF 'turbarylaw09.BogHollows'. -/
def bogHollowsUptoCard : Claim7 := { stood := { row := bogHollowsUptoRow, standIns := [], harness := (true, "3db829cce18005878e8754b8e59e180ceed115a91828322c6a281b16f2fc2ec3"), looks := true }, kinds := [], alts := [], laidByText := true, laidKinds := [.data, .data, .data, .data, .handle, .sentinel, .sentinel, .pinned], laidTests := true, laidLooks := .later }
def BogHollowsUptoCardSaid : Prop := Claim7.holds Tryz.pinned (.plain (OpenSpec.upto bogHollowsSpec)) bogHollowsUptoCard

/-- THE SECOND FORM's CARD OF 'turbarylaw09.BogOrders'. -/
def bogOrdersUptoCard : Claim7 := { stood := { row := bogOrdersUptoRow, standIns := [], harness := (true, "3db829cce18005878e8754b8e59e180ceed115a91828322c6a281b16f2fc2ec3"), looks := true }, kinds := [], alts := [], laidByText := true, laidKinds := [.data, .data, .data, .data, .handle, .sentinel, .sentinel, .pinned], laidTests := true, laidLooks := .later }
def BogOrdersUptoCardSaid : Prop := Claim7.holds Tryz.pinned (.plain (OpenSpec.upto bogOrdersSpec)) bogOrdersUptoCard

/-- THE SECOND FORM's CARD OF 'turbarylaw09.BogRuns'. -/
def bogRunsUptoCard : Claim7 := { stood := { row := bogRunsUptoRow, standIns := [], harness := (true, "3db829cce18005878e8754b8e59e180ceed115a91828322c6a281b16f2fc2ec3"), looks := true }, kinds := [], alts := [], laidByText := true, laidKinds := [.data, .data, .data, .data, .handle, .sentinel, .sentinel, .pinned], laidTests := true, laidLooks := .later }
def BogRunsUptoCardSaid : Prop := Claim7.holds Tryz.pinned (.plain (OpenSpec.upto bogRunsSpec)) bogRunsUptoCard

/-- THE SECOND FORM's CARD OF 'turbarylaw09.BogBalances'. -/
def bogBalancesUptoCard : Claim7 := { stood := { row := bogBalancesUptoRow, standIns := [], harness := (true, "3db829cce18005878e8754b8e59e180ceed115a91828322c6a281b16f2fc2ec3"), looks := true }, kinds := [], alts := [], laidByText := true, laidKinds := [.data, .data, .data, .data, .handle, .sentinel, .sentinel, .pinned], laidTests := true, laidLooks := .later }
def BogBalancesUptoCardSaid : Prop := Claim7.holds Tryz.pinned (.plain (OpenSpec.upto bogBalancesSpec)) bogBalancesUptoCard

/-- THE SECOND FORM's CARD OF 'turbarylaw09.BogReads'. -/
def bogReadsUptoCard : Claim7 := { stood := { row := bogReadsUptoRow, standIns := [], harness := (true, "3db829cce18005878e8754b8e59e180ceed115a91828322c6a281b16f2fc2ec3"), looks := true }, kinds := [], alts := [], laidByText := true, laidKinds := [.data, .data, .data, .data, .handle, .sentinel, .sentinel, .pinned], laidTests := true, laidLooks := .later }
def BogReadsUptoCardSaid : Prop := Claim7.holds Tryz.pinned (.plain (OpenSpec.upto bogReadsSpec)) bogReadsUptoCard

/-- THE SECOND FORM's CARD OF 'turbarylaw09.BogWrites'. -/
def bogWritesUptoCard : Claim7 := { stood := { row := bogWritesUptoRow, standIns := [], harness := (true, "3db829cce18005878e8754b8e59e180ceed115a91828322c6a281b16f2fc2ec3"), looks := true }, kinds := [], alts := [], laidByText := true, laidKinds := [.data, .data, .data, .data, .handle, .sentinel, .sentinel, .pinned], laidTests := true, laidLooks := .later }
def BogWritesUptoCardSaid : Prop := Claim7.holds Tryz.pinned (.plain (OpenSpec.upto bogWritesSpec)) bogWritesUptoCard

/-- THE SECOND FORM's CARD OF 'turbarylaw09.BogRefuses'. -/
def bogRefusesUptoCard : Claim7 := { stood := { row := bogRefusesUptoRow, standIns := [], harness := (true, "3db829cce18005878e8754b8e59e180ceed115a91828322c6a281b16f2fc2ec3"), looks := true }, kinds := [], alts := [], laidByText := true, laidKinds := [.data, .data, .data, .data, .handle, .sentinel, .sentinel, .pinned], laidTests := true, laidLooks := .later }
def BogRefusesUptoCardSaid : Prop := Claim7.holds Tryz.pinned (.plain (OpenSpec.upto bogRefusesSpec)) bogRefusesUptoCard

/-- THE SECOND FORM's CARD OF 'turbarylaw09.BogMerges'. -/
def bogMergesUptoCard : Claim7 := { stood := { row := bogMergesUptoRow, standIns := [], harness := (true, "3db829cce18005878e8754b8e59e180ceed115a91828322c6a281b16f2fc2ec3"), looks := true }, kinds := [], alts := [], laidByText := true, laidKinds := [.data, .data, .data, .data, .handle, .sentinel, .sentinel, .pinned], laidTests := true, laidLooks := .later }
def BogMergesUptoCardSaid : Prop := Claim7.holds Tryz.pinned (.plain (OpenSpec.upto bogMergesSpec)) bogMergesUptoCard

/-- THE SECOND FORM's CARD OF 'turbarylaw09.BogReplays'. -/
def bogReplaysUptoCard : Claim7 := { stood := { row := bogReplaysUptoRow, standIns := [], harness := (true, "3db829cce18005878e8754b8e59e180ceed115a91828322c6a281b16f2fc2ec3"), looks := true }, kinds := [], alts := [], laidByText := true, laidKinds := [.data, .data, .data, .data, .handle, .sentinel, .sentinel, .pinned], laidTests := true, laidLooks := .later }
def BogReplaysUptoCardSaid : Prop := Claim7.holds Tryz.pinned (.plain (OpenSpec.upto bogReplaysSpec)) bogReplaysUptoCard

/-- THE SECOND FORM's CARD OF 'turbarylaw09.BogBooks'. -/
def bogBooksUptoCard : Claim7 := { stood := { row := bogBooksUptoRow, standIns := [], harness := (true, "3db829cce18005878e8754b8e59e180ceed115a91828322c6a281b16f2fc2ec3"), looks := true }, kinds := [], alts := [], laidByText := true, laidKinds := [.data, .data, .data, .data, .handle, .sentinel, .sentinel, .pinned], laidTests := true, laidLooks := .later }
def BogBooksUptoCardSaid : Prop := Claim7.holds Tryz.pinned (.plain (OpenSpec.upto bogBooksSpec)) bogBooksUptoCard

/-- THE SECOND FORM's CARD OF 'turbarylaw09.BogAudits'. -/
def bogAuditsUptoCard : Claim7 := { stood := { row := bogAuditsUptoRow, standIns := [], harness := (true, "3db829cce18005878e8754b8e59e180ceed115a91828322c6a281b16f2fc2ec3"), looks := true }, kinds := [], alts := [], laidByText := true, laidKinds := [.data, .data, .data, .data, .handle, .sentinel, .sentinel, .pinned], laidTests := true, laidLooks := .later }
def BogAuditsUptoCardSaid : Prop := Claim7.holds Tryz.pinned (.plain (OpenSpec.upto bogAuditsSpec)) bogAuditsUptoCard

/-- THE SECOND FORM's CARD OF 'turbarylaw09.BogNews'. -/
def bogNewsUptoCard : Claim7 := { stood := { row := bogNewsUptoRow, standIns := [], harness := (true, "3db829cce18005878e8754b8e59e180ceed115a91828322c6a281b16f2fc2ec3"), looks := true }, kinds := [], alts := [], laidByText := true, laidKinds := [.data, .data, .data, .data, .handle, .sentinel, .sentinel, .pinned], laidTests := true, laidLooks := .later }
def BogNewsUptoCardSaid : Prop := Claim7.holds Tryz.pinned (.plain (OpenSpec.upto bogNewsSpec)) bogNewsUptoCard

/-- THE SECOND FORM's CARD OF 'turbarytop.TopBook'. -/
def topBookUptoCard : Claim7 := { stood := { row := topBookUptoRow, standIns := [], harness := (true, "3db829cce18005878e8754b8e59e180ceed115a91828322c6a281b16f2fc2ec3"), looks := true }, kinds := [], alts := [], laidByText := true, laidKinds := [.data, .data, .data, .data, .handle, .sentinel, .sentinel, .pinned], laidTests := true, laidLooks := .later }
def TopBookUptoCardSaid : Prop := Claim7.holds Tryz.pinned (.plain (OpenSpec.upto topBookSpec)) topBookUptoCard

/-- THE SECOND FORM's CARD OF 'turbarytop.TopReplay'. -/
def topReplayUptoCard : Claim7 := { stood := { row := topReplayUptoRow, standIns := [], harness := (true, "3db829cce18005878e8754b8e59e180ceed115a91828322c6a281b16f2fc2ec3"), looks := true }, kinds := [], alts := [], laidByText := true, laidKinds := [.data, .data, .data, .data, .handle, .sentinel, .sentinel, .pinned], laidTests := true, laidLooks := .later }
def TopReplayUptoCardSaid : Prop := Claim7.holds Tryz.pinned (.plain (OpenSpec.upto topReplaySpec)) topReplayUptoCard

/-- THE SECOND FORM's CARD OF 'turbarytop.TopCompany'. -/
def topCompanyUptoCard : Claim7 := { stood := { row := topCompanyUptoRow, standIns := [], harness := (true, "3db829cce18005878e8754b8e59e180ceed115a91828322c6a281b16f2fc2ec3"), looks := true }, kinds := [], alts := [], laidByText := true, laidKinds := [.data, .data, .data, .data, .handle, .sentinel, .sentinel, .pinned], laidTests := true, laidLooks := .later }
def TopCompanyUptoCardSaid : Prop := Claim7.holds Tryz.pinned (.plain (OpenSpec.upto topCompanySpec)) topCompanyUptoCard
end Rows
end Go.Proofs.YtjcecljhjailiaaGreatDoor
