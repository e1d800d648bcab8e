/-
  DERIVED. GIVEN WITH THE SEED: THE CARDS: each row of YtpdcnikdoikldaaGreatDoorRows.lean that lists a variable, with what it lists TIED to the program's text (the seventh form; the later family's looks); each row that meets fmt, with fmt's text TOLD by the authors' own Lean function (tested against real Go, not proved from fmt's source: count such statements apart). THE CARD IS WHAT COUNTS. Prove the row's statement (the work); the ties are given (YtpdcnikdoikldaaGreatDoorTie.lean); close each card by the builder's one call (the guide's Derived/Test/ToyasCard.lean, 'card_holds'). Laid BY PROGRAM, IN A SANDBOX (cutbox-door.mjs). By AI agents, Wed Nov 11 2026. No macro, syntax, notation, axiom, sorry.
-/
import Derived.Test.YtpdcnikdoikldaaGreatDoorRows
import GoSem.ClaimSeven
namespace Go.Proofs.YtpdcnikdoikldaaGreatDoor
namespace Rows

/-- THE TIED CARD OF 'wharfagetop.TopFew'. -/
def topFewCard : Claim7 := { stood := { row := topFewRow, standIns := [], harness := (true, "0729afc62fabe8eeb624760bb9c12764a5e0d454408b96ccfb9f9aaa6bcd8216"), looks := true }, kinds := [], alts := [], laidByText := true, laidKinds := [.data, .data, .data], laidTests := true, laidLooks := .later }
def TopFewCardSaid : Prop := Claim7.holds Tryz.pinned (.plain (OpenSpec.ofChange topFewSpec)) topFewCard

/-- THE TIED CARD OF 'wharfagetop.TopNodes'. -/
def topNodesCard : Claim7 := { stood := { row := topNodesRow, standIns := [], harness := (true, "0729afc62fabe8eeb624760bb9c12764a5e0d454408b96ccfb9f9aaa6bcd8216"), looks := true }, kinds := [], alts := [], laidByText := true, laidKinds := [.data, .data, .data], laidTests := true, laidLooks := .later }
def TopNodesCardSaid : Prop := Claim7.holds Tryz.pinned (.plain (OpenSpec.ofChange topNodesSpec)) topNodesCard

/-- THE TIED CARD OF 'wharfagetop.TopPins'. -/
def topPinsCard : Claim7 := { stood := { row := topPinsRow, standIns := [], harness := (true, "0729afc62fabe8eeb624760bb9c12764a5e0d454408b96ccfb9f9aaa6bcd8216"), looks := true }, kinds := [], alts := [], laidByText := true, laidKinds := [.data, .data, .data], laidTests := true, laidLooks := .later }
def TopPinsCardSaid : Prop := Claim7.holds Tryz.pinned (.plain (OpenSpec.ofChange topPinsSpec)) topPinsCard

/-- THE TIED CARD OF 'wharfagetop.TopThrough'. -/
def topThroughCard : Claim7 := { stood := { row := topThroughRow, standIns := [], harness := (true, "0729afc62fabe8eeb624760bb9c12764a5e0d454408b96ccfb9f9aaa6bcd8216"), looks := true }, kinds := [], alts := [], laidByText := true, laidKinds := [.data, .data, .data], laidTests := true, laidLooks := .later }
def TopThroughCardSaid : Prop := Claim7.holds Tryz.pinned (.plain (OpenSpec.ofChange topThroughSpec)) topThroughCard

/-- THE TIED CARD OF 'wharfagetop.TopBad'. -/
def topBadCard : Claim7 := { stood := { row := topBadRow, standIns := [], harness := (true, "0729afc62fabe8eeb624760bb9c12764a5e0d454408b96ccfb9f9aaa6bcd8216"), looks := true }, kinds := [], alts := [], laidByText := true, laidKinds := [.data, .data, .data], laidTests := true, laidLooks := .later }
def TopBadCardSaid : Prop := Claim7.holds Tryz.pinned (.plain (OpenSpec.ofChange topBadSpec)) topBadCard

/-- THE TIED CARD OF 'wharfagetop.TopCopies'. -/
def topCopiesCard : Claim7 := { stood := { row := topCopiesRow, standIns := [], harness := (true, "0729afc62fabe8eeb624760bb9c12764a5e0d454408b96ccfb9f9aaa6bcd8216"), looks := true }, kinds := [], alts := [], laidByText := true, laidKinds := [.data, .data, .data], laidTests := true, laidLooks := .later }
def TopCopiesCardSaid : Prop := Claim7.holds Tryz.pinned (.plain (OpenSpec.ofChange topCopiesSpec)) topCopiesCard

/-- THE TIED CARD OF 'wharfagetop.TopEdges'. -/
def topEdgesCard : Claim7 := { stood := { row := topEdgesRow, standIns := [], harness := (true, "0729afc62fabe8eeb624760bb9c12764a5e0d454408b96ccfb9f9aaa6bcd8216"), looks := true }, kinds := [], alts := [], laidByText := true, laidKinds := [.data, .data, .data], laidTests := true, laidLooks := .later }
def TopEdgesCardSaid : Prop := Claim7.holds Tryz.pinned (.plain (OpenSpec.ofChange topEdgesSpec)) topEdgesCard

/-- THE TIED CARD OF 'wharfagetop.TopOrder'. -/
def topOrderCard : Claim7 := { stood := { row := topOrderRow, standIns := [], harness := (true, "0729afc62fabe8eeb624760bb9c12764a5e0d454408b96ccfb9f9aaa6bcd8216"), looks := true }, kinds := [], alts := [], laidByText := true, laidKinds := [.data, .data, .data], laidTests := true, laidLooks := .later }
def TopOrderCardSaid : Prop := Claim7.holds Tryz.pinned (.plain (OpenSpec.ofChange topOrderSpec)) topOrderCard

/-- THE TIED CARD OF 'wharfagetop.TopLost'. -/
def topLostCard : Claim7 := { stood := { row := topLostRow, standIns := [], harness := (true, "0729afc62fabe8eeb624760bb9c12764a5e0d454408b96ccfb9f9aaa6bcd8216"), looks := true }, kinds := [], alts := [], laidByText := true, laidKinds := [.data, .data, .data], laidTests := true, laidLooks := .later }
def TopLostCardSaid : Prop := Claim7.holds Tryz.pinned (.plain (OpenSpec.ofChange topLostSpec)) topLostCard

/-- THE TIED CARD OF 'wharfagetop.TopChosen'. -/
def topChosenCard : Claim7 := { stood := { row := topChosenRow, standIns := [], harness := (true, "0729afc62fabe8eeb624760bb9c12764a5e0d454408b96ccfb9f9aaa6bcd8216"), looks := true }, kinds := [], alts := [], laidByText := true, laidKinds := [.data, .data, .data], laidTests := true, laidLooks := .later }
def TopChosenCardSaid : Prop := Claim7.holds Tryz.pinned (.plain (OpenSpec.ofChange topChosenSpec)) topChosenCard

/-- THE TIED CARD OF 'wharfagetop.TopSpills'. -/
def topSpillsCard : Claim7 := { stood := { row := topSpillsRow, standIns := [], harness := (true, "0729afc62fabe8eeb624760bb9c12764a5e0d454408b96ccfb9f9aaa6bcd8216"), looks := true }, kinds := [], alts := [], laidByText := true, laidKinds := [.data, .data, .data], laidTests := true, laidLooks := .later }
def TopSpillsCardSaid : Prop := Claim7.holds Tryz.pinned (.plain (OpenSpec.ofChange topSpillsSpec)) topSpillsCard

/-- THE TIED CARD OF 'wharfagetop.TopScript'. -/
def topScriptCard : Claim7 := { stood := { row := topScriptRow, standIns := [], harness := (true, "0729afc62fabe8eeb624760bb9c12764a5e0d454408b96ccfb9f9aaa6bcd8216"), looks := true }, kinds := [], alts := [], laidByText := true, laidKinds := [.data, .data, .data, .sentinel, .sentinel], laidTests := true, laidLooks := .later }
def TopScriptCardSaid : Prop := Claim7.holds Tryz.pinned (.plain (OpenSpec.ofChange topScriptSpec)) topScriptCard

/-- THE SECOND FORM's CARD OF 'wharfagetop.TopFew'. -/
def topFewUptoCard : Claim7 := { stood := { row := topFewUptoRow, standIns := [], harness := (true, "0729afc62fabe8eeb624760bb9c12764a5e0d454408b96ccfb9f9aaa6bcd8216"), looks := true }, kinds := [], alts := [], laidByText := true, laidKinds := [.data, .data, .data], laidTests := true, laidLooks := .later }
def TopFewUptoCardSaid : Prop := Claim7.holds Tryz.pinned (.plain (OpenSpec.upto topFewSpec)) topFewUptoCard

/-- THE SECOND FORM's CARD OF 'wharfagetop.TopNodes'. -/
def topNodesUptoCard : Claim7 := { stood := { row := topNodesUptoRow, standIns := [], harness := (true, "0729afc62fabe8eeb624760bb9c12764a5e0d454408b96ccfb9f9aaa6bcd8216"), looks := true }, kinds := [], alts := [], laidByText := true, laidKinds := [.data, .data, .data], laidTests := true, laidLooks := .later }
def TopNodesUptoCardSaid : Prop := Claim7.holds Tryz.pinned (.plain (OpenSpec.upto topNodesSpec)) topNodesUptoCard

/-- THE SECOND FORM's CARD OF 'wharfagetop.TopPins'. -/
def topPinsUptoCard : Claim7 := { stood := { row := topPinsUptoRow, standIns := [], harness := (true, "0729afc62fabe8eeb624760bb9c12764a5e0d454408b96ccfb9f9aaa6bcd8216"), looks := true }, kinds := [], alts := [], laidByText := true, laidKinds := [.data, .data, .data], laidTests := true, laidLooks := .later }
def TopPinsUptoCardSaid : Prop := Claim7.holds Tryz.pinned (.plain (OpenSpec.upto topPinsSpec)) topPinsUptoCard

/-- THE SECOND FORM's CARD OF 'wharfagetop.TopThrough'. -/
def topThroughUptoCard : Claim7 := { stood := { row := topThroughUptoRow, standIns := [], harness := (true, "0729afc62fabe8eeb624760bb9c12764a5e0d454408b96ccfb9f9aaa6bcd8216"), looks := true }, kinds := [], alts := [], laidByText := true, laidKinds := [.data, .data, .data], laidTests := true, laidLooks := .later }
def TopThroughUptoCardSaid : Prop := Claim7.holds Tryz.pinned (.plain (OpenSpec.upto topThroughSpec)) topThroughUptoCard

/-- THE SECOND FORM's CARD OF 'wharfagetop.TopBad'. -/
def topBadUptoCard : Claim7 := { stood := { row := topBadUptoRow, standIns := [], harness := (true, "0729afc62fabe8eeb624760bb9c12764a5e0d454408b96ccfb9f9aaa6bcd8216"), looks := true }, kinds := [], alts := [], laidByText := true, laidKinds := [.data, .data, .data], laidTests := true, laidLooks := .later }
def TopBadUptoCardSaid : Prop := Claim7.holds Tryz.pinned (.plain (OpenSpec.upto topBadSpec)) topBadUptoCard

/-- THE SECOND FORM's CARD OF 'wharfagetop.TopCopies'. -/
def topCopiesUptoCard : Claim7 := { stood := { row := topCopiesUptoRow, standIns := [], harness := (true, "0729afc62fabe8eeb624760bb9c12764a5e0d454408b96ccfb9f9aaa6bcd8216"), looks := true }, kinds := [], alts := [], laidByText := true, laidKinds := [.data, .data, .data], laidTests := true, laidLooks := .later }
def TopCopiesUptoCardSaid : Prop := Claim7.holds Tryz.pinned (.plain (OpenSpec.upto topCopiesSpec)) topCopiesUptoCard

/-- THE SECOND FORM's CARD OF 'wharfagetop.TopEdges'. -/
def topEdgesUptoCard : Claim7 := { stood := { row := topEdgesUptoRow, standIns := [], harness := (true, "0729afc62fabe8eeb624760bb9c12764a5e0d454408b96ccfb9f9aaa6bcd8216"), looks := true }, kinds := [], alts := [], laidByText := true, laidKinds := [.data, .data, .data], laidTests := true, laidLooks := .later }
def TopEdgesUptoCardSaid : Prop := Claim7.holds Tryz.pinned (.plain (OpenSpec.upto topEdgesSpec)) topEdgesUptoCard

/-- THE SECOND FORM's CARD OF 'wharfagetop.TopOrder'. -/
def topOrderUptoCard : Claim7 := { stood := { row := topOrderUptoRow, standIns := [], harness := (true, "0729afc62fabe8eeb624760bb9c12764a5e0d454408b96ccfb9f9aaa6bcd8216"), looks := true }, kinds := [], alts := [], laidByText := true, laidKinds := [.data, .data, .data], laidTests := true, laidLooks := .later }
def TopOrderUptoCardSaid : Prop := Claim7.holds Tryz.pinned (.plain (OpenSpec.upto topOrderSpec)) topOrderUptoCard

/-- THE SECOND FORM's CARD OF 'wharfagetop.TopLost'. -/
def topLostUptoCard : Claim7 := { stood := { row := topLostUptoRow, standIns := [], harness := (true, "0729afc62fabe8eeb624760bb9c12764a5e0d454408b96ccfb9f9aaa6bcd8216"), looks := true }, kinds := [], alts := [], laidByText := true, laidKinds := [.data, .data, .data], laidTests := true, laidLooks := .later }
def TopLostUptoCardSaid : Prop := Claim7.holds Tryz.pinned (.plain (OpenSpec.upto topLostSpec)) topLostUptoCard

/-- THE SECOND FORM's CARD OF 'wharfagetop.TopChosen'. -/
def topChosenUptoCard : Claim7 := { stood := { row := topChosenUptoRow, standIns := [], harness := (true, "0729afc62fabe8eeb624760bb9c12764a5e0d454408b96ccfb9f9aaa6bcd8216"), looks := true }, kinds := [], alts := [], laidByText := true, laidKinds := [.data, .data, .data], laidTests := true, laidLooks := .later }
def TopChosenUptoCardSaid : Prop := Claim7.holds Tryz.pinned (.plain (OpenSpec.upto topChosenSpec)) topChosenUptoCard

/-- THE SECOND FORM's CARD OF 'wharfagetop.TopSpills'. -/
def topSpillsUptoCard : Claim7 := { stood := { row := topSpillsUptoRow, standIns := [], harness := (true, "0729afc62fabe8eeb624760bb9c12764a5e0d454408b96ccfb9f9aaa6bcd8216"), looks := true }, kinds := [], alts := [], laidByText := true, laidKinds := [.data, .data, .data], laidTests := true, laidLooks := .later }
def TopSpillsUptoCardSaid : Prop := Claim7.holds Tryz.pinned (.plain (OpenSpec.upto topSpillsSpec)) topSpillsUptoCard

/-- THE SECOND FORM's CARD OF 'wharfagetop.TopScript'. -/
def topScriptUptoCard : Claim7 := { stood := { row := topScriptUptoRow, standIns := [], harness := (true, "0729afc62fabe8eeb624760bb9c12764a5e0d454408b96ccfb9f9aaa6bcd8216"), looks := true }, kinds := [], alts := [], laidByText := true, laidKinds := [.data, .data, .data, .sentinel, .sentinel], laidTests := true, laidLooks := .later }
def TopScriptUptoCardSaid : Prop := Claim7.holds Tryz.pinned (.plain (OpenSpec.upto topScriptSpec)) topScriptUptoCard
end Rows
end Go.Proofs.YtpdcnikdoikldaaGreatDoor
