/-
  DERIVED. GIVEN WITH THE SEED: THE CARDS: each row of YtbgfoobcpacfeaaDoorRows.lean that lists a variable, with what it lists TIED to the program's text (the seventh form; the later family's looks); each row that meets fmt, with fmt's text TOLD by the authors' own Lean function (tested against real Go, not proved from fmt's source: count such statements apart). THE CARD IS WHAT COUNTS. Prove the row's statement (the work); the ties are given (YtbgfoobcpacfeaaDoorTie.lean); close each card by the builder's one call (the guide's Derived/Test/ToyasCard.lean, 'card_holds'). Laid BY PROGRAM, IN A SANDBOX (cutbox-door.mjs). By AI agents, Wed Nov 11 2026. No macro, syntax, notation, axiom, sorry.
-/
import Derived.Test.YtbgfoobcpacfeaaDoorRows
import GoSem.ClaimSeven
namespace Go.Proofs.YtbgfoobcpacfeaaDoor
namespace Rows

/-- THE TIED CARD OF 'replicalaw07.WireName'. -/
def wireNameCard : Claim7 := { stood := { row := wireNameRow, standIns := [], harness := (true, "28566cb8720ffb44a8cf22be5cb7755987612e1b792e1154c3f77f602c2839df"), looks := true }, kinds := [], alts := [], laidByText := true, laidKinds := [.data, .data], laidTests := true, laidLooks := .later }
def WireNameCardSaid : Prop := Claim7.holds Tryd.pinned (.plain (OpenSpec.ofChange wireNameSpec)) wireNameCard

/-- THE TIED CARD OF 'replicalaw07.WirePacket'. -/
def wirePacketCard : Claim7 := { stood := { row := wirePacketRow, standIns := [], harness := (true, "28566cb8720ffb44a8cf22be5cb7755987612e1b792e1154c3f77f602c2839df"), looks := true }, kinds := [], alts := [], laidByText := true, laidKinds := [.data, .data, .data], laidTests := true, laidLooks := .later }
def WirePacketCardSaid : Prop := Claim7.holds Tryd.pinned (.plain (OpenSpec.ofChange wirePacketSpec)) wirePacketCard

/-- THE TIED CARD OF 'replicalaw07.WireParse'. -/
def wireParseCard : Claim7 := { stood := { row := wireParseRow, standIns := [], harness := (true, "28566cb8720ffb44a8cf22be5cb7755987612e1b792e1154c3f77f602c2839df"), looks := true }, kinds := [], alts := [], laidByText := true, laidKinds := [.data, .data, .data], laidTests := true, laidLooks := .later }
def WireParseCardSaid : Prop := Claim7.holds Tryd.pinned (.plain (OpenSpec.ofChange wireParseSpec)) wireParseCard

/-- THE TIED CARD OF 'replicalaw07.WireBack'. -/
def wireBackCard : Claim7 := { stood := { row := wireBackRow, standIns := [], harness := (true, "28566cb8720ffb44a8cf22be5cb7755987612e1b792e1154c3f77f602c2839df"), looks := true }, kinds := [], alts := [], laidByText := true, laidKinds := [.data], laidTests := true, laidLooks := .later }
def WireBackCardSaid : Prop := Claim7.holds Tryd.pinned (.plain (OpenSpec.ofChange wireBackSpec)) wireBackCard

/-- THE TIED CARD OF 'replicalaw07.WireOne'. -/
def wireOneCard : Claim7 := { stood := { row := wireOneRow, standIns := [], harness := (true, "28566cb8720ffb44a8cf22be5cb7755987612e1b792e1154c3f77f602c2839df"), looks := true }, kinds := [], alts := [], laidByText := true, laidKinds := [.data], laidTests := true, laidLooks := .later }
def WireOneCardSaid : Prop := Claim7.holds Tryd.pinned (.plain (OpenSpec.ofChange wireOneSpec)) wireOneCard

/-- THE TIED CARD OF 'replicalaw07.WirePrefix'. -/
def wirePrefixCard : Claim7 := { stood := { row := wirePrefixRow, standIns := [], harness := (true, "28566cb8720ffb44a8cf22be5cb7755987612e1b792e1154c3f77f602c2839df"), looks := true }, kinds := [], alts := [], laidByText := true, laidKinds := [.data], laidTests := true, laidLooks := .later }
def WirePrefixCardSaid : Prop := Claim7.holds Tryd.pinned (.plain (OpenSpec.ofChange wirePrefixSpec)) wirePrefixCard

/-- THE TIED CARD OF 'replicalaw07.WirePlace'. -/
def wirePlaceCard : Claim7 := { stood := { row := wirePlaceRow, standIns := [], harness := (true, "28566cb8720ffb44a8cf22be5cb7755987612e1b792e1154c3f77f602c2839df"), looks := true }, kinds := [], alts := [], laidByText := true, laidKinds := [.data], laidTests := true, laidLooks := .later }
def WirePlaceCardSaid : Prop := Claim7.holds Tryd.pinned (.plain (OpenSpec.ofChange wirePlaceSpec)) wirePlaceCard

/-- THE TIED CARD OF 'replicalaw07.WireFrameBack'. -/
def wireFrameBackCard : Claim7 := { stood := { row := wireFrameBackRow, standIns := [], harness := (true, "28566cb8720ffb44a8cf22be5cb7755987612e1b792e1154c3f77f602c2839df"), looks := true }, kinds := [], alts := [], laidByText := true, laidKinds := [.data], laidTests := true, laidLooks := .later }
def WireFrameBackCardSaid : Prop := Claim7.holds Tryd.pinned (.plain (OpenSpec.ofChange wireFrameBackSpec)) wireFrameBackCard

/-- THE TIED CARD OF 'replicalaw07.WireFrameOne'. -/
def wireFrameOneCard : Claim7 := { stood := { row := wireFrameOneRow, standIns := [], harness := (true, "28566cb8720ffb44a8cf22be5cb7755987612e1b792e1154c3f77f602c2839df"), looks := true }, kinds := [], alts := [], laidByText := true, laidKinds := [.data], laidTests := true, laidLooks := .later }
def WireFrameOneCardSaid : Prop := Claim7.holds Tryd.pinned (.plain (OpenSpec.ofChange wireFrameOneSpec)) wireFrameOneCard

/-- THE TIED CARD OF 'replicalaw07.WireTells'. -/
def wireTellsCard : Claim7 := { stood := { row := wireTellsRow, standIns := [], harness := (true, "28566cb8720ffb44a8cf22be5cb7755987612e1b792e1154c3f77f602c2839df"), looks := true }, kinds := [], alts := [], laidByText := true, laidKinds := [.data], laidTests := true, laidLooks := .later }
def WireTellsCardSaid : Prop := Claim7.holds Tryd.pinned (.plain (OpenSpec.ofChange wireTellsSpec)) wireTellsCard

/-- THE TIED CARD OF 'replicalaw07.WireLists'. -/
def wireListsCard : Claim7 := { stood := { row := wireListsRow, standIns := [], harness := (true, "28566cb8720ffb44a8cf22be5cb7755987612e1b792e1154c3f77f602c2839df"), looks := true }, kinds := [], alts := [], laidByText := true, laidKinds := [.data], laidTests := true, laidLooks := .later }
def WireListsCardSaid : Prop := Claim7.holds Tryd.pinned (.plain (OpenSpec.ofChange wireListsSpec)) wireListsCard

/-- THE TIED CARD OF 'replicalaw07.WireCarry'. -/
def wireCarryCard : Claim7 := { stood := { row := wireCarryRow, standIns := [], harness := (true, "28566cb8720ffb44a8cf22be5cb7755987612e1b792e1154c3f77f602c2839df"), looks := true }, kinds := [], alts := [], laidByText := true, laidKinds := [.data, .data], laidTests := true, laidLooks := .later }
def WireCarryCardSaid : Prop := Claim7.holds Tryd.pinned (.plain (OpenSpec.ofChange wireCarrySpec)) wireCarryCard

/-- THE SECOND FORM's CARD OF 'replicalaw07.WireName'. -/
def wireNameUptoCard : Claim7 := { stood := { row := wireNameUptoRow, standIns := [], harness := (true, "28566cb8720ffb44a8cf22be5cb7755987612e1b792e1154c3f77f602c2839df"), looks := true }, kinds := [], alts := [], laidByText := true, laidKinds := [.data, .data], laidTests := true, laidLooks := .later }
def WireNameUptoCardSaid : Prop := Claim7.holds Tryd.pinned (.plain (OpenSpec.upto wireNameSpec)) wireNameUptoCard

/-- THE SECOND FORM's CARD OF 'replicalaw07.WirePacket'. -/
def wirePacketUptoCard : Claim7 := { stood := { row := wirePacketUptoRow, standIns := [], harness := (true, "28566cb8720ffb44a8cf22be5cb7755987612e1b792e1154c3f77f602c2839df"), looks := true }, kinds := [], alts := [], laidByText := true, laidKinds := [.data, .data, .data], laidTests := true, laidLooks := .later }
def WirePacketUptoCardSaid : Prop := Claim7.holds Tryd.pinned (.plain (OpenSpec.upto wirePacketSpec)) wirePacketUptoCard

/-- THE SECOND FORM's CARD OF 'replicalaw07.WireParse'. -/
def wireParseUptoCard : Claim7 := { stood := { row := wireParseUptoRow, standIns := [], harness := (true, "28566cb8720ffb44a8cf22be5cb7755987612e1b792e1154c3f77f602c2839df"), looks := true }, kinds := [], alts := [], laidByText := true, laidKinds := [.data, .data, .data], laidTests := true, laidLooks := .later }
def WireParseUptoCardSaid : Prop := Claim7.holds Tryd.pinned (.plain (OpenSpec.upto wireParseSpec)) wireParseUptoCard

/-- THE SECOND FORM's CARD OF 'replicalaw07.WireBack'. -/
def wireBackUptoCard : Claim7 := { stood := { row := wireBackUptoRow, standIns := [], harness := (true, "28566cb8720ffb44a8cf22be5cb7755987612e1b792e1154c3f77f602c2839df"), looks := true }, kinds := [], alts := [], laidByText := true, laidKinds := [.data], laidTests := true, laidLooks := .later }
def WireBackUptoCardSaid : Prop := Claim7.holds Tryd.pinned (.plain (OpenSpec.upto wireBackSpec)) wireBackUptoCard

/-- THE SECOND FORM's CARD OF 'replicalaw07.WireOne'. -/
def wireOneUptoCard : Claim7 := { stood := { row := wireOneUptoRow, standIns := [], harness := (true, "28566cb8720ffb44a8cf22be5cb7755987612e1b792e1154c3f77f602c2839df"), looks := true }, kinds := [], alts := [], laidByText := true, laidKinds := [.data], laidTests := true, laidLooks := .later }
def WireOneUptoCardSaid : Prop := Claim7.holds Tryd.pinned (.plain (OpenSpec.upto wireOneSpec)) wireOneUptoCard

/-- THE SECOND FORM's CARD OF 'replicalaw07.WirePrefix'. -/
def wirePrefixUptoCard : Claim7 := { stood := { row := wirePrefixUptoRow, standIns := [], harness := (true, "28566cb8720ffb44a8cf22be5cb7755987612e1b792e1154c3f77f602c2839df"), looks := true }, kinds := [], alts := [], laidByText := true, laidKinds := [.data], laidTests := true, laidLooks := .later }
def WirePrefixUptoCardSaid : Prop := Claim7.holds Tryd.pinned (.plain (OpenSpec.upto wirePrefixSpec)) wirePrefixUptoCard

/-- THE SECOND FORM's CARD OF 'replicalaw07.WirePlace'. -/
def wirePlaceUptoCard : Claim7 := { stood := { row := wirePlaceUptoRow, standIns := [], harness := (true, "28566cb8720ffb44a8cf22be5cb7755987612e1b792e1154c3f77f602c2839df"), looks := true }, kinds := [], alts := [], laidByText := true, laidKinds := [.data], laidTests := true, laidLooks := .later }
def WirePlaceUptoCardSaid : Prop := Claim7.holds Tryd.pinned (.plain (OpenSpec.upto wirePlaceSpec)) wirePlaceUptoCard

/-- THE SECOND FORM's CARD OF 'replicalaw07.WireFrameBack'. -/
def wireFrameBackUptoCard : Claim7 := { stood := { row := wireFrameBackUptoRow, standIns := [], harness := (true, "28566cb8720ffb44a8cf22be5cb7755987612e1b792e1154c3f77f602c2839df"), looks := true }, kinds := [], alts := [], laidByText := true, laidKinds := [.data], laidTests := true, laidLooks := .later }
def WireFrameBackUptoCardSaid : Prop := Claim7.holds Tryd.pinned (.plain (OpenSpec.upto wireFrameBackSpec)) wireFrameBackUptoCard

/-- THE SECOND FORM's CARD OF 'replicalaw07.WireFrameOne'. -/
def wireFrameOneUptoCard : Claim7 := { stood := { row := wireFrameOneUptoRow, standIns := [], harness := (true, "28566cb8720ffb44a8cf22be5cb7755987612e1b792e1154c3f77f602c2839df"), looks := true }, kinds := [], alts := [], laidByText := true, laidKinds := [.data], laidTests := true, laidLooks := .later }
def WireFrameOneUptoCardSaid : Prop := Claim7.holds Tryd.pinned (.plain (OpenSpec.upto wireFrameOneSpec)) wireFrameOneUptoCard

/-- THE SECOND FORM's CARD OF 'replicalaw07.WireTells'. -/
def wireTellsUptoCard : Claim7 := { stood := { row := wireTellsUptoRow, standIns := [], harness := (true, "28566cb8720ffb44a8cf22be5cb7755987612e1b792e1154c3f77f602c2839df"), looks := true }, kinds := [], alts := [], laidByText := true, laidKinds := [.data], laidTests := true, laidLooks := .later }
def WireTellsUptoCardSaid : Prop := Claim7.holds Tryd.pinned (.plain (OpenSpec.upto wireTellsSpec)) wireTellsUptoCard

/-- THE SECOND FORM's CARD OF 'replicalaw07.WireLists'. -/
def wireListsUptoCard : Claim7 := { stood := { row := wireListsUptoRow, standIns := [], harness := (true, "28566cb8720ffb44a8cf22be5cb7755987612e1b792e1154c3f77f602c2839df"), looks := true }, kinds := [], alts := [], laidByText := true, laidKinds := [.data], laidTests := true, laidLooks := .later }
def WireListsUptoCardSaid : Prop := Claim7.holds Tryd.pinned (.plain (OpenSpec.upto wireListsSpec)) wireListsUptoCard

/-- THE SECOND FORM's CARD OF 'replicalaw07.WireCarry'. -/
def wireCarryUptoCard : Claim7 := { stood := { row := wireCarryUptoRow, standIns := [], harness := (true, "28566cb8720ffb44a8cf22be5cb7755987612e1b792e1154c3f77f602c2839df"), looks := true }, kinds := [], alts := [], laidByText := true, laidKinds := [.data, .data], laidTests := true, laidLooks := .later }
def WireCarryUptoCardSaid : Prop := Claim7.holds Tryd.pinned (.plain (OpenSpec.upto wireCarrySpec)) wireCarryUptoCard
end Rows
end Go.Proofs.YtbgfoobcpacfeaaDoor
