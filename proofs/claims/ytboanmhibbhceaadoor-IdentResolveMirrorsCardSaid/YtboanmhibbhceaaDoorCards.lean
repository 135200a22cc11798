/-
  DERIVED. GIVEN WITH THE SEED: THE CARDS: each row of YtboanmhibbhceaaDoorRows.lean that lists a variable, with what it lists TIED to the program's text (the seventh form; the later family's looks); each row that meets fmt, with fmt's text TOLD by the authors' own Lean function (tested against real Go, not proved from fmt's source: count such statements apart). THE CARD IS WHAT COUNTS. Prove the row's statement (the work); the ties are given (YtboanmhibbhceaaDoorTie.lean); close each card by the builder's one call (the guide's Derived/Test/ToyasCard.lean, 'card_holds'). Laid BY PROGRAM, IN A SANDBOX (cutbox-door.mjs). By AI agents, Wed Nov 11 2026. No macro, syntax, notation, axiom, sorry.
-/
import Derived.Test.YtboanmhibbhceaaDoorRows
import GoSem.ClaimSeven
namespace Go.Proofs.YtboanmhibbhceaaDoor
namespace Rows

/-- THE TIED CARD OF 'replicalaw06.IdentSettles'. -/
def identSettlesCard : Claim7 := { stood := { row := identSettlesRow, standIns := [], harness := (true, "3962796939dbe3fbf62156f2ce1f1dae7f35d2bf3dac168972bdf1619e62005a"), looks := false }, kinds := [], alts := [], laidByText := true, laidKinds := [.data], laidTests := true, laidLooks := .later }
def IdentSettlesCardSaid : Prop := Claim7.holds Tryd.pinned (.plain (OpenSpec.ofChange identSettlesSpec)) identSettlesCard

/-- THE TIED CARD OF 'replicalaw06.IdentSettleMirrors'. -/
def identSettleMirrorsCard : Claim7 := { stood := { row := identSettleMirrorsRow, standIns := [], harness := (true, "3962796939dbe3fbf62156f2ce1f1dae7f35d2bf3dac168972bdf1619e62005a"), looks := false }, kinds := [], alts := [], laidByText := true, laidKinds := [.data], laidTests := true, laidLooks := .later }
def IdentSettleMirrorsCardSaid : Prop := Claim7.holds Tryd.pinned (.plain (OpenSpec.ofChange identSettleMirrorsSpec)) identSettleMirrorsCard

/-- THE TIED CARD OF 'replicalaw06.IdentResolveMirrors'. -/
def identResolveMirrorsCard : Claim7 := { stood := { row := identResolveMirrorsRow, standIns := [], harness := (true, "3962796939dbe3fbf62156f2ce1f1dae7f35d2bf3dac168972bdf1619e62005a"), looks := false }, kinds := [], alts := [], laidByText := true, laidKinds := [.data], laidTests := true, laidLooks := .later }
def IdentResolveMirrorsCardSaid : Prop := Claim7.holds Tryd.pinned (.plain (OpenSpec.ofChange identResolveMirrorsSpec)) identResolveMirrorsCard

/-- THE TIED CARD OF 'replicalaw06.IdentMirrors'. -/
def identMirrorsCard : Claim7 := { stood := { row := identMirrorsRow, standIns := [], harness := (true, "3962796939dbe3fbf62156f2ce1f1dae7f35d2bf3dac168972bdf1619e62005a"), looks := false }, kinds := [], alts := [], laidByText := true, laidKinds := [.data], laidTests := true, laidLooks := .later }
def IdentMirrorsCardSaid : Prop := Claim7.holds Tryd.pinned (.plain (OpenSpec.ofChange identMirrorsSpec)) identMirrorsCard

/-- THE SECOND FORM's CARD OF 'replicalaw06.IdentSettles'. -/
def identSettlesUptoCard : Claim7 := { stood := { row := identSettlesUptoRow, standIns := [], harness := (true, "3962796939dbe3fbf62156f2ce1f1dae7f35d2bf3dac168972bdf1619e62005a"), looks := false }, kinds := [], alts := [], laidByText := true, laidKinds := [.data], laidTests := true, laidLooks := .later }
def IdentSettlesUptoCardSaid : Prop := Claim7.holds Tryd.pinned (.plain (OpenSpec.upto identSettlesSpec)) identSettlesUptoCard

/-- THE SECOND FORM's CARD OF 'replicalaw06.IdentSettleMirrors'. -/
def identSettleMirrorsUptoCard : Claim7 := { stood := { row := identSettleMirrorsUptoRow, standIns := [], harness := (true, "3962796939dbe3fbf62156f2ce1f1dae7f35d2bf3dac168972bdf1619e62005a"), looks := false }, kinds := [], alts := [], laidByText := true, laidKinds := [.data], laidTests := true, laidLooks := .later }
def IdentSettleMirrorsUptoCardSaid : Prop := Claim7.holds Tryd.pinned (.plain (OpenSpec.upto identSettleMirrorsSpec)) identSettleMirrorsUptoCard

/-- THE SECOND FORM's CARD OF 'replicalaw06.IdentResolveMirrors'. -/
def identResolveMirrorsUptoCard : Claim7 := { stood := { row := identResolveMirrorsUptoRow, standIns := [], harness := (true, "3962796939dbe3fbf62156f2ce1f1dae7f35d2bf3dac168972bdf1619e62005a"), looks := false }, kinds := [], alts := [], laidByText := true, laidKinds := [.data], laidTests := true, laidLooks := .later }
def IdentResolveMirrorsUptoCardSaid : Prop := Claim7.holds Tryd.pinned (.plain (OpenSpec.upto identResolveMirrorsSpec)) identResolveMirrorsUptoCard

/-- THE SECOND FORM's CARD OF 'replicalaw06.IdentMirrors'. -/
def identMirrorsUptoCard : Claim7 := { stood := { row := identMirrorsUptoRow, standIns := [], harness := (true, "3962796939dbe3fbf62156f2ce1f1dae7f35d2bf3dac168972bdf1619e62005a"), looks := false }, kinds := [], alts := [], laidByText := true, laidKinds := [.data], laidTests := true, laidLooks := .later }
def IdentMirrorsUptoCardSaid : Prop := Claim7.holds Tryd.pinned (.plain (OpenSpec.upto identMirrorsSpec)) identMirrorsUptoCard
end Rows
end Go.Proofs.YtboanmhibbhceaaDoor
