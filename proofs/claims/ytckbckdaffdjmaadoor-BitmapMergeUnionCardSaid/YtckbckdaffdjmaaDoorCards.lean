/-
  DERIVED. GIVEN WITH THE SEED: THE CARDS: each row of YtckbckdaffdjmaaDoorRows.lean that lists a variable, with what it lists TIED to the program's text (the seventh form; the later family's looks); each row that meets fmt, with fmt's text TOLD by the authors' own Lean function (tested against real Go, not proved from fmt's source: count such statements apart). THE CARD IS WHAT COUNTS. Prove the row's statement (the work); the ties are given (YtckbckdaffdjmaaDoorTie.lean); close each card by the builder's one call (the guide's Derived/Test/ToyasCard.lean, 'card_holds'). Laid BY PROGRAM, IN A SANDBOX (cutbox-door.mjs). By AI agents, Wed Nov 11 2026. No macro, syntax, notation, axiom, sorry.
-/
import Derived.Test.YtckbckdaffdjmaaDoorRows
import GoSem.ClaimSeven
namespace Go.Proofs.YtckbckdaffdjmaaDoor
namespace Rows

/-- THE TIED CARD OF 'replicalaw03.BitmapNews'. -/
def bitmapNewsCard : Claim7 := { stood := { row := bitmapNewsRow, standIns := [], harness := (true, "308f2eec76a0a3582d4f6494b8fcb1426f078a8bd89653079d42da15635efeb2"), looks := false }, kinds := [], alts := [], laidByText := true, laidKinds := [.data], laidTests := true, laidLooks := .later }
def BitmapNewsCardSaid : Prop := Claim7.holds Tryd.pinned (.plain (OpenSpec.ofChange bitmapNewsSpec)) bitmapNewsCard

/-- THE TIED CARD OF 'replicalaw03.BitmapUnions'. -/
def bitmapUnionsCard : Claim7 := { stood := { row := bitmapUnionsRow, standIns := [], harness := (true, "308f2eec76a0a3582d4f6494b8fcb1426f078a8bd89653079d42da15635efeb2"), looks := false }, kinds := [], alts := [], laidByText := true, laidKinds := [.data], laidTests := true, laidLooks := .later }
def BitmapUnionsCardSaid : Prop := Claim7.holds Tryd.pinned (.plain (OpenSpec.ofChange bitmapUnionsSpec)) bitmapUnionsCard

/-- THE TIED CARD OF 'replicalaw03.BitmapTwoLevels'. -/
def bitmapTwoLevelsCard : Claim7 := { stood := { row := bitmapTwoLevelsRow, standIns := [], harness := (true, "308f2eec76a0a3582d4f6494b8fcb1426f078a8bd89653079d42da15635efeb2"), looks := false }, kinds := [], alts := [], laidByText := true, laidKinds := [.data], laidTests := true, laidLooks := .later }
def BitmapTwoLevelsCardSaid : Prop := Claim7.holds Tryd.pinned (.plain (OpenSpec.ofChange bitmapTwoLevelsSpec)) bitmapTwoLevelsCard

/-- THE TIED CARD OF 'replicalaw03.BitmapSets'. -/
def bitmapSetsCard : Claim7 := { stood := { row := bitmapSetsRow, standIns := [], harness := (true, "308f2eec76a0a3582d4f6494b8fcb1426f078a8bd89653079d42da15635efeb2"), looks := false }, kinds := [], alts := [], laidByText := true, laidKinds := [.data], laidTests := true, laidLooks := .later }
def BitmapSetsCardSaid : Prop := Claim7.holds Tryd.pinned (.plain (OpenSpec.ofChange bitmapSetsSpec)) bitmapSetsCard

/-- THE TIED CARD OF 'replicalaw03.BitmapAsks'. -/
def bitmapAsksCard : Claim7 := { stood := { row := bitmapAsksRow, standIns := [], harness := (true, "308f2eec76a0a3582d4f6494b8fcb1426f078a8bd89653079d42da15635efeb2"), looks := false }, kinds := [], alts := [], laidByText := true, laidKinds := [.data], laidTests := true, laidLooks := .later }
def BitmapAsksCardSaid : Prop := Claim7.holds Tryd.pinned (.plain (OpenSpec.ofChange bitmapAsksSpec)) bitmapAsksCard

/-- THE TIED CARD OF 'replicalaw03.BitmapExact'. -/
def bitmapExactCard : Claim7 := { stood := { row := bitmapExactRow, standIns := [], harness := (true, "308f2eec76a0a3582d4f6494b8fcb1426f078a8bd89653079d42da15635efeb2"), looks := false }, kinds := [], alts := [], laidByText := true, laidKinds := [.data], laidTests := true, laidLooks := .later }
def BitmapExactCardSaid : Prop := Claim7.holds Tryd.pinned (.plain (OpenSpec.ofChange bitmapExactSpec)) bitmapExactCard

/-- THE TIED CARD OF 'replicalaw03.BitmapRunsTile'. -/
def bitmapRunsTileCard : Claim7 := { stood := { row := bitmapRunsTileRow, standIns := [], harness := (true, "308f2eec76a0a3582d4f6494b8fcb1426f078a8bd89653079d42da15635efeb2"), looks := false }, kinds := [], alts := [], laidByText := true, laidKinds := [.data], laidTests := true, laidLooks := .later }
def BitmapRunsTileCardSaid : Prop := Claim7.holds Tryd.pinned (.plain (OpenSpec.ofChange bitmapRunsTileSpec)) bitmapRunsTileCard

/-- THE TIED CARD OF 'replicalaw03.BitmapWalks'. -/
def bitmapWalksCard : Claim7 := { stood := { row := bitmapWalksRow, standIns := [], harness := (true, "308f2eec76a0a3582d4f6494b8fcb1426f078a8bd89653079d42da15635efeb2"), looks := false }, kinds := [], alts := [], laidByText := true, laidKinds := [.data], laidTests := true, laidLooks := .later }
def BitmapWalksCardSaid : Prop := Claim7.holds Tryd.pinned (.plain (OpenSpec.ofChange bitmapWalksSpec)) bitmapWalksCard

/-- THE TIED CARD OF 'replicalaw03.BitmapMergeUnion'. -/
def bitmapMergeUnionCard : Claim7 := { stood := { row := bitmapMergeUnionRow, standIns := [], harness := (true, "308f2eec76a0a3582d4f6494b8fcb1426f078a8bd89653079d42da15635efeb2"), looks := false }, kinds := [], alts := [], laidByText := true, laidKinds := [.data], laidTests := true, laidLooks := .later }
def BitmapMergeUnionCardSaid : Prop := Claim7.holds Tryd.pinned (.plain (OpenSpec.ofChange bitmapMergeUnionSpec)) bitmapMergeUnionCard

/-- THE TIED CARD OF 'replicalaw03.BitmapRuns'. -/
def bitmapRunsCard : Claim7 := { stood := { row := bitmapRunsRow, standIns := [], harness := (true, "308f2eec76a0a3582d4f6494b8fcb1426f078a8bd89653079d42da15635efeb2"), looks := false }, kinds := [], alts := [], laidByText := true, laidKinds := [.data], laidTests := true, laidLooks := .later }
def BitmapRunsCardSaid : Prop := Claim7.holds Tryd.pinned (.plain (OpenSpec.ofChange bitmapRunsSpec)) bitmapRunsCard

/-- THE TIED CARD OF 'replicalaw03.BitmapCodes'. -/
def bitmapCodesCard : Claim7 := { stood := { row := bitmapCodesRow, standIns := [], harness := (true, "308f2eec76a0a3582d4f6494b8fcb1426f078a8bd89653079d42da15635efeb2"), looks := false }, kinds := [], alts := [], laidByText := true, laidKinds := [.data], laidTests := true, laidLooks := .later }
def BitmapCodesCardSaid : Prop := Claim7.holds Tryd.pinned (.plain (OpenSpec.ofChange bitmapCodesSpec)) bitmapCodesCard

/-- THE TIED CARD OF 'replicalaw03.BitmapCodeBack'. -/
def bitmapCodeBackCard : Claim7 := { stood := { row := bitmapCodeBackRow, standIns := [], harness := (true, "308f2eec76a0a3582d4f6494b8fcb1426f078a8bd89653079d42da15635efeb2"), looks := false }, kinds := [], alts := [], laidByText := true, laidKinds := [.data], laidTests := true, laidLooks := .later }
def BitmapCodeBackCardSaid : Prop := Claim7.holds Tryd.pinned (.plain (OpenSpec.ofChange bitmapCodeBackSpec)) bitmapCodeBackCard

/-- THE TIED CARD OF 'replicalaw03.BitmapCodeOnly'. -/
def bitmapCodeOnlyCard : Claim7 := { stood := { row := bitmapCodeOnlyRow, standIns := [], harness := (true, "308f2eec76a0a3582d4f6494b8fcb1426f078a8bd89653079d42da15635efeb2"), looks := false }, kinds := [], alts := [], laidByText := true, laidKinds := [.data], laidTests := true, laidLooks := .later }
def BitmapCodeOnlyCardSaid : Prop := Claim7.holds Tryd.pinned (.plain (OpenSpec.ofChange bitmapCodeOnlySpec)) bitmapCodeOnlyCard

/-- THE TIED CARD OF 'replicalaw03.BitmapCodePlace'. -/
def bitmapCodePlaceCard : Claim7 := { stood := { row := bitmapCodePlaceRow, standIns := [], harness := (true, "308f2eec76a0a3582d4f6494b8fcb1426f078a8bd89653079d42da15635efeb2"), looks := false }, kinds := [], alts := [], laidByText := true, laidKinds := [.data], laidTests := true, laidLooks := .later }
def BitmapCodePlaceCardSaid : Prop := Claim7.holds Tryd.pinned (.plain (OpenSpec.ofChange bitmapCodePlaceSpec)) bitmapCodePlaceCard

/-- THE SECOND FORM's CARD OF 'replicalaw03.BitmapNews'. -/
def bitmapNewsUptoCard : Claim7 := { stood := { row := bitmapNewsUptoRow, standIns := [], harness := (true, "308f2eec76a0a3582d4f6494b8fcb1426f078a8bd89653079d42da15635efeb2"), looks := false }, kinds := [], alts := [], laidByText := true, laidKinds := [.data], laidTests := true, laidLooks := .later }
def BitmapNewsUptoCardSaid : Prop := Claim7.holds Tryd.pinned (.plain (OpenSpec.upto bitmapNewsSpec)) bitmapNewsUptoCard

/-- THE SECOND FORM's CARD OF 'replicalaw03.BitmapUnions'. -/
def bitmapUnionsUptoCard : Claim7 := { stood := { row := bitmapUnionsUptoRow, standIns := [], harness := (true, "308f2eec76a0a3582d4f6494b8fcb1426f078a8bd89653079d42da15635efeb2"), looks := false }, kinds := [], alts := [], laidByText := true, laidKinds := [.data], laidTests := true, laidLooks := .later }
def BitmapUnionsUptoCardSaid : Prop := Claim7.holds Tryd.pinned (.plain (OpenSpec.upto bitmapUnionsSpec)) bitmapUnionsUptoCard

/-- THE SECOND FORM's CARD OF 'replicalaw03.BitmapTwoLevels'. -/
def bitmapTwoLevelsUptoCard : Claim7 := { stood := { row := bitmapTwoLevelsUptoRow, standIns := [], harness := (true, "308f2eec76a0a3582d4f6494b8fcb1426f078a8bd89653079d42da15635efeb2"), looks := false }, kinds := [], alts := [], laidByText := true, laidKinds := [.data], laidTests := true, laidLooks := .later }
def BitmapTwoLevelsUptoCardSaid : Prop := Claim7.holds Tryd.pinned (.plain (OpenSpec.upto bitmapTwoLevelsSpec)) bitmapTwoLevelsUptoCard

/-- THE SECOND FORM's CARD OF 'replicalaw03.BitmapSets'. -/
def bitmapSetsUptoCard : Claim7 := { stood := { row := bitmapSetsUptoRow, standIns := [], harness := (true, "308f2eec76a0a3582d4f6494b8fcb1426f078a8bd89653079d42da15635efeb2"), looks := false }, kinds := [], alts := [], laidByText := true, laidKinds := [.data], laidTests := true, laidLooks := .later }
def BitmapSetsUptoCardSaid : Prop := Claim7.holds Tryd.pinned (.plain (OpenSpec.upto bitmapSetsSpec)) bitmapSetsUptoCard

/-- THE SECOND FORM's CARD OF 'replicalaw03.BitmapAsks'. -/
def bitmapAsksUptoCard : Claim7 := { stood := { row := bitmapAsksUptoRow, standIns := [], harness := (true, "308f2eec76a0a3582d4f6494b8fcb1426f078a8bd89653079d42da15635efeb2"), looks := false }, kinds := [], alts := [], laidByText := true, laidKinds := [.data], laidTests := true, laidLooks := .later }
def BitmapAsksUptoCardSaid : Prop := Claim7.holds Tryd.pinned (.plain (OpenSpec.upto bitmapAsksSpec)) bitmapAsksUptoCard

/-- THE SECOND FORM's CARD OF 'replicalaw03.BitmapExact'. -/
def bitmapExactUptoCard : Claim7 := { stood := { row := bitmapExactUptoRow, standIns := [], harness := (true, "308f2eec76a0a3582d4f6494b8fcb1426f078a8bd89653079d42da15635efeb2"), looks := false }, kinds := [], alts := [], laidByText := true, laidKinds := [.data], laidTests := true, laidLooks := .later }
def BitmapExactUptoCardSaid : Prop := Claim7.holds Tryd.pinned (.plain (OpenSpec.upto bitmapExactSpec)) bitmapExactUptoCard

/-- THE SECOND FORM's CARD OF 'replicalaw03.BitmapRunsTile'. -/
def bitmapRunsTileUptoCard : Claim7 := { stood := { row := bitmapRunsTileUptoRow, standIns := [], harness := (true, "308f2eec76a0a3582d4f6494b8fcb1426f078a8bd89653079d42da15635efeb2"), looks := false }, kinds := [], alts := [], laidByText := true, laidKinds := [.data], laidTests := true, laidLooks := .later }
def BitmapRunsTileUptoCardSaid : Prop := Claim7.holds Tryd.pinned (.plain (OpenSpec.upto bitmapRunsTileSpec)) bitmapRunsTileUptoCard

/-- THE SECOND FORM's CARD OF 'replicalaw03.BitmapWalks'. -/
def bitmapWalksUptoCard : Claim7 := { stood := { row := bitmapWalksUptoRow, standIns := [], harness := (true, "308f2eec76a0a3582d4f6494b8fcb1426f078a8bd89653079d42da15635efeb2"), looks := false }, kinds := [], alts := [], laidByText := true, laidKinds := [.data], laidTests := true, laidLooks := .later }
def BitmapWalksUptoCardSaid : Prop := Claim7.holds Tryd.pinned (.plain (OpenSpec.upto bitmapWalksSpec)) bitmapWalksUptoCard

/-- THE SECOND FORM's CARD OF 'replicalaw03.BitmapMergeUnion'. -/
def bitmapMergeUnionUptoCard : Claim7 := { stood := { row := bitmapMergeUnionUptoRow, standIns := [], harness := (true, "308f2eec76a0a3582d4f6494b8fcb1426f078a8bd89653079d42da15635efeb2"), looks := false }, kinds := [], alts := [], laidByText := true, laidKinds := [.data], laidTests := true, laidLooks := .later }
def BitmapMergeUnionUptoCardSaid : Prop := Claim7.holds Tryd.pinned (.plain (OpenSpec.upto bitmapMergeUnionSpec)) bitmapMergeUnionUptoCard

/-- THE SECOND FORM's CARD OF 'replicalaw03.BitmapRuns'. -/
def bitmapRunsUptoCard : Claim7 := { stood := { row := bitmapRunsUptoRow, standIns := [], harness := (true, "308f2eec76a0a3582d4f6494b8fcb1426f078a8bd89653079d42da15635efeb2"), looks := false }, kinds := [], alts := [], laidByText := true, laidKinds := [.data], laidTests := true, laidLooks := .later }
def BitmapRunsUptoCardSaid : Prop := Claim7.holds Tryd.pinned (.plain (OpenSpec.upto bitmapRunsSpec)) bitmapRunsUptoCard

/-- THE SECOND FORM's CARD OF 'replicalaw03.BitmapCodes'. -/
def bitmapCodesUptoCard : Claim7 := { stood := { row := bitmapCodesUptoRow, standIns := [], harness := (true, "308f2eec76a0a3582d4f6494b8fcb1426f078a8bd89653079d42da15635efeb2"), looks := false }, kinds := [], alts := [], laidByText := true, laidKinds := [.data], laidTests := true, laidLooks := .later }
def BitmapCodesUptoCardSaid : Prop := Claim7.holds Tryd.pinned (.plain (OpenSpec.upto bitmapCodesSpec)) bitmapCodesUptoCard

/-- THE SECOND FORM's CARD OF 'replicalaw03.BitmapCodeBack'. -/
def bitmapCodeBackUptoCard : Claim7 := { stood := { row := bitmapCodeBackUptoRow, standIns := [], harness := (true, "308f2eec76a0a3582d4f6494b8fcb1426f078a8bd89653079d42da15635efeb2"), looks := false }, kinds := [], alts := [], laidByText := true, laidKinds := [.data], laidTests := true, laidLooks := .later }
def BitmapCodeBackUptoCardSaid : Prop := Claim7.holds Tryd.pinned (.plain (OpenSpec.upto bitmapCodeBackSpec)) bitmapCodeBackUptoCard

/-- THE SECOND FORM's CARD OF 'replicalaw03.BitmapCodeOnly'. -/
def bitmapCodeOnlyUptoCard : Claim7 := { stood := { row := bitmapCodeOnlyUptoRow, standIns := [], harness := (true, "308f2eec76a0a3582d4f6494b8fcb1426f078a8bd89653079d42da15635efeb2"), looks := false }, kinds := [], alts := [], laidByText := true, laidKinds := [.data], laidTests := true, laidLooks := .later }
def BitmapCodeOnlyUptoCardSaid : Prop := Claim7.holds Tryd.pinned (.plain (OpenSpec.upto bitmapCodeOnlySpec)) bitmapCodeOnlyUptoCard

/-- THE SECOND FORM's CARD OF 'replicalaw03.BitmapCodePlace'. -/
def bitmapCodePlaceUptoCard : Claim7 := { stood := { row := bitmapCodePlaceUptoRow, standIns := [], harness := (true, "308f2eec76a0a3582d4f6494b8fcb1426f078a8bd89653079d42da15635efeb2"), looks := false }, kinds := [], alts := [], laidByText := true, laidKinds := [.data], laidTests := true, laidLooks := .later }
def BitmapCodePlaceUptoCardSaid : Prop := Claim7.holds Tryd.pinned (.plain (OpenSpec.upto bitmapCodePlaceSpec)) bitmapCodePlaceUptoCard
end Rows
end Go.Proofs.YtckbckdaffdjmaaDoor
