/-
  NARROWER THAN 'FOR EVERY INPUT', by the rows' own cells (each row's printed sentence says how): BitmapNews: laid · BitmapUnions: laid · BitmapTwoLevels: laid · BitmapSets: laid · BitmapAsks: laid · BitmapExact: laid · BitmapRunsTile: laid · BitmapWalks: laid · BitmapMergeUnion: laid · BitmapRuns: laid · BitmapCodes: laid · BitmapCodeBack: laid · BitmapCodeOnly: laid · BitmapCodePlace: laid.
  DERIVED. THE GIVEN ROWS OF THIS SEAT. 14 by the template 'for every input the law returns true; each argument reads behind the call as it read before'; 0 by the template 'total and deterministic' (their statements: YtckbckdaffdjmaaDoorTotals.lean).
  GIVEN WITH THE SEED: the statements are not yours to turn. If you find one false, say at which input.
  Laid BY PROGRAM, IN A SANDBOX (cutbox-rows.mjs): the forced cells as the released guide's own fill.sh prints them over the translation f58d01f92eed9236… (all of the seat's roots in one cut). By AI agents, Wed Nov 11 2026. No macro, syntax, notation, axiom, sorry.
-/
import Derived.Test.YtckbckdaffdjmaaDoorChecked
import GoSem.Claim
import GoSem.ClaimJoined
import GoSem.ClaimMapViews
import Derived.JoinedTies
import Derived.KernelRfl
namespace Go.Proofs.YtckbckdaffdjmaaDoor
/- THE CELL 'sum', in the pinned program and in every row, IS THE sha256 OF THE DUMP (.gsa) THAT YtckbckdaffdjmaaDoorProg.lean LOADS. Nothing in Lean hashes anything: it is a label: what it is worth is what the hold of that sum in a sandbox is worth. -/
noncomputable def Tryd.pinned : Pinned := { name := "ytckbckdaffdjmaadoor", sum := "f58d01f92eed92365d7c30040be34962aab32b13d22ad1782a7a10e7cb06a40d", checked := Tryd.checked }
namespace Rows
def none {H : Type} : Left H := { results := [], args := [] }

/- WHAT THE LISTED PACKAGE-LEVEL VARIABLES READ AS WHEN THE CALL BEGINS. Each datum BY PROGRAM (the guide's laid-datum.mjs) off the statement by which the dump's own 'gosem.cut.vars' lays the variable. In a bare row this is a premise. The card (YtckbckdaffdjmaaDoorCards.lean) ties it to the program's text. -/
def laid_math_bits_deBruijn64tab {H : Type} : DataW H := .agg [.lit (.int .u8 0), .lit (.int .u8 1), .lit (.int .u8 56), .lit (.int .u8 2), .lit (.int .u8 57), .lit (.int .u8 49), .lit (.int .u8 28), .lit (.int .u8 3), .lit (.int .u8 61), .lit (.int .u8 58), .lit (.int .u8 42), .lit (.int .u8 50), .lit (.int .u8 38), .lit (.int .u8 29), .lit (.int .u8 17), .lit (.int .u8 4), .lit (.int .u8 62), .lit (.int .u8 47), .lit (.int .u8 59), .lit (.int .u8 36), .lit (.int .u8 45), .lit (.int .u8 43), .lit (.int .u8 51), .lit (.int .u8 22), .lit (.int .u8 53), .lit (.int .u8 39), .lit (.int .u8 33), .lit (.int .u8 30), .lit (.int .u8 24), .lit (.int .u8 18), .lit (.int .u8 12), .lit (.int .u8 5), .lit (.int .u8 63), .lit (.int .u8 55), .lit (.int .u8 48), .lit (.int .u8 27), .lit (.int .u8 60), .lit (.int .u8 41), .lit (.int .u8 37), .lit (.int .u8 16), .lit (.int .u8 46), .lit (.int .u8 35), .lit (.int .u8 44), .lit (.int .u8 21), .lit (.int .u8 52), .lit (.int .u8 32), .lit (.int .u8 23), .lit (.int .u8 11), .lit (.int .u8 54), .lit (.int .u8 26), .lit (.int .u8 40), .lit (.int .u8 15), .lit (.int .u8 34), .lit (.int .u8 20), .lit (.int .u8 31), .lit (.int .u8 10), .lit (.int .u8 25), .lit (.int .u8 14), .lit (.int .u8 19), .lit (.int .u8 9), .lit (.int .u8 13), .lit (.int .u8 8), .lit (.int .u8 7), .lit (.int .u8 6)]

/-- 'replicalaw03.BitmapNews': WHATEVER THE INPUT: true; the input reads as it did. -/
def bitmapNewsSpec : ChangeSpec := { name := "bitmapNews", fn := fun _ => fun
  | [d] => { results := [.lit (.bool true)], args := [d] }
  | _ => none }
def bitmapNewsRow : OpenClaim := { program := "ytckbckdaffdjmaadoor", sum := "f58d01f92eed92365d7c30040be34962aab32b13d22ad1782a7a10e7cb06a40d", func := "replica/replicalaw03.BitmapNews", spec := "bitmapNews", unfollowed := true, recurses := true, named := ["math/bits.deBruijn64tab"], apart := false, laid := [("math/bits.deBruijn64tab", laid_math_bits_deBruijn64tab)] }
def BitmapNewsSaid : Prop := bitmapNewsRow.holds Tryd.pinned (OpenSpec.ofChange bitmapNewsSpec)

/-- ITS FALSE NEIGHBOUR: 'it returns false'. Refute it at one input. -/
def bitmapNewsWrong : ChangeSpec := { name := "bitmapNews", fn := fun _ => fun
  | [d] => { results := [.lit (.bool false)], args := [d] }
  | _ => none }
def BitmapNewsWrongFalsely : Prop := bitmapNewsRow.holds Tryd.pinned (OpenSpec.ofChange bitmapNewsWrong)

/-- 'replicalaw03.BitmapUnions': WHATEVER THE INPUT: true; the input reads as it did. -/
def bitmapUnionsSpec : ChangeSpec := { name := "bitmapUnions", fn := fun _ => fun
  | [d1, d2] => { results := [.lit (.bool true)], args := [d1, d2] }
  | _ => none }
def bitmapUnionsRow : OpenClaim := { program := "ytckbckdaffdjmaadoor", sum := "f58d01f92eed92365d7c30040be34962aab32b13d22ad1782a7a10e7cb06a40d", func := "replica/replicalaw03.BitmapUnions", spec := "bitmapUnions", unfollowed := true, recurses := true, named := ["math/bits.deBruijn64tab"], apart := false, laid := [("math/bits.deBruijn64tab", laid_math_bits_deBruijn64tab)] }
def BitmapUnionsSaid : Prop := bitmapUnionsRow.holds Tryd.pinned (OpenSpec.ofChange bitmapUnionsSpec)

/-- ITS FALSE NEIGHBOUR: 'it returns false'. Refute it at one input. -/
def bitmapUnionsWrong : ChangeSpec := { name := "bitmapUnions", fn := fun _ => fun
  | [d1, d2] => { results := [.lit (.bool false)], args := [d1, d2] }
  | _ => none }
def BitmapUnionsWrongFalsely : Prop := bitmapUnionsRow.holds Tryd.pinned (OpenSpec.ofChange bitmapUnionsWrong)

/-- 'replicalaw03.BitmapTwoLevels': WHATEVER THE INPUT: true; the input reads as it did. -/
def bitmapTwoLevelsSpec : ChangeSpec := { name := "bitmapTwoLevels", fn := fun _ => fun
  | [d1, d2, d3, d4, d5] => { results := [.lit (.bool true)], args := [d1, d2, d3, d4, d5] }
  | _ => none }
def bitmapTwoLevelsRow : OpenClaim := { program := "ytckbckdaffdjmaadoor", sum := "f58d01f92eed92365d7c30040be34962aab32b13d22ad1782a7a10e7cb06a40d", func := "replica/replicalaw03.BitmapTwoLevels", spec := "bitmapTwoLevels", unfollowed := true, recurses := true, named := ["math/bits.deBruijn64tab"], apart := false, laid := [("math/bits.deBruijn64tab", laid_math_bits_deBruijn64tab)] }
def BitmapTwoLevelsSaid : Prop := bitmapTwoLevelsRow.holds Tryd.pinned (OpenSpec.ofChange bitmapTwoLevelsSpec)

/-- ITS FALSE NEIGHBOUR: 'it returns false'. Refute it at one input. -/
def bitmapTwoLevelsWrong : ChangeSpec := { name := "bitmapTwoLevels", fn := fun _ => fun
  | [d1, d2, d3, d4, d5] => { results := [.lit (.bool false)], args := [d1, d2, d3, d4, d5] }
  | _ => none }
def BitmapTwoLevelsWrongFalsely : Prop := bitmapTwoLevelsRow.holds Tryd.pinned (OpenSpec.ofChange bitmapTwoLevelsWrong)

/-- 'replicalaw03.BitmapSets': WHATEVER THE INPUT: true; the input reads as it did. -/
def bitmapSetsSpec : ChangeSpec := { name := "bitmapSets", fn := fun _ => fun
  | [d1, d2, d3] => { results := [.lit (.bool true)], args := [d1, d2, d3] }
  | _ => none }
def bitmapSetsRow : OpenClaim := { program := "ytckbckdaffdjmaadoor", sum := "f58d01f92eed92365d7c30040be34962aab32b13d22ad1782a7a10e7cb06a40d", func := "replica/replicalaw03.BitmapSets", spec := "bitmapSets", unfollowed := true, recurses := true, named := ["math/bits.deBruijn64tab"], apart := false, laid := [("math/bits.deBruijn64tab", laid_math_bits_deBruijn64tab)] }
def BitmapSetsSaid : Prop := bitmapSetsRow.holds Tryd.pinned (OpenSpec.ofChange bitmapSetsSpec)

/-- ITS FALSE NEIGHBOUR: 'it returns false'. Refute it at one input. -/
def bitmapSetsWrong : ChangeSpec := { name := "bitmapSets", fn := fun _ => fun
  | [d1, d2, d3] => { results := [.lit (.bool false)], args := [d1, d2, d3] }
  | _ => none }
def BitmapSetsWrongFalsely : Prop := bitmapSetsRow.holds Tryd.pinned (OpenSpec.ofChange bitmapSetsWrong)

/-- 'replicalaw03.BitmapAsks': WHATEVER THE INPUT: true; the input reads as it did. -/
def bitmapAsksSpec : ChangeSpec := { name := "bitmapAsks", fn := fun _ => fun
  | [d1, d2, d3] => { results := [.lit (.bool true)], args := [d1, d2, d3] }
  | _ => none }
def bitmapAsksRow : OpenClaim := { program := "ytckbckdaffdjmaadoor", sum := "f58d01f92eed92365d7c30040be34962aab32b13d22ad1782a7a10e7cb06a40d", func := "replica/replicalaw03.BitmapAsks", spec := "bitmapAsks", unfollowed := true, recurses := true, named := ["math/bits.deBruijn64tab"], apart := false, laid := [("math/bits.deBruijn64tab", laid_math_bits_deBruijn64tab)] }
def BitmapAsksSaid : Prop := bitmapAsksRow.holds Tryd.pinned (OpenSpec.ofChange bitmapAsksSpec)

/-- ITS FALSE NEIGHBOUR: 'it returns false'. Refute it at one input. -/
def bitmapAsksWrong : ChangeSpec := { name := "bitmapAsks", fn := fun _ => fun
  | [d1, d2, d3] => { results := [.lit (.bool false)], args := [d1, d2, d3] }
  | _ => none }
def BitmapAsksWrongFalsely : Prop := bitmapAsksRow.holds Tryd.pinned (OpenSpec.ofChange bitmapAsksWrong)

/-- 'replicalaw03.BitmapExact': WHATEVER THE INPUT: true; the input reads as it did. -/
def bitmapExactSpec : ChangeSpec := { name := "bitmapExact", fn := fun _ => fun
  | [d1, d2, d3] => { results := [.lit (.bool true)], args := [d1, d2, d3] }
  | _ => none }
def bitmapExactRow : OpenClaim := { program := "ytckbckdaffdjmaadoor", sum := "f58d01f92eed92365d7c30040be34962aab32b13d22ad1782a7a10e7cb06a40d", func := "replica/replicalaw03.BitmapExact", spec := "bitmapExact", unfollowed := true, recurses := true, named := ["math/bits.deBruijn64tab"], apart := false, laid := [("math/bits.deBruijn64tab", laid_math_bits_deBruijn64tab)] }
def BitmapExactSaid : Prop := bitmapExactRow.holds Tryd.pinned (OpenSpec.ofChange bitmapExactSpec)

/-- ITS FALSE NEIGHBOUR: 'it returns false'. Refute it at one input. -/
def bitmapExactWrong : ChangeSpec := { name := "bitmapExact", fn := fun _ => fun
  | [d1, d2, d3] => { results := [.lit (.bool false)], args := [d1, d2, d3] }
  | _ => none }
def BitmapExactWrongFalsely : Prop := bitmapExactRow.holds Tryd.pinned (OpenSpec.ofChange bitmapExactWrong)

/-- 'replicalaw03.BitmapRunsTile': WHATEVER THE INPUT: true; the input reads as it did. -/
def bitmapRunsTileSpec : ChangeSpec := { name := "bitmapRunsTile", fn := fun _ => fun
  | [d1, d2, d3] => { results := [.lit (.bool true)], args := [d1, d2, d3] }
  | _ => none }
def bitmapRunsTileRow : OpenClaim := { program := "ytckbckdaffdjmaadoor", sum := "f58d01f92eed92365d7c30040be34962aab32b13d22ad1782a7a10e7cb06a40d", func := "replica/replicalaw03.BitmapRunsTile", spec := "bitmapRunsTile", unfollowed := true, recurses := true, named := ["math/bits.deBruijn64tab"], apart := false, laid := [("math/bits.deBruijn64tab", laid_math_bits_deBruijn64tab)] }
def BitmapRunsTileSaid : Prop := bitmapRunsTileRow.holds Tryd.pinned (OpenSpec.ofChange bitmapRunsTileSpec)

/-- ITS FALSE NEIGHBOUR: 'it returns false'. Refute it at one input. -/
def bitmapRunsTileWrong : ChangeSpec := { name := "bitmapRunsTile", fn := fun _ => fun
  | [d1, d2, d3] => { results := [.lit (.bool false)], args := [d1, d2, d3] }
  | _ => none }
def BitmapRunsTileWrongFalsely : Prop := bitmapRunsTileRow.holds Tryd.pinned (OpenSpec.ofChange bitmapRunsTileWrong)

/-- 'replicalaw03.BitmapWalks': WHATEVER THE INPUT: true; the input reads as it did. -/
def bitmapWalksSpec : ChangeSpec := { name := "bitmapWalks", fn := fun _ => fun
  | [d1, d2] => { results := [.lit (.bool true)], args := [d1, d2] }
  | _ => none }
def bitmapWalksRow : OpenClaim := { program := "ytckbckdaffdjmaadoor", sum := "f58d01f92eed92365d7c30040be34962aab32b13d22ad1782a7a10e7cb06a40d", func := "replica/replicalaw03.BitmapWalks", spec := "bitmapWalks", unfollowed := true, recurses := true, named := ["math/bits.deBruijn64tab"], apart := false, laid := [("math/bits.deBruijn64tab", laid_math_bits_deBruijn64tab)] }
def BitmapWalksSaid : Prop := bitmapWalksRow.holds Tryd.pinned (OpenSpec.ofChange bitmapWalksSpec)

/-- ITS FALSE NEIGHBOUR: 'it returns false'. Refute it at one input. -/
def bitmapWalksWrong : ChangeSpec := { name := "bitmapWalks", fn := fun _ => fun
  | [d1, d2] => { results := [.lit (.bool false)], args := [d1, d2] }
  | _ => none }
def BitmapWalksWrongFalsely : Prop := bitmapWalksRow.holds Tryd.pinned (OpenSpec.ofChange bitmapWalksWrong)

/-- 'replicalaw03.BitmapMergeUnion': WHATEVER THE INPUT: true; the input reads as it did. -/
def bitmapMergeUnionSpec : ChangeSpec := { name := "bitmapMergeUnion", fn := fun _ => fun
  | [d1, d2, d3] => { results := [.lit (.bool true)], args := [d1, d2, d3] }
  | _ => none }
def bitmapMergeUnionRow : OpenClaim := { program := "ytckbckdaffdjmaadoor", sum := "f58d01f92eed92365d7c30040be34962aab32b13d22ad1782a7a10e7cb06a40d", func := "replica/replicalaw03.BitmapMergeUnion", spec := "bitmapMergeUnion", unfollowed := true, recurses := true, named := ["math/bits.deBruijn64tab"], apart := false, laid := [("math/bits.deBruijn64tab", laid_math_bits_deBruijn64tab)] }
def BitmapMergeUnionSaid : Prop := bitmapMergeUnionRow.holds Tryd.pinned (OpenSpec.ofChange bitmapMergeUnionSpec)

/-- ITS FALSE NEIGHBOUR: 'it returns false'. Refute it at one input. -/
def bitmapMergeUnionWrong : ChangeSpec := { name := "bitmapMergeUnion", fn := fun _ => fun
  | [d1, d2, d3] => { results := [.lit (.bool false)], args := [d1, d2, d3] }
  | _ => none }
def BitmapMergeUnionWrongFalsely : Prop := bitmapMergeUnionRow.holds Tryd.pinned (OpenSpec.ofChange bitmapMergeUnionWrong)

/-- 'replicalaw03.BitmapRuns': WHATEVER THE INPUT: true; the input reads as it did. -/
def bitmapRunsSpec : ChangeSpec := { name := "bitmapRuns", fn := fun _ => fun
  | [d1, d2] => { results := [.lit (.bool true)], args := [d1, d2] }
  | _ => none }
def bitmapRunsRow : OpenClaim := { program := "ytckbckdaffdjmaadoor", sum := "f58d01f92eed92365d7c30040be34962aab32b13d22ad1782a7a10e7cb06a40d", func := "replica/replicalaw03.BitmapRuns", spec := "bitmapRuns", unfollowed := true, recurses := true, named := ["math/bits.deBruijn64tab"], apart := false, laid := [("math/bits.deBruijn64tab", laid_math_bits_deBruijn64tab)] }
def BitmapRunsSaid : Prop := bitmapRunsRow.holds Tryd.pinned (OpenSpec.ofChange bitmapRunsSpec)

/-- ITS FALSE NEIGHBOUR: 'it returns false'. Refute it at one input. -/
def bitmapRunsWrong : ChangeSpec := { name := "bitmapRuns", fn := fun _ => fun
  | [d1, d2] => { results := [.lit (.bool false)], args := [d1, d2] }
  | _ => none }
def BitmapRunsWrongFalsely : Prop := bitmapRunsRow.holds Tryd.pinned (OpenSpec.ofChange bitmapRunsWrong)

/-- 'replicalaw03.BitmapCodes': WHATEVER THE INPUT: true; the input reads as it did. -/
def bitmapCodesSpec : ChangeSpec := { name := "bitmapCodes", fn := fun _ => fun
  | [d] => { results := [.lit (.bool true)], args := [d] }
  | _ => none }
def bitmapCodesRow : OpenClaim := { program := "ytckbckdaffdjmaadoor", sum := "f58d01f92eed92365d7c30040be34962aab32b13d22ad1782a7a10e7cb06a40d", func := "replica/replicalaw03.BitmapCodes", spec := "bitmapCodes", unfollowed := true, recurses := true, named := ["math/bits.deBruijn64tab"], apart := false, laid := [("math/bits.deBruijn64tab", laid_math_bits_deBruijn64tab)] }
def BitmapCodesSaid : Prop := bitmapCodesRow.holds Tryd.pinned (OpenSpec.ofChange bitmapCodesSpec)

/-- ITS FALSE NEIGHBOUR: 'it returns false'. Refute it at one input. -/
def bitmapCodesWrong : ChangeSpec := { name := "bitmapCodes", fn := fun _ => fun
  | [d] => { results := [.lit (.bool false)], args := [d] }
  | _ => none }
def BitmapCodesWrongFalsely : Prop := bitmapCodesRow.holds Tryd.pinned (OpenSpec.ofChange bitmapCodesWrong)

/-- 'replicalaw03.BitmapCodeBack': WHATEVER THE INPUT: true; the input reads as it did. -/
def bitmapCodeBackSpec : ChangeSpec := { name := "bitmapCodeBack", fn := fun _ => fun
  | [d1, d2] => { results := [.lit (.bool true)], args := [d1, d2] }
  | _ => none }
def bitmapCodeBackRow : OpenClaim := { program := "ytckbckdaffdjmaadoor", sum := "f58d01f92eed92365d7c30040be34962aab32b13d22ad1782a7a10e7cb06a40d", func := "replica/replicalaw03.BitmapCodeBack", spec := "bitmapCodeBack", unfollowed := true, recurses := true, named := ["math/bits.deBruijn64tab"], apart := false, laid := [("math/bits.deBruijn64tab", laid_math_bits_deBruijn64tab)] }
def BitmapCodeBackSaid : Prop := bitmapCodeBackRow.holds Tryd.pinned (OpenSpec.ofChange bitmapCodeBackSpec)

/-- ITS FALSE NEIGHBOUR: 'it returns false'. Refute it at one input. -/
def bitmapCodeBackWrong : ChangeSpec := { name := "bitmapCodeBack", fn := fun _ => fun
  | [d1, d2] => { results := [.lit (.bool false)], args := [d1, d2] }
  | _ => none }
def BitmapCodeBackWrongFalsely : Prop := bitmapCodeBackRow.holds Tryd.pinned (OpenSpec.ofChange bitmapCodeBackWrong)

/-- 'replicalaw03.BitmapCodeOnly': WHATEVER THE INPUT: true; the input reads as it did. -/
def bitmapCodeOnlySpec : ChangeSpec := { name := "bitmapCodeOnly", fn := fun _ => fun
  | [d1, d2, d3] => { results := [.lit (.bool true)], args := [d1, d2, d3] }
  | _ => none }
def bitmapCodeOnlyRow : OpenClaim := { program := "ytckbckdaffdjmaadoor", sum := "f58d01f92eed92365d7c30040be34962aab32b13d22ad1782a7a10e7cb06a40d", func := "replica/replicalaw03.BitmapCodeOnly", spec := "bitmapCodeOnly", unfollowed := true, recurses := true, named := ["math/bits.deBruijn64tab"], apart := false, laid := [("math/bits.deBruijn64tab", laid_math_bits_deBruijn64tab)] }
def BitmapCodeOnlySaid : Prop := bitmapCodeOnlyRow.holds Tryd.pinned (OpenSpec.ofChange bitmapCodeOnlySpec)

/-- ITS FALSE NEIGHBOUR: 'it returns false'. Refute it at one input. -/
def bitmapCodeOnlyWrong : ChangeSpec := { name := "bitmapCodeOnly", fn := fun _ => fun
  | [d1, d2, d3] => { results := [.lit (.bool false)], args := [d1, d2, d3] }
  | _ => none }
def BitmapCodeOnlyWrongFalsely : Prop := bitmapCodeOnlyRow.holds Tryd.pinned (OpenSpec.ofChange bitmapCodeOnlyWrong)

/-- 'replicalaw03.BitmapCodePlace': WHATEVER THE INPUT: true; the input reads as it did. -/
def bitmapCodePlaceSpec : ChangeSpec := { name := "bitmapCodePlace", fn := fun _ => fun
  | [d1, d2, d3, d4, d5] => { results := [.lit (.bool true)], args := [d1, d2, d3, d4, d5] }
  | _ => none }
def bitmapCodePlaceRow : OpenClaim := { program := "ytckbckdaffdjmaadoor", sum := "f58d01f92eed92365d7c30040be34962aab32b13d22ad1782a7a10e7cb06a40d", func := "replica/replicalaw03.BitmapCodePlace", spec := "bitmapCodePlace", unfollowed := true, recurses := true, named := ["math/bits.deBruijn64tab"], apart := false, laid := [("math/bits.deBruijn64tab", laid_math_bits_deBruijn64tab)] }
def BitmapCodePlaceSaid : Prop := bitmapCodePlaceRow.holds Tryd.pinned (OpenSpec.ofChange bitmapCodePlaceSpec)

/-- ITS FALSE NEIGHBOUR: 'it returns false'. Refute it at one input. -/
def bitmapCodePlaceWrong : ChangeSpec := { name := "bitmapCodePlace", fn := fun _ => fun
  | [d1, d2, d3, d4, d5] => { results := [.lit (.bool false)], args := [d1, d2, d3, d4, d5] }
  | _ => none }
def BitmapCodePlaceWrongFalsely : Prop := bitmapCodePlaceRow.holds Tryd.pinned (OpenSpec.ofChange bitmapCodePlaceWrong)

/- THE SECOND FORM. 'bulk': how many values and letters a reading holds, each counted each time it is reached (what is shared counts as often as it is met; a slice's spare places count too). A statement '..UptoSaid' is the law's where the arguments, and the package variables that the reading takes, are together of bulk at most 1048576: NARROWER than '..Said'. Prove '..Said' where nothing that the law and all that it calls make is longer than what came in: it says more and counts as full. Else prove '..UptoSaid'. A law counts once. -/
mutual
def uptoBulk {H : Type} : DataW H → Nat
  | .lit (.string bytes) => bytes.length + 1
  | .lit _ => 1
  | .nil => 1
  | .ptr d => uptoBulk d + 1
  | .slice elems spare => uptoBulkAll elems + uptoBulkAll spare + 1
  | .agg parts => uptoBulkAll parts + 1
  | .iface _ d => uptoBulk d + 1
  | .map entries => uptoBulkEntries entries + 1
  | .held _ => 1
def uptoBulkAll {H : Type} : List (DataW H) → Nat
  | [] => 0
  | d :: r => uptoBulk d + uptoBulkAll r
def uptoBulkEntries {H : Type} : List (Lit × DataW H) → Nat
  | [] => 0
  | x :: r => uptoBulkEntry x + uptoBulkEntries r
def uptoBulkEntry {H : Type} : Lit × DataW H → Nat
  | (.string bytes, d) => bytes.length + uptoBulk d + 1
  | (_, d) => uptoBulk d + 1
 end
def uptoSmall : (H : Type) → List (DataW H) → Bool := fun _ ds => decide (uptoBulkAll ds ≤ 1048576)
def OpenSpec.upto (s : _root_.Go.ChangeSpec) : _root_.Go.OpenSpec := { _root_.Go.OpenSpec.ofChange s with cond := some uptoSmall }

/-- 'replicalaw03.BitmapNews', WHERE WHAT IT READS IS OF BULK AT MOST 1048576: true; the input reads as it did. -/
def bitmapNewsUptoRow : OpenClaim := { program := "ytckbckdaffdjmaadoor", sum := "f58d01f92eed92365d7c30040be34962aab32b13d22ad1782a7a10e7cb06a40d", func := "replica/replicalaw03.BitmapNews", spec := "bitmapNews", unfollowed := true, recurses := true, named := ["math/bits.deBruijn64tab"], apart := false, laid := [("math/bits.deBruijn64tab", laid_math_bits_deBruijn64tab)], narrowed := true }
def BitmapNewsUptoSaid : Prop := bitmapNewsUptoRow.holds Tryd.pinned (OpenSpec.upto bitmapNewsSpec)

/-- 'replicalaw03.BitmapUnions', WHERE WHAT IT READS IS OF BULK AT MOST 1048576: true; the input reads as it did. -/
def bitmapUnionsUptoRow : OpenClaim := { program := "ytckbckdaffdjmaadoor", sum := "f58d01f92eed92365d7c30040be34962aab32b13d22ad1782a7a10e7cb06a40d", func := "replica/replicalaw03.BitmapUnions", spec := "bitmapUnions", unfollowed := true, recurses := true, named := ["math/bits.deBruijn64tab"], apart := false, laid := [("math/bits.deBruijn64tab", laid_math_bits_deBruijn64tab)], narrowed := true }
def BitmapUnionsUptoSaid : Prop := bitmapUnionsUptoRow.holds Tryd.pinned (OpenSpec.upto bitmapUnionsSpec)

/-- 'replicalaw03.BitmapTwoLevels', WHERE WHAT IT READS IS OF BULK AT MOST 1048576: true; the input reads as it did. -/
def bitmapTwoLevelsUptoRow : OpenClaim := { program := "ytckbckdaffdjmaadoor", sum := "f58d01f92eed92365d7c30040be34962aab32b13d22ad1782a7a10e7cb06a40d", func := "replica/replicalaw03.BitmapTwoLevels", spec := "bitmapTwoLevels", unfollowed := true, recurses := true, named := ["math/bits.deBruijn64tab"], apart := false, laid := [("math/bits.deBruijn64tab", laid_math_bits_deBruijn64tab)], narrowed := true }
def BitmapTwoLevelsUptoSaid : Prop := bitmapTwoLevelsUptoRow.holds Tryd.pinned (OpenSpec.upto bitmapTwoLevelsSpec)

/-- 'replicalaw03.BitmapSets', WHERE WHAT IT READS IS OF BULK AT MOST 1048576: true; the input reads as it did. -/
def bitmapSetsUptoRow : OpenClaim := { program := "ytckbckdaffdjmaadoor", sum := "f58d01f92eed92365d7c30040be34962aab32b13d22ad1782a7a10e7cb06a40d", func := "replica/replicalaw03.BitmapSets", spec := "bitmapSets", unfollowed := true, recurses := true, named := ["math/bits.deBruijn64tab"], apart := false, laid := [("math/bits.deBruijn64tab", laid_math_bits_deBruijn64tab)], narrowed := true }
def BitmapSetsUptoSaid : Prop := bitmapSetsUptoRow.holds Tryd.pinned (OpenSpec.upto bitmapSetsSpec)

/-- 'replicalaw03.BitmapAsks', WHERE WHAT IT READS IS OF BULK AT MOST 1048576: true; the input reads as it did. -/
def bitmapAsksUptoRow : OpenClaim := { program := "ytckbckdaffdjmaadoor", sum := "f58d01f92eed92365d7c30040be34962aab32b13d22ad1782a7a10e7cb06a40d", func := "replica/replicalaw03.BitmapAsks", spec := "bitmapAsks", unfollowed := true, recurses := true, named := ["math/bits.deBruijn64tab"], apart := false, laid := [("math/bits.deBruijn64tab", laid_math_bits_deBruijn64tab)], narrowed := true }
def BitmapAsksUptoSaid : Prop := bitmapAsksUptoRow.holds Tryd.pinned (OpenSpec.upto bitmapAsksSpec)

/-- 'replicalaw03.BitmapExact', WHERE WHAT IT READS IS OF BULK AT MOST 1048576: true; the input reads as it did. -/
def bitmapExactUptoRow : OpenClaim := { program := "ytckbckdaffdjmaadoor", sum := "f58d01f92eed92365d7c30040be34962aab32b13d22ad1782a7a10e7cb06a40d", func := "replica/replicalaw03.BitmapExact", spec := "bitmapExact", unfollowed := true, recurses := true, named := ["math/bits.deBruijn64tab"], apart := false, laid := [("math/bits.deBruijn64tab", laid_math_bits_deBruijn64tab)], narrowed := true }
def BitmapExactUptoSaid : Prop := bitmapExactUptoRow.holds Tryd.pinned (OpenSpec.upto bitmapExactSpec)

/-- 'replicalaw03.BitmapRunsTile', WHERE WHAT IT READS IS OF BULK AT MOST 1048576: true; the input reads as it did. -/
def bitmapRunsTileUptoRow : OpenClaim := { program := "ytckbckdaffdjmaadoor", sum := "f58d01f92eed92365d7c30040be34962aab32b13d22ad1782a7a10e7cb06a40d", func := "replica/replicalaw03.BitmapRunsTile", spec := "bitmapRunsTile", unfollowed := true, recurses := true, named := ["math/bits.deBruijn64tab"], apart := false, laid := [("math/bits.deBruijn64tab", laid_math_bits_deBruijn64tab)], narrowed := true }
def BitmapRunsTileUptoSaid : Prop := bitmapRunsTileUptoRow.holds Tryd.pinned (OpenSpec.upto bitmapRunsTileSpec)

/-- 'replicalaw03.BitmapWalks', WHERE WHAT IT READS IS OF BULK AT MOST 1048576: true; the input reads as it did. -/
def bitmapWalksUptoRow : OpenClaim := { program := "ytckbckdaffdjmaadoor", sum := "f58d01f92eed92365d7c30040be34962aab32b13d22ad1782a7a10e7cb06a40d", func := "replica/replicalaw03.BitmapWalks", spec := "bitmapWalks", unfollowed := true, recurses := true, named := ["math/bits.deBruijn64tab"], apart := false, laid := [("math/bits.deBruijn64tab", laid_math_bits_deBruijn64tab)], narrowed := true }
def BitmapWalksUptoSaid : Prop := bitmapWalksUptoRow.holds Tryd.pinned (OpenSpec.upto bitmapWalksSpec)

/-- 'replicalaw03.BitmapMergeUnion', WHERE WHAT IT READS IS OF BULK AT MOST 1048576: true; the input reads as it did. -/
def bitmapMergeUnionUptoRow : OpenClaim := { program := "ytckbckdaffdjmaadoor", sum := "f58d01f92eed92365d7c30040be34962aab32b13d22ad1782a7a10e7cb06a40d", func := "replica/replicalaw03.BitmapMergeUnion", spec := "bitmapMergeUnion", unfollowed := true, recurses := true, named := ["math/bits.deBruijn64tab"], apart := false, laid := [("math/bits.deBruijn64tab", laid_math_bits_deBruijn64tab)], narrowed := true }
def BitmapMergeUnionUptoSaid : Prop := bitmapMergeUnionUptoRow.holds Tryd.pinned (OpenSpec.upto bitmapMergeUnionSpec)

/-- 'replicalaw03.BitmapRuns', WHERE WHAT IT READS IS OF BULK AT MOST 1048576: true; the input reads as it did. -/
def bitmapRunsUptoRow : OpenClaim := { program := "ytckbckdaffdjmaadoor", sum := "f58d01f92eed92365d7c30040be34962aab32b13d22ad1782a7a10e7cb06a40d", func := "replica/replicalaw03.BitmapRuns", spec := "bitmapRuns", unfollowed := true, recurses := true, named := ["math/bits.deBruijn64tab"], apart := false, laid := [("math/bits.deBruijn64tab", laid_math_bits_deBruijn64tab)], narrowed := true }
def BitmapRunsUptoSaid : Prop := bitmapRunsUptoRow.holds Tryd.pinned (OpenSpec.upto bitmapRunsSpec)

/-- 'replicalaw03.BitmapCodes', WHERE WHAT IT READS IS OF BULK AT MOST 1048576: true; the input reads as it did. -/
def bitmapCodesUptoRow : OpenClaim := { program := "ytckbckdaffdjmaadoor", sum := "f58d01f92eed92365d7c30040be34962aab32b13d22ad1782a7a10e7cb06a40d", func := "replica/replicalaw03.BitmapCodes", spec := "bitmapCodes", unfollowed := true, recurses := true, named := ["math/bits.deBruijn64tab"], apart := false, laid := [("math/bits.deBruijn64tab", laid_math_bits_deBruijn64tab)], narrowed := true }
def BitmapCodesUptoSaid : Prop := bitmapCodesUptoRow.holds Tryd.pinned (OpenSpec.upto bitmapCodesSpec)

/-- 'replicalaw03.BitmapCodeBack', WHERE WHAT IT READS IS OF BULK AT MOST 1048576: true; the input reads as it did. -/
def bitmapCodeBackUptoRow : OpenClaim := { program := "ytckbckdaffdjmaadoor", sum := "f58d01f92eed92365d7c30040be34962aab32b13d22ad1782a7a10e7cb06a40d", func := "replica/replicalaw03.BitmapCodeBack", spec := "bitmapCodeBack", unfollowed := true, recurses := true, named := ["math/bits.deBruijn64tab"], apart := false, laid := [("math/bits.deBruijn64tab", laid_math_bits_deBruijn64tab)], narrowed := true }
def BitmapCodeBackUptoSaid : Prop := bitmapCodeBackUptoRow.holds Tryd.pinned (OpenSpec.upto bitmapCodeBackSpec)

/-- 'replicalaw03.BitmapCodeOnly', WHERE WHAT IT READS IS OF BULK AT MOST 1048576: true; the input reads as it did. -/
def bitmapCodeOnlyUptoRow : OpenClaim := { program := "ytckbckdaffdjmaadoor", sum := "f58d01f92eed92365d7c30040be34962aab32b13d22ad1782a7a10e7cb06a40d", func := "replica/replicalaw03.BitmapCodeOnly", spec := "bitmapCodeOnly", unfollowed := true, recurses := true, named := ["math/bits.deBruijn64tab"], apart := false, laid := [("math/bits.deBruijn64tab", laid_math_bits_deBruijn64tab)], narrowed := true }
def BitmapCodeOnlyUptoSaid : Prop := bitmapCodeOnlyUptoRow.holds Tryd.pinned (OpenSpec.upto bitmapCodeOnlySpec)

/-- 'replicalaw03.BitmapCodePlace', WHERE WHAT IT READS IS OF BULK AT MOST 1048576: true; the input reads as it did. -/
def bitmapCodePlaceUptoRow : OpenClaim := { program := "ytckbckdaffdjmaadoor", sum := "f58d01f92eed92365d7c30040be34962aab32b13d22ad1782a7a10e7cb06a40d", func := "replica/replicalaw03.BitmapCodePlace", spec := "bitmapCodePlace", unfollowed := true, recurses := true, named := ["math/bits.deBruijn64tab"], apart := false, laid := [("math/bits.deBruijn64tab", laid_math_bits_deBruijn64tab)], narrowed := true }
def BitmapCodePlaceUptoSaid : Prop := bitmapCodePlaceUptoRow.holds Tryd.pinned (OpenSpec.upto bitmapCodePlaceSpec)

end Rows
end Go.Proofs.YtckbckdaffdjmaaDoor
