/-
  No cell of these rows narrows 'for every input' (looked for: loops, veiled, ifaces, maps, wideKeys, modest, calm, conditions, laid).
  DERIVED. THE GIVEN ROWS OF THIS SEAT. 5 by the template 'for every input the law returns true; each argument reads behind the call as it read before'; 0 by the template 'total and deterministic' (their statements: YtboanmhibbhceaaTotals.lean).
  GIVEN WITH THE SEED: the statements are not yours to turn. If you find one false, say at which input.
  Laid BY PROGRAM, IN A SANDBOX (cutbox-rows.mjs): the forced cells as the released guide's own fill.sh prints them over the translation 956c6067c24d9cb7… (all of the seat's roots in one cut). By AI agents, Wed Nov 11 2026. No macro, syntax, notation, axiom, sorry.
-/
import Derived.Test.YtboanmhibbhceaaChecked
import GoSem.Claim
import GoSem.ClaimJoined
import GoSem.ClaimMapViews
import Derived.JoinedTies
import Derived.KernelRfl
namespace Go.Proofs.Ytboanmhibbhceaa
/- THE CELL 'sum', in the pinned program and in every row, IS THE sha256 OF THE DUMP (.gsa) THAT YtboanmhibbhceaaProg.lean LOADS. Nothing in Lean hashes anything: it is a label: what it is worth is what the hold of that sum in a sandbox is worth. -/
noncomputable def Try.pinned : Pinned := { name := "ytboanmhibbhceaa", sum := "956c6067c24d9cb77ff0f72969020d167ab0b548ff0866a8bab43bd51a1adca3", checked := Try.checked }
namespace Rows
def none {H : Type} : Left H := { results := [], args := [] }

/-- 'replicalaw06.IdentFreshUnlike': WHATEVER THE INPUT: true; the input reads as it did. -/
def identFreshUnlikeSpec : ChangeSpec := { name := "identFreshUnlike", fn := fun _ => fun
  | [d1, d2, d3, d4] => { results := [.lit (.bool true)], args := [d1, d2, d3, d4] }
  | _ => none }
def identFreshUnlikeRow : OpenClaim := { program := "ytboanmhibbhceaa", sum := "956c6067c24d9cb77ff0f72969020d167ab0b548ff0866a8bab43bd51a1adca3", func := "replica/replicalaw06.IdentFreshUnlike", spec := "identFreshUnlike", apart := false }
def IdentFreshUnlikeSaid : Prop := identFreshUnlikeRow.holds Try.pinned (OpenSpec.ofChange identFreshUnlikeSpec)

/-- ITS FALSE NEIGHBOUR: 'it returns false'. Refute it at one input. -/
def identFreshUnlikeWrong : ChangeSpec := { name := "identFreshUnlike", fn := fun _ => fun
  | [d1, d2, d3, d4] => { results := [.lit (.bool false)], args := [d1, d2, d3, d4] }
  | _ => none }
def IdentFreshUnlikeWrongFalsely : Prop := identFreshUnlikeRow.holds Try.pinned (OpenSpec.ofChange identFreshUnlikeWrong)

/-- 'replicalaw06.IdentGens': WHATEVER THE INPUT: true; the input reads as it did. -/
def identGensSpec : ChangeSpec := { name := "identGens", fn := fun _ => fun
  | [d] => { results := [.lit (.bool true)], args := [d] }
  | _ => none }
def identGensRow : OpenClaim := { program := "ytboanmhibbhceaa", sum := "956c6067c24d9cb77ff0f72969020d167ab0b548ff0866a8bab43bd51a1adca3", func := "replica/replicalaw06.IdentGens", spec := "identGens", apart := false }
def IdentGensSaid : Prop := identGensRow.holds Try.pinned (OpenSpec.ofChange identGensSpec)

/-- ITS FALSE NEIGHBOUR: 'it returns false'. Refute it at one input. -/
def identGensWrong : ChangeSpec := { name := "identGens", fn := fun _ => fun
  | [d] => { results := [.lit (.bool false)], args := [d] }
  | _ => none }
def IdentGensWrongFalsely : Prop := identGensRow.holds Try.pinned (OpenSpec.ofChange identGensWrong)

/-- 'replicalaw06.IdentResolves': WHATEVER THE INPUT: true; the input reads as it did. -/
def identResolvesSpec : ChangeSpec := { name := "identResolves", fn := fun _ => fun
  | [d] => { results := [.lit (.bool true)], args := [d] }
  | _ => none }
def identResolvesRow : OpenClaim := { program := "ytboanmhibbhceaa", sum := "956c6067c24d9cb77ff0f72969020d167ab0b548ff0866a8bab43bd51a1adca3", func := "replica/replicalaw06.IdentResolves", spec := "identResolves", apart := false }
def IdentResolvesSaid : Prop := identResolvesRow.holds Try.pinned (OpenSpec.ofChange identResolvesSpec)

/-- ITS FALSE NEIGHBOUR: 'it returns false'. Refute it at one input. -/
def identResolvesWrong : ChangeSpec := { name := "identResolves", fn := fun _ => fun
  | [d] => { results := [.lit (.bool false)], args := [d] }
  | _ => none }
def IdentResolvesWrongFalsely : Prop := identResolvesRow.holds Try.pinned (OpenSpec.ofChange identResolvesWrong)

/-- 'replicalaw06.IdentCompares': WHATEVER THE INPUT: true; the input reads as it did. -/
def identComparesSpec : ChangeSpec := { name := "identCompares", fn := fun _ => fun
  | [d1, d2, d3, d4, d5] => { results := [.lit (.bool true)], args := [d1, d2, d3, d4, d5] }
  | _ => none }
def identComparesRow : OpenClaim := { program := "ytboanmhibbhceaa", sum := "956c6067c24d9cb77ff0f72969020d167ab0b548ff0866a8bab43bd51a1adca3", func := "replica/replicalaw06.IdentCompares", spec := "identCompares", unfollowed := true, recurses := true, apart := false }
def IdentComparesSaid : Prop := identComparesRow.holds Try.pinned (OpenSpec.ofChange identComparesSpec)

/-- ITS FALSE NEIGHBOUR: 'it returns false'. Refute it at one input. -/
def identComparesWrong : ChangeSpec := { name := "identCompares", fn := fun _ => fun
  | [d1, d2, d3, d4, d5] => { results := [.lit (.bool false)], args := [d1, d2, d3, d4, d5] }
  | _ => none }
def IdentComparesWrongFalsely : Prop := identComparesRow.holds Try.pinned (OpenSpec.ofChange identComparesWrong)

/-- 'replicalaw06.IdentTruth': WHATEVER THE INPUT: true; the input reads as it did. -/
def identTruthSpec : ChangeSpec := { name := "identTruth", fn := fun _ => fun
  | [d1, d2, d3] => { results := [.lit (.bool true)], args := [d1, d2, d3] }
  | _ => none }
def identTruthRow : OpenClaim := { program := "ytboanmhibbhceaa", sum := "956c6067c24d9cb77ff0f72969020d167ab0b548ff0866a8bab43bd51a1adca3", func := "replica/replicalaw06.IdentTruth", spec := "identTruth", unfollowed := true, recurses := true, apart := false }
def IdentTruthSaid : Prop := identTruthRow.holds Try.pinned (OpenSpec.ofChange identTruthSpec)

/-- ITS FALSE NEIGHBOUR: 'it returns false'. Refute it at one input. -/
def identTruthWrong : ChangeSpec := { name := "identTruth", fn := fun _ => fun
  | [d1, d2, d3] => { results := [.lit (.bool false)], args := [d1, d2, d3] }
  | _ => none }
def IdentTruthWrongFalsely : Prop := identTruthRow.holds Try.pinned (OpenSpec.ofChange identTruthWrong)

/- THE SECOND FORM. 'bulk': how many values and letters a reading holds, each counted each time it is reached (what is shared counts as often as it is met; a slice's spare places count too). A statement '..UptoSaid' is the law's where the arguments, and the package variables that the reading takes, are together of bulk at most 1048576: NARROWER than '..Said'. Prove '..Said' where nothing that the law and all that it calls make is longer than what came in: it says more and counts as full. Else prove '..UptoSaid'. A law counts once. -/
mutual
def uptoBulk {H : Type} : DataW H → Nat
  | .lit (.string bytes) => bytes.length + 1
  | .lit _ => 1
  | .nil => 1
  | .ptr d => uptoBulk d + 1
  | .slice elems spare => uptoBulkAll elems + uptoBulkAll spare + 1
  | .agg parts => uptoBulkAll parts + 1
  | .iface _ d => uptoBulk d + 1
  | .map entries => uptoBulkEntries entries + 1
  | .held _ => 1
def uptoBulkAll {H : Type} : List (DataW H) → Nat
  | [] => 0
  | d :: r => uptoBulk d + uptoBulkAll r
def uptoBulkEntries {H : Type} : List (Lit × DataW H) → Nat
  | [] => 0
  | x :: r => uptoBulkEntry x + uptoBulkEntries r
def uptoBulkEntry {H : Type} : Lit × DataW H → Nat
  | (.string bytes, d) => bytes.length + uptoBulk d + 1
  | (_, d) => uptoBulk d + 1
 end
def uptoSmall : (H : Type) → List (DataW H) → Bool := fun _ ds => decide (uptoBulkAll ds ≤ 1048576)
def OpenSpec.upto (s : _root_.Go.ChangeSpec) : _root_.Go.OpenSpec := { _root_.Go.OpenSpec.ofChange s with cond := some uptoSmall }

/-- 'replicalaw06.IdentFreshUnlike', WHERE WHAT IT READS IS OF BULK AT MOST 1048576: true; the input reads as it did. -/
def identFreshUnlikeUptoRow : OpenClaim := { program := "ytboanmhibbhceaa", sum := "956c6067c24d9cb77ff0f72969020d167ab0b548ff0866a8bab43bd51a1adca3", func := "replica/replicalaw06.IdentFreshUnlike", spec := "identFreshUnlike", apart := false, narrowed := true }
def IdentFreshUnlikeUptoSaid : Prop := identFreshUnlikeUptoRow.holds Try.pinned (OpenSpec.upto identFreshUnlikeSpec)

/-- 'replicalaw06.IdentGens', WHERE WHAT IT READS IS OF BULK AT MOST 1048576: true; the input reads as it did. -/
def identGensUptoRow : OpenClaim := { program := "ytboanmhibbhceaa", sum := "956c6067c24d9cb77ff0f72969020d167ab0b548ff0866a8bab43bd51a1adca3", func := "replica/replicalaw06.IdentGens", spec := "identGens", apart := false, narrowed := true }
def IdentGensUptoSaid : Prop := identGensUptoRow.holds Try.pinned (OpenSpec.upto identGensSpec)

/-- 'replicalaw06.IdentResolves', WHERE WHAT IT READS IS OF BULK AT MOST 1048576: true; the input reads as it did. -/
def identResolvesUptoRow : OpenClaim := { program := "ytboanmhibbhceaa", sum := "956c6067c24d9cb77ff0f72969020d167ab0b548ff0866a8bab43bd51a1adca3", func := "replica/replicalaw06.IdentResolves", spec := "identResolves", apart := false, narrowed := true }
def IdentResolvesUptoSaid : Prop := identResolvesUptoRow.holds Try.pinned (OpenSpec.upto identResolvesSpec)

/-- 'replicalaw06.IdentCompares', WHERE WHAT IT READS IS OF BULK AT MOST 1048576: true; the input reads as it did. -/
def identComparesUptoRow : OpenClaim := { program := "ytboanmhibbhceaa", sum := "956c6067c24d9cb77ff0f72969020d167ab0b548ff0866a8bab43bd51a1adca3", func := "replica/replicalaw06.IdentCompares", spec := "identCompares", unfollowed := true, recurses := true, apart := false, narrowed := true }
def IdentComparesUptoSaid : Prop := identComparesUptoRow.holds Try.pinned (OpenSpec.upto identComparesSpec)

/-- 'replicalaw06.IdentTruth', WHERE WHAT IT READS IS OF BULK AT MOST 1048576: true; the input reads as it did. -/
def identTruthUptoRow : OpenClaim := { program := "ytboanmhibbhceaa", sum := "956c6067c24d9cb77ff0f72969020d167ab0b548ff0866a8bab43bd51a1adca3", func := "replica/replicalaw06.IdentTruth", spec := "identTruth", unfollowed := true, recurses := true, apart := false, narrowed := true }
def IdentTruthUptoSaid : Prop := identTruthUptoRow.holds Try.pinned (OpenSpec.upto identTruthSpec)

end Rows
end Go.Proofs.Ytboanmhibbhceaa
