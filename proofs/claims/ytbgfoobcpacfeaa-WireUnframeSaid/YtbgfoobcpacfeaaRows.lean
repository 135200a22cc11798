/-
  No cell of these rows narrows 'for every input' (looked for: loops, veiled, ifaces, maps, wideKeys, modest, calm, conditions, laid).
  DERIVED. THE GIVEN ROWS OF THIS SEAT. 2 by the template 'for every input the law returns true; each argument reads behind the call as it read before'; 0 by the template 'total and deterministic' (their statements: YtbgfoobcpacfeaaTotals.lean).
  GIVEN WITH THE SEED: the statements are not yours to turn. If you find one false, say at which input.
  Laid BY PROGRAM, IN A SANDBOX (cutbox-rows.mjs): the forced cells as the released guide's own fill.sh prints them over the translation 196fa4d455922d77… (all of the seat's roots in one cut). By AI agents, Wed Nov 11 2026. No macro, syntax, notation, axiom, sorry.
-/
import Derived.Test.YtbgfoobcpacfeaaChecked
import GoSem.Claim
import GoSem.ClaimJoined
import GoSem.ClaimMapViews
import Derived.JoinedTies
import Derived.KernelRfl
namespace Go.Proofs.Ytbgfoobcpacfeaa
/- THE CELL 'sum', in the pinned program and in every row, IS THE sha256 OF THE DUMP (.gsa) THAT YtbgfoobcpacfeaaProg.lean LOADS. Nothing in Lean hashes anything: it is a label: what it is worth is what the hold of that sum in a sandbox is worth. -/
noncomputable def Try.pinned : Pinned := { name := "ytbgfoobcpacfeaa", sum := "196fa4d455922d77a2f0e17f713a6e0b70d06ff69303ed0972e3b81dca4756e8", checked := Try.checked }
namespace Rows
def none {H : Type} : Left H := { results := [], args := [] }

/-- 'replicalaw07.WireFrame': WHATEVER THE INPUT: true; the input reads as it did. -/
def wireFrameSpec : ChangeSpec := { name := "wireFrame", fn := fun _ => fun
  | [d] => { results := [.lit (.bool true)], args := [d] }
  | _ => none }
def wireFrameRow : OpenClaim := { program := "ytbgfoobcpacfeaa", sum := "196fa4d455922d77a2f0e17f713a6e0b70d06ff69303ed0972e3b81dca4756e8", func := "replica/replicalaw07.WireFrame", spec := "wireFrame", apart := false }
def WireFrameSaid : Prop := wireFrameRow.holds Try.pinned (OpenSpec.ofChange wireFrameSpec)

/-- ITS FALSE NEIGHBOUR: 'it returns false'. Refute it at one input. -/
def wireFrameWrong : ChangeSpec := { name := "wireFrame", fn := fun _ => fun
  | [d] => { results := [.lit (.bool false)], args := [d] }
  | _ => none }
def WireFrameWrongFalsely : Prop := wireFrameRow.holds Try.pinned (OpenSpec.ofChange wireFrameWrong)

/-- 'replicalaw07.WireUnframe': WHATEVER THE INPUT: true; the input reads as it did. -/
def wireUnframeSpec : ChangeSpec := { name := "wireUnframe", fn := fun _ => fun
  | [d] => { results := [.lit (.bool true)], args := [d] }
  | _ => none }
def wireUnframeRow : OpenClaim := { program := "ytbgfoobcpacfeaa", sum := "196fa4d455922d77a2f0e17f713a6e0b70d06ff69303ed0972e3b81dca4756e8", func := "replica/replicalaw07.WireUnframe", spec := "wireUnframe", apart := false }
def WireUnframeSaid : Prop := wireUnframeRow.holds Try.pinned (OpenSpec.ofChange wireUnframeSpec)

/-- ITS FALSE NEIGHBOUR: 'it returns false'. Refute it at one input. -/
def wireUnframeWrong : ChangeSpec := { name := "wireUnframe", fn := fun _ => fun
  | [d] => { results := [.lit (.bool false)], args := [d] }
  | _ => none }
def WireUnframeWrongFalsely : Prop := wireUnframeRow.holds Try.pinned (OpenSpec.ofChange wireUnframeWrong)

/- THE SECOND FORM. 'bulk': how many values and letters a reading holds, each counted each time it is reached (what is shared counts as often as it is met; a slice's spare places count too). A statement '..UptoSaid' is the law's where the arguments, and the package variables that the reading takes, are together of bulk at most 1048576: NARROWER than '..Said'. Prove '..Said' where nothing that the law and all that it calls make is longer than what came in: it says more and counts as full. Else prove '..UptoSaid'. A law counts once. -/
mutual
def uptoBulk {H : Type} : DataW H → Nat
  | .lit (.string bytes) => bytes.length + 1
  | .lit _ => 1
  | .nil => 1
  | .ptr d => uptoBulk d + 1
  | .slice elems spare => uptoBulkAll elems + uptoBulkAll spare + 1
  | .agg parts => uptoBulkAll parts + 1
  | .iface _ d => uptoBulk d + 1
  | .map entries => uptoBulkEntries entries + 1
  | .held _ => 1
def uptoBulkAll {H : Type} : List (DataW H) → Nat
  | [] => 0
  | d :: r => uptoBulk d + uptoBulkAll r
def uptoBulkEntries {H : Type} : List (Lit × DataW H) → Nat
  | [] => 0
  | x :: r => uptoBulkEntry x + uptoBulkEntries r
def uptoBulkEntry {H : Type} : Lit × DataW H → Nat
  | (.string bytes, d) => bytes.length + uptoBulk d + 1
  | (_, d) => uptoBulk d + 1
 end
def uptoSmall : (H : Type) → List (DataW H) → Bool := fun _ ds => decide (uptoBulkAll ds ≤ 1048576)
def OpenSpec.upto (s : _root_.Go.ChangeSpec) : _root_.Go.OpenSpec := { _root_.Go.OpenSpec.ofChange s with cond := some uptoSmall }

/-- 'replicalaw07.WireFrame', WHERE WHAT IT READS IS OF BULK AT MOST 1048576: true; the input reads as it did. -/
def wireFrameUptoRow : OpenClaim := { program := "ytbgfoobcpacfeaa", sum := "196fa4d455922d77a2f0e17f713a6e0b70d06ff69303ed0972e3b81dca4756e8", func := "replica/replicalaw07.WireFrame", spec := "wireFrame", apart := false, narrowed := true }
def WireFrameUptoSaid : Prop := wireFrameUptoRow.holds Try.pinned (OpenSpec.upto wireFrameSpec)

/-- 'replicalaw07.WireUnframe', WHERE WHAT IT READS IS OF BULK AT MOST 1048576: true; the input reads as it did. -/
def wireUnframeUptoRow : OpenClaim := { program := "ytbgfoobcpacfeaa", sum := "196fa4d455922d77a2f0e17f713a6e0b70d06ff69303ed0972e3b81dca4756e8", func := "replica/replicalaw07.WireUnframe", spec := "wireUnframe", apart := false, narrowed := true }
def WireUnframeUptoSaid : Prop := wireUnframeUptoRow.holds Try.pinned (OpenSpec.upto wireUnframeSpec)

end Rows
end Go.Proofs.Ytbgfoobcpacfeaa
