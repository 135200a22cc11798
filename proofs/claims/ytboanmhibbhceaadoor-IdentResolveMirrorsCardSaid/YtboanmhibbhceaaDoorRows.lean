/-
  NARROWER THAN 'FOR EVERY INPUT', by the rows' own cells (each row's printed sentence says how): IdentSettles: laid · IdentSettleMirrors: laid · IdentResolveMirrors: laid · IdentMirrors: laid.
  DERIVED. THE GIVEN ROWS OF THIS SEAT. 4 by the template 'for every input the law returns true; each argument reads behind the call as it read before'; 0 by the template 'total and deterministic' (their statements: YtboanmhibbhceaaDoorTotals.lean).
  GIVEN WITH THE SEED: the statements are not yours to turn. If you find one false, say at which input.
  Laid BY PROGRAM, IN A SANDBOX (cutbox-rows.mjs): the forced cells as the released guide's own fill.sh prints them over the translation ab6ff8c81e583985… (all of the seat's roots in one cut). By AI agents, Wed Nov 11 2026. No macro, syntax, notation, axiom, sorry.
-/
import Derived.Test.YtboanmhibbhceaaDoorChecked
import GoSem.Claim
import GoSem.ClaimJoined
import GoSem.ClaimMapViews
import Derived.JoinedTies
import Derived.KernelRfl
namespace Go.Proofs.YtboanmhibbhceaaDoor
/- THE CELL 'sum', in the pinned program and in every row, IS THE sha256 OF THE DUMP (.gsa) THAT YtboanmhibbhceaaDoorProg.lean LOADS. Nothing in Lean hashes anything: it is a label: what it is worth is what the hold of that sum in a sandbox is worth. -/
noncomputable def Tryd.pinned : Pinned := { name := "ytboanmhibbhceaadoor", sum := "ab6ff8c81e58398573a475bd85a22a036900ca409ee7fc596cfe26d6e2bcde58", checked := Tryd.checked }
namespace Rows
def none {H : Type} : Left H := { results := [], args := [] }

/- WHAT THE LISTED PACKAGE-LEVEL VARIABLES READ AS WHEN THE CALL BEGINS. Each datum BY PROGRAM (the guide's laid-datum.mjs) off the statement by which the dump's own 'gosem.cut.vars' lays the variable. In a bare row this is a premise. The card (YtboanmhibbhceaaDoorCards.lean) ties it to the program's text. -/
def laid_replica_ident_turned {H : Type} : DataW H := .agg [.agg [.lit (.int .i64 1), .lit (.int .i64 2)], .agg [.lit (.int .i64 2), .lit (.int .i64 1)], .agg [.lit (.int .i64 3), .lit (.int .i64 4)], .agg [.lit (.int .i64 4), .lit (.int .i64 3)]]

/-- 'replicalaw06.IdentSettles': WHATEVER THE INPUT: true; the input reads as it did. -/
def identSettlesSpec : ChangeSpec := { name := "identSettles", fn := fun _ => fun
  | [d1, d2, d3] => { results := [.lit (.bool true)], args := [d1, d2, d3] }
  | _ => none }
def identSettlesRow : OpenClaim := { program := "ytboanmhibbhceaadoor", sum := "ab6ff8c81e58398573a475bd85a22a036900ca409ee7fc596cfe26d6e2bcde58", func := "replica/replicalaw06.IdentSettles", spec := "identSettles", named := ["replica/ident.turned"], apart := false, laid := [("replica/ident.turned", laid_replica_ident_turned)] }
def IdentSettlesSaid : Prop := identSettlesRow.holds Tryd.pinned (OpenSpec.ofChange identSettlesSpec)

/-- ITS FALSE NEIGHBOUR: 'it returns false'. Refute it at one input. -/
def identSettlesWrong : ChangeSpec := { name := "identSettles", fn := fun _ => fun
  | [d1, d2, d3] => { results := [.lit (.bool false)], args := [d1, d2, d3] }
  | _ => none }
def IdentSettlesWrongFalsely : Prop := identSettlesRow.holds Tryd.pinned (OpenSpec.ofChange identSettlesWrong)

/-- 'replicalaw06.IdentSettleMirrors': WHATEVER THE INPUT: true; the input reads as it did. -/
def identSettleMirrorsSpec : ChangeSpec := { name := "identSettleMirrors", fn := fun _ => fun
  | [d1, d2, d3] => { results := [.lit (.bool true)], args := [d1, d2, d3] }
  | _ => none }
def identSettleMirrorsRow : OpenClaim := { program := "ytboanmhibbhceaadoor", sum := "ab6ff8c81e58398573a475bd85a22a036900ca409ee7fc596cfe26d6e2bcde58", func := "replica/replicalaw06.IdentSettleMirrors", spec := "identSettleMirrors", named := ["replica/ident.turned"], apart := false, laid := [("replica/ident.turned", laid_replica_ident_turned)] }
def IdentSettleMirrorsSaid : Prop := identSettleMirrorsRow.holds Tryd.pinned (OpenSpec.ofChange identSettleMirrorsSpec)

/-- ITS FALSE NEIGHBOUR: 'it returns false'. Refute it at one input. -/
def identSettleMirrorsWrong : ChangeSpec := { name := "identSettleMirrors", fn := fun _ => fun
  | [d1, d2, d3] => { results := [.lit (.bool false)], args := [d1, d2, d3] }
  | _ => none }
def IdentSettleMirrorsWrongFalsely : Prop := identSettleMirrorsRow.holds Tryd.pinned (OpenSpec.ofChange identSettleMirrorsWrong)

/-- 'replicalaw06.IdentResolveMirrors': WHATEVER THE INPUT: true; the input reads as it did. -/
def identResolveMirrorsSpec : ChangeSpec := { name := "identResolveMirrors", fn := fun _ => fun
  | [d] => { results := [.lit (.bool true)], args := [d] }
  | _ => none }
def identResolveMirrorsRow : OpenClaim := { program := "ytboanmhibbhceaadoor", sum := "ab6ff8c81e58398573a475bd85a22a036900ca409ee7fc596cfe26d6e2bcde58", func := "replica/replicalaw06.IdentResolveMirrors", spec := "identResolveMirrors", named := ["replica/ident.turned"], apart := false, laid := [("replica/ident.turned", laid_replica_ident_turned)] }
def IdentResolveMirrorsSaid : Prop := identResolveMirrorsRow.holds Tryd.pinned (OpenSpec.ofChange identResolveMirrorsSpec)

/-- ITS FALSE NEIGHBOUR: 'it returns false'. Refute it at one input. -/
def identResolveMirrorsWrong : ChangeSpec := { name := "identResolveMirrors", fn := fun _ => fun
  | [d] => { results := [.lit (.bool false)], args := [d] }
  | _ => none }
def IdentResolveMirrorsWrongFalsely : Prop := identResolveMirrorsRow.holds Tryd.pinned (OpenSpec.ofChange identResolveMirrorsWrong)

/-- 'replicalaw06.IdentMirrors': WHATEVER THE INPUT: true; the input reads as it did. -/
def identMirrorsSpec : ChangeSpec := { name := "identMirrors", fn := fun _ => fun
  | [d1, d2, d3, d4] => { results := [.lit (.bool true)], args := [d1, d2, d3, d4] }
  | _ => none }
def identMirrorsRow : OpenClaim := { program := "ytboanmhibbhceaadoor", sum := "ab6ff8c81e58398573a475bd85a22a036900ca409ee7fc596cfe26d6e2bcde58", func := "replica/replicalaw06.IdentMirrors", spec := "identMirrors", unfollowed := true, recurses := true, named := ["replica/ident.turned"], apart := false, laid := [("replica/ident.turned", laid_replica_ident_turned)] }
def IdentMirrorsSaid : Prop := identMirrorsRow.holds Tryd.pinned (OpenSpec.ofChange identMirrorsSpec)

/-- ITS FALSE NEIGHBOUR: 'it returns false'. Refute it at one input. -/
def identMirrorsWrong : ChangeSpec := { name := "identMirrors", fn := fun _ => fun
  | [d1, d2, d3, d4] => { results := [.lit (.bool false)], args := [d1, d2, d3, d4] }
  | _ => none }
def IdentMirrorsWrongFalsely : Prop := identMirrorsRow.holds Tryd.pinned (OpenSpec.ofChange identMirrorsWrong)

/- THE SECOND FORM. 'bulk': how many values and letters a reading holds, each counted each time it is reached (what is shared counts as often as it is met; a slice's spare places count too). A statement '..UptoSaid' is the law's where the arguments, and the package variables that the reading takes, are together of bulk at most 1048576: NARROWER than '..Said'. Prove '..Said' where nothing that the law and all that it calls make is longer than what came in: it says more and counts as full. Else prove '..UptoSaid'. A law counts once. -/
mutual
def uptoBulk {H : Type} : DataW H → Nat
  | .lit (.string bytes) => bytes.length + 1
  | .lit _ => 1
  | .nil => 1
  | .ptr d => uptoBulk d + 1
  | .slice elems spare => uptoBulkAll elems + uptoBulkAll spare + 1
  | .agg parts => uptoBulkAll parts + 1
  | .iface _ d => uptoBulk d + 1
  | .map entries => uptoBulkEntries entries + 1
  | .held _ => 1
def uptoBulkAll {H : Type} : List (DataW H) → Nat
  | [] => 0
  | d :: r => uptoBulk d + uptoBulkAll r
def uptoBulkEntries {H : Type} : List (Lit × DataW H) → Nat
  | [] => 0
  | x :: r => uptoBulkEntry x + uptoBulkEntries r
def uptoBulkEntry {H : Type} : Lit × DataW H → Nat
  | (.string bytes, d) => bytes.length + uptoBulk d + 1
  | (_, d) => uptoBulk d + 1
 end
def uptoSmall : (H : Type) → List (DataW H) → Bool := fun _ ds => decide (uptoBulkAll ds ≤ 1048576)
def OpenSpec.upto (s : _root_.Go.ChangeSpec) : _root_.Go.OpenSpec := { _root_.Go.OpenSpec.ofChange s with cond := some uptoSmall }

/-- 'replicalaw06.IdentSettles', WHERE WHAT IT READS IS OF BULK AT MOST 1048576: true; the input reads as it did. -/
def identSettlesUptoRow : OpenClaim := { program := "ytboanmhibbhceaadoor", sum := "ab6ff8c81e58398573a475bd85a22a036900ca409ee7fc596cfe26d6e2bcde58", func := "replica/replicalaw06.IdentSettles", spec := "identSettles", named := ["replica/ident.turned"], apart := false, laid := [("replica/ident.turned", laid_replica_ident_turned)], narrowed := true }
def IdentSettlesUptoSaid : Prop := identSettlesUptoRow.holds Tryd.pinned (OpenSpec.upto identSettlesSpec)

/-- 'replicalaw06.IdentSettleMirrors', WHERE WHAT IT READS IS OF BULK AT MOST 1048576: true; the input reads as it did. -/
def identSettleMirrorsUptoRow : OpenClaim := { program := "ytboanmhibbhceaadoor", sum := "ab6ff8c81e58398573a475bd85a22a036900ca409ee7fc596cfe26d6e2bcde58", func := "replica/replicalaw06.IdentSettleMirrors", spec := "identSettleMirrors", named := ["replica/ident.turned"], apart := false, laid := [("replica/ident.turned", laid_replica_ident_turned)], narrowed := true }
def IdentSettleMirrorsUptoSaid : Prop := identSettleMirrorsUptoRow.holds Tryd.pinned (OpenSpec.upto identSettleMirrorsSpec)

/-- 'replicalaw06.IdentResolveMirrors', WHERE WHAT IT READS IS OF BULK AT MOST 1048576: true; the input reads as it did. -/
def identResolveMirrorsUptoRow : OpenClaim := { program := "ytboanmhibbhceaadoor", sum := "ab6ff8c81e58398573a475bd85a22a036900ca409ee7fc596cfe26d6e2bcde58", func := "replica/replicalaw06.IdentResolveMirrors", spec := "identResolveMirrors", named := ["replica/ident.turned"], apart := false, laid := [("replica/ident.turned", laid_replica_ident_turned)], narrowed := true }
def IdentResolveMirrorsUptoSaid : Prop := identResolveMirrorsUptoRow.holds Tryd.pinned (OpenSpec.upto identResolveMirrorsSpec)

/-- 'replicalaw06.IdentMirrors', WHERE WHAT IT READS IS OF BULK AT MOST 1048576: true; the input reads as it did. -/
def identMirrorsUptoRow : OpenClaim := { program := "ytboanmhibbhceaadoor", sum := "ab6ff8c81e58398573a475bd85a22a036900ca409ee7fc596cfe26d6e2bcde58", func := "replica/replicalaw06.IdentMirrors", spec := "identMirrors", unfollowed := true, recurses := true, named := ["replica/ident.turned"], apart := false, laid := [("replica/ident.turned", laid_replica_ident_turned)], narrowed := true }
def IdentMirrorsUptoSaid : Prop := identMirrorsUptoRow.holds Tryd.pinned (OpenSpec.upto identMirrorsSpec)

end Rows
end Go.Proofs.YtboanmhibbhceaaDoor
