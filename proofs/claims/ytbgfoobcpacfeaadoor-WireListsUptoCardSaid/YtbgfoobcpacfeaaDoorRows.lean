/-
  NARROWER THAN 'FOR EVERY INPUT', by the rows' own cells (each row's printed sentence says how): WireName: laid · WirePacket: laid · WireParse: laid · WireBack: laid · WireOne: laid · WirePrefix: laid · WirePlace: laid · WireFrameBack: laid · WireFrameOne: laid · WireTells: laid · WireLists: laid · WireCarry: laid.
  DERIVED. THE GIVEN ROWS OF THIS SEAT. 12 by the template 'for every input the law returns true; each argument reads behind the call as it read before'; 0 by the template 'total and deterministic' (their statements: YtbgfoobcpacfeaaDoorTotals.lean).
  GIVEN WITH THE SEED: the statements are not yours to turn. If you find one false, say at which input.
  Laid BY PROGRAM, IN A SANDBOX (cutbox-rows.mjs): the forced cells as the released guide's own fill.sh prints them over the translation aa72e1e547bddf03… (all of the seat's roots in one cut). By AI agents, Wed Nov 11 2026. No macro, syntax, notation, axiom, sorry.
-/
import Derived.Test.YtbgfoobcpacfeaaDoorChecked
import GoSem.Claim
import GoSem.ClaimJoined
import GoSem.ClaimMapViews
import Derived.JoinedTies
import Derived.KernelRfl
namespace Go.Proofs.YtbgfoobcpacfeaaDoor
/- THE CELL 'sum', in the pinned program and in every row, IS THE sha256 OF THE DUMP (.gsa) THAT YtbgfoobcpacfeaaDoorProg.lean LOADS. Nothing in Lean hashes anything: it is a label: what it is worth is what the hold of that sum in a sandbox is worth. -/
noncomputable def Tryd.pinned : Pinned := { name := "ytbgfoobcpacfeaadoor", sum := "aa72e1e547bddf0388e5a30057bc3cabb45b5ad72b28b7ffd0429ecad805dada", checked := Tryd.checked }
namespace Rows
def none {H : Type} : Left H := { results := [], args := [] }

/- WHAT THE LISTED PACKAGE-LEVEL VARIABLES READ AS WHEN THE CALL BEGINS. Each datum BY PROGRAM (the guide's laid-datum.mjs) off the statement by which the dump's own 'gosem.cut.vars' lays the variable. In a bare row this is a premise. The card (YtbgfoobcpacfeaaDoorCards.lean) ties it to the program's text. -/
def laid_replica_replicaref07_names {H : Type} : DataW H := .agg [.lit (.string []), .lit (.string [70, 101, 97, 116, 117, 114, 101]), .lit (.string [67, 104, 97, 108, 108, 101, 110, 103, 101]), .lit (.string [82, 101, 115, 112, 111, 110, 115, 101]), .lit (.string [83, 105, 122, 101, 115]), .lit (.string [73, 100, 115]), .lit (.string [83, 116, 97, 116, 101]), .lit (.string [66, 105, 116, 115]), .lit (.string [68, 97, 116, 97]), .lit (.string [90, 101, 114, 111]), .lit (.string [82, 101, 99, 118, 65, 99, 107]), .lit (.string [87, 114, 105, 116, 101, 65, 99, 107]), .lit (.string [78, 101, 103, 65, 99, 107]), .lit (.string [66, 97, 114, 114, 105, 101, 114]), .lit (.string [66, 97, 114, 114, 105, 101, 114, 65, 99, 107]), .lit (.string [83, 117, 109, 82, 101, 113, 117, 101, 115, 116]), .lit (.string [73, 110, 83, 121, 110, 99]), .lit (.string [83, 121, 110, 99, 68, 97, 116, 97]), .lit (.string [83, 121, 110, 99, 65, 99, 107]), .lit (.string [83, 121, 110, 99, 68, 111, 110, 101]), .lit (.string [86, 101, 114, 105, 102, 121, 82, 101, 113, 117, 101, 115, 116]), .lit (.string [86, 101, 114, 105, 102, 121, 82, 101, 112, 108, 121]), .lit (.string [86, 101, 114, 105, 102, 121, 68, 111, 110, 101]), .lit (.string [71, 101, 110, 115]), .lit (.string [82, 101, 97, 100, 82, 101, 113, 117, 101, 115, 116]), .lit (.string [82, 101, 97, 100, 82, 101, 112, 108, 121])]
def laid_replica_wire_blockSizes {H : Type} : DataW H := .agg [.lit (.int .u32 128), .lit (.int .u32 256), .lit (.int .u32 512), .lit (.int .u32 1024)]
def laid_replica_replicaref07_carries {H : Type} : DataW H := .agg [.lit (.int .i64 0), .lit (.int .i64 25), .lit (.int .i64 128), .lit (.int .i64 64), .lit (.int .i64 26), .lit (.int .i64 56), .lit (.int .i64 16), .lit (.int .i64 138), .lit (.int .i64 135), .lit (.int .i64 7), .lit (.int .i64 3), .lit (.int .i64 3), .lit (.int .i64 19), .lit (.int .i64 12), .lit (.int .i64 12), .lit (.int .i64 83), .lit (.int .i64 3), .lit (.int .i64 131), .lit (.int .i64 3), .lit (.int .i64 8), .lit (.int .i64 67), .lit (.int .i64 19), .lit (.int .i64 8), .lit (.int .i64 32), .lit (.int .i64 3), .lit (.int .i64 147)]
def laid_replica_replicaref07_five {H : Type} : DataW H := .agg [.lit (.int .i64 1), .lit (.int .i64 2), .lit (.int .i64 4), .lit (.int .i64 8), .lit (.int .i64 16)]
def laid_math_bits_deBruijn64tab {H : Type} : DataW H := .agg [.lit (.int .u8 0), .lit (.int .u8 1), .lit (.int .u8 56), .lit (.int .u8 2), .lit (.int .u8 57), .lit (.int .u8 49), .lit (.int .u8 28), .lit (.int .u8 3), .lit (.int .u8 61), .lit (.int .u8 58), .lit (.int .u8 42), .lit (.int .u8 50), .lit (.int .u8 38), .lit (.int .u8 29), .lit (.int .u8 17), .lit (.int .u8 4), .lit (.int .u8 62), .lit (.int .u8 47), .lit (.int .u8 59), .lit (.int .u8 36), .lit (.int .u8 45), .lit (.int .u8 43), .lit (.int .u8 51), .lit (.int .u8 22), .lit (.int .u8 53), .lit (.int .u8 39), .lit (.int .u8 33), .lit (.int .u8 30), .lit (.int .u8 24), .lit (.int .u8 18), .lit (.int .u8 12), .lit (.int .u8 5), .lit (.int .u8 63), .lit (.int .u8 55), .lit (.int .u8 48), .lit (.int .u8 27), .lit (.int .u8 60), .lit (.int .u8 41), .lit (.int .u8 37), .lit (.int .u8 16), .lit (.int .u8 46), .lit (.int .u8 35), .lit (.int .u8 44), .lit (.int .u8 21), .lit (.int .u8 52), .lit (.int .u8 32), .lit (.int .u8 23), .lit (.int .u8 11), .lit (.int .u8 54), .lit (.int .u8 26), .lit (.int .u8 40), .lit (.int .u8 15), .lit (.int .u8 34), .lit (.int .u8 20), .lit (.int .u8 31), .lit (.int .u8 10), .lit (.int .u8 25), .lit (.int .u8 14), .lit (.int .u8 19), .lit (.int .u8 9), .lit (.int .u8 13), .lit (.int .u8 8), .lit (.int .u8 7), .lit (.int .u8 6)]

/-- 'replicalaw07.WireName': WHATEVER THE INPUT: true; the input reads as it did. -/
def wireNameSpec : ChangeSpec := { name := "wireName", fn := fun _ => fun
  | [d] => { results := [.lit (.bool true)], args := [d] }
  | _ => none }
def wireNameRow : OpenClaim := { program := "ytbgfoobcpacfeaadoor", sum := "aa72e1e547bddf0388e5a30057bc3cabb45b5ad72b28b7ffd0429ecad805dada", func := "replica/replicalaw07.WireName", spec := "wireName", named := ["replica/wire.blockSizes", "replica/replicaref07.names"], apart := false, laid := [("replica/replicaref07.names", laid_replica_replicaref07_names), ("replica/wire.blockSizes", laid_replica_wire_blockSizes)] }
def WireNameSaid : Prop := wireNameRow.holds Tryd.pinned (OpenSpec.ofChange wireNameSpec)

/-- ITS FALSE NEIGHBOUR: 'it returns false'. Refute it at one input. -/
def wireNameWrong : ChangeSpec := { name := "wireName", fn := fun _ => fun
  | [d] => { results := [.lit (.bool false)], args := [d] }
  | _ => none }
def WireNameWrongFalsely : Prop := wireNameRow.holds Tryd.pinned (OpenSpec.ofChange wireNameWrong)

/-- 'replicalaw07.WirePacket': WHATEVER THE INPUT: true; the input reads as it did. -/
def wirePacketSpec : ChangeSpec := { name := "wirePacket", fn := fun _ => fun
  | [d] => { results := [.lit (.bool true)], args := [d] }
  | _ => none }
def wirePacketRow : OpenClaim := { program := "ytbgfoobcpacfeaadoor", sum := "aa72e1e547bddf0388e5a30057bc3cabb45b5ad72b28b7ffd0429ecad805dada", func := "replica/replicalaw07.WirePacket", spec := "wirePacket", unfollowed := true, recurses := true, named := ["replica/wire.blockSizes", "replica/replicaref07.five", "replica/replicaref07.carries"], apart := false, laid := [("replica/replicaref07.carries", laid_replica_replicaref07_carries), ("replica/replicaref07.five", laid_replica_replicaref07_five), ("replica/wire.blockSizes", laid_replica_wire_blockSizes)] }
def WirePacketSaid : Prop := wirePacketRow.holds Tryd.pinned (OpenSpec.ofChange wirePacketSpec)

/-- ITS FALSE NEIGHBOUR: 'it returns false'. Refute it at one input. -/
def wirePacketWrong : ChangeSpec := { name := "wirePacket", fn := fun _ => fun
  | [d] => { results := [.lit (.bool false)], args := [d] }
  | _ => none }
def WirePacketWrongFalsely : Prop := wirePacketRow.holds Tryd.pinned (OpenSpec.ofChange wirePacketWrong)

/-- 'replicalaw07.WireParse': WHATEVER THE INPUT: true; the input reads as it did. -/
def wireParseSpec : ChangeSpec := { name := "wireParse", fn := fun _ => fun
  | [d] => { results := [.lit (.bool true)], args := [d] }
  | _ => none }
def wireParseRow : OpenClaim := { program := "ytbgfoobcpacfeaadoor", sum := "aa72e1e547bddf0388e5a30057bc3cabb45b5ad72b28b7ffd0429ecad805dada", func := "replica/replicalaw07.WireParse", spec := "wireParse", unfollowed := true, recurses := true, named := ["replica/wire.blockSizes", "replica/replicaref07.five", "replica/replicaref07.carries"], apart := false, laid := [("replica/replicaref07.carries", laid_replica_replicaref07_carries), ("replica/replicaref07.five", laid_replica_replicaref07_five), ("replica/wire.blockSizes", laid_replica_wire_blockSizes)] }
def WireParseSaid : Prop := wireParseRow.holds Tryd.pinned (OpenSpec.ofChange wireParseSpec)

/-- ITS FALSE NEIGHBOUR: 'it returns false'. Refute it at one input. -/
def wireParseWrong : ChangeSpec := { name := "wireParse", fn := fun _ => fun
  | [d] => { results := [.lit (.bool false)], args := [d] }
  | _ => none }
def WireParseWrongFalsely : Prop := wireParseRow.holds Tryd.pinned (OpenSpec.ofChange wireParseWrong)

/-- 'replicalaw07.WireBack': WHATEVER THE INPUT: true; the input reads as it did. -/
def wireBackSpec : ChangeSpec := { name := "wireBack", fn := fun _ => fun
  | [d] => { results := [.lit (.bool true)], args := [d] }
  | _ => none }
def wireBackRow : OpenClaim := { program := "ytbgfoobcpacfeaadoor", sum := "aa72e1e547bddf0388e5a30057bc3cabb45b5ad72b28b7ffd0429ecad805dada", func := "replica/replicalaw07.WireBack", spec := "wireBack", unfollowed := true, recurses := true, named := ["replica/wire.blockSizes"], apart := false, laid := [("replica/wire.blockSizes", laid_replica_wire_blockSizes)] }
def WireBackSaid : Prop := wireBackRow.holds Tryd.pinned (OpenSpec.ofChange wireBackSpec)

/-- ITS FALSE NEIGHBOUR: 'it returns false'. Refute it at one input. -/
def wireBackWrong : ChangeSpec := { name := "wireBack", fn := fun _ => fun
  | [d] => { results := [.lit (.bool false)], args := [d] }
  | _ => none }
def WireBackWrongFalsely : Prop := wireBackRow.holds Tryd.pinned (OpenSpec.ofChange wireBackWrong)

/-- 'replicalaw07.WireOne': WHATEVER THE INPUT: true; the input reads as it did. -/
def wireOneSpec : ChangeSpec := { name := "wireOne", fn := fun _ => fun
  | [d] => { results := [.lit (.bool true)], args := [d] }
  | _ => none }
def wireOneRow : OpenClaim := { program := "ytbgfoobcpacfeaadoor", sum := "aa72e1e547bddf0388e5a30057bc3cabb45b5ad72b28b7ffd0429ecad805dada", func := "replica/replicalaw07.WireOne", spec := "wireOne", unfollowed := true, recurses := true, named := ["replica/wire.blockSizes"], apart := false, laid := [("replica/wire.blockSizes", laid_replica_wire_blockSizes)] }
def WireOneSaid : Prop := wireOneRow.holds Tryd.pinned (OpenSpec.ofChange wireOneSpec)

/-- ITS FALSE NEIGHBOUR: 'it returns false'. Refute it at one input. -/
def wireOneWrong : ChangeSpec := { name := "wireOne", fn := fun _ => fun
  | [d] => { results := [.lit (.bool false)], args := [d] }
  | _ => none }
def WireOneWrongFalsely : Prop := wireOneRow.holds Tryd.pinned (OpenSpec.ofChange wireOneWrong)

/-- 'replicalaw07.WirePrefix': WHATEVER THE INPUT: true; the input reads as it did. -/
def wirePrefixSpec : ChangeSpec := { name := "wirePrefix", fn := fun _ => fun
  | [d1, d2, d3] => { results := [.lit (.bool true)], args := [d1, d2, d3] }
  | _ => none }
def wirePrefixRow : OpenClaim := { program := "ytbgfoobcpacfeaadoor", sum := "aa72e1e547bddf0388e5a30057bc3cabb45b5ad72b28b7ffd0429ecad805dada", func := "replica/replicalaw07.WirePrefix", spec := "wirePrefix", unfollowed := true, recurses := true, named := ["replica/wire.blockSizes"], apart := false, laid := [("replica/wire.blockSizes", laid_replica_wire_blockSizes)] }
def WirePrefixSaid : Prop := wirePrefixRow.holds Tryd.pinned (OpenSpec.ofChange wirePrefixSpec)

/-- ITS FALSE NEIGHBOUR: 'it returns false'. Refute it at one input. -/
def wirePrefixWrong : ChangeSpec := { name := "wirePrefix", fn := fun _ => fun
  | [d1, d2, d3] => { results := [.lit (.bool false)], args := [d1, d2, d3] }
  | _ => none }
def WirePrefixWrongFalsely : Prop := wirePrefixRow.holds Tryd.pinned (OpenSpec.ofChange wirePrefixWrong)

/-- 'replicalaw07.WirePlace': WHATEVER THE INPUT: true; the input reads as it did. -/
def wirePlaceSpec : ChangeSpec := { name := "wirePlace", fn := fun _ => fun
  | [d1, d2] => { results := [.lit (.bool true)], args := [d1, d2] }
  | _ => none }
def wirePlaceRow : OpenClaim := { program := "ytbgfoobcpacfeaadoor", sum := "aa72e1e547bddf0388e5a30057bc3cabb45b5ad72b28b7ffd0429ecad805dada", func := "replica/replicalaw07.WirePlace", spec := "wirePlace", unfollowed := true, recurses := true, named := ["replica/wire.blockSizes"], apart := false, laid := [("replica/wire.blockSizes", laid_replica_wire_blockSizes)] }
def WirePlaceSaid : Prop := wirePlaceRow.holds Tryd.pinned (OpenSpec.ofChange wirePlaceSpec)

/-- ITS FALSE NEIGHBOUR: 'it returns false'. Refute it at one input. -/
def wirePlaceWrong : ChangeSpec := { name := "wirePlace", fn := fun _ => fun
  | [d1, d2] => { results := [.lit (.bool false)], args := [d1, d2] }
  | _ => none }
def WirePlaceWrongFalsely : Prop := wirePlaceRow.holds Tryd.pinned (OpenSpec.ofChange wirePlaceWrong)

/-- 'replicalaw07.WireFrameBack': WHATEVER THE INPUT: true; the input reads as it did. -/
def wireFrameBackSpec : ChangeSpec := { name := "wireFrameBack", fn := fun _ => fun
  | [d] => { results := [.lit (.bool true)], args := [d] }
  | _ => none }
def wireFrameBackRow : OpenClaim := { program := "ytbgfoobcpacfeaadoor", sum := "aa72e1e547bddf0388e5a30057bc3cabb45b5ad72b28b7ffd0429ecad805dada", func := "replica/replicalaw07.WireFrameBack", spec := "wireFrameBack", unfollowed := true, recurses := true, named := ["replica/wire.blockSizes"], apart := false, laid := [("replica/wire.blockSizes", laid_replica_wire_blockSizes)] }
def WireFrameBackSaid : Prop := wireFrameBackRow.holds Tryd.pinned (OpenSpec.ofChange wireFrameBackSpec)

/-- ITS FALSE NEIGHBOUR: 'it returns false'. Refute it at one input. -/
def wireFrameBackWrong : ChangeSpec := { name := "wireFrameBack", fn := fun _ => fun
  | [d] => { results := [.lit (.bool false)], args := [d] }
  | _ => none }
def WireFrameBackWrongFalsely : Prop := wireFrameBackRow.holds Tryd.pinned (OpenSpec.ofChange wireFrameBackWrong)

/-- 'replicalaw07.WireFrameOne': WHATEVER THE INPUT: true; the input reads as it did. -/
def wireFrameOneSpec : ChangeSpec := { name := "wireFrameOne", fn := fun _ => fun
  | [d] => { results := [.lit (.bool true)], args := [d] }
  | _ => none }
def wireFrameOneRow : OpenClaim := { program := "ytbgfoobcpacfeaadoor", sum := "aa72e1e547bddf0388e5a30057bc3cabb45b5ad72b28b7ffd0429ecad805dada", func := "replica/replicalaw07.WireFrameOne", spec := "wireFrameOne", unfollowed := true, recurses := true, named := ["replica/wire.blockSizes"], apart := false, laid := [("replica/wire.blockSizes", laid_replica_wire_blockSizes)] }
def WireFrameOneSaid : Prop := wireFrameOneRow.holds Tryd.pinned (OpenSpec.ofChange wireFrameOneSpec)

/-- ITS FALSE NEIGHBOUR: 'it returns false'. Refute it at one input. -/
def wireFrameOneWrong : ChangeSpec := { name := "wireFrameOne", fn := fun _ => fun
  | [d] => { results := [.lit (.bool false)], args := [d] }
  | _ => none }
def WireFrameOneWrongFalsely : Prop := wireFrameOneRow.holds Tryd.pinned (OpenSpec.ofChange wireFrameOneWrong)

/-- 'replicalaw07.WireTells': WHATEVER THE INPUT: true; the input reads as it did. -/
def wireTellsSpec : ChangeSpec := { name := "wireTells", fn := fun _ => fun
  | [d1, d2, d3, d4] => { results := [.lit (.bool true)], args := [d1, d2, d3, d4] }
  | _ => none }
def wireTellsRow : OpenClaim := { program := "ytbgfoobcpacfeaadoor", sum := "aa72e1e547bddf0388e5a30057bc3cabb45b5ad72b28b7ffd0429ecad805dada", func := "replica/replicalaw07.WireTells", spec := "wireTells", unfollowed := true, recurses := true, named := ["replica/wire.blockSizes"], apart := false, laid := [("replica/wire.blockSizes", laid_replica_wire_blockSizes)] }
def WireTellsSaid : Prop := wireTellsRow.holds Tryd.pinned (OpenSpec.ofChange wireTellsSpec)

/-- ITS FALSE NEIGHBOUR: 'it returns false'. Refute it at one input. -/
def wireTellsWrong : ChangeSpec := { name := "wireTells", fn := fun _ => fun
  | [d1, d2, d3, d4] => { results := [.lit (.bool false)], args := [d1, d2, d3, d4] }
  | _ => none }
def WireTellsWrongFalsely : Prop := wireTellsRow.holds Tryd.pinned (OpenSpec.ofChange wireTellsWrong)

/-- 'replicalaw07.WireLists': WHATEVER THE INPUT: true; the input reads as it did. -/
def wireListsSpec : ChangeSpec := { name := "wireLists", fn := fun _ => fun
  | [d1, d2] => { results := [.lit (.bool true)], args := [d1, d2] }
  | _ => none }
def wireListsRow : OpenClaim := { program := "ytbgfoobcpacfeaadoor", sum := "aa72e1e547bddf0388e5a30057bc3cabb45b5ad72b28b7ffd0429ecad805dada", func := "replica/replicalaw07.WireLists", spec := "wireLists", unfollowed := true, recurses := true, named := ["replica/wire.blockSizes"], apart := false, laid := [("replica/wire.blockSizes", laid_replica_wire_blockSizes)] }
def WireListsSaid : Prop := wireListsRow.holds Tryd.pinned (OpenSpec.ofChange wireListsSpec)

/-- ITS FALSE NEIGHBOUR: 'it returns false'. Refute it at one input. -/
def wireListsWrong : ChangeSpec := { name := "wireLists", fn := fun _ => fun
  | [d1, d2] => { results := [.lit (.bool false)], args := [d1, d2] }
  | _ => none }
def WireListsWrongFalsely : Prop := wireListsRow.holds Tryd.pinned (OpenSpec.ofChange wireListsWrong)

/-- 'replicalaw07.WireCarry': WHATEVER THE INPUT: true; the input reads as it did. -/
def wireCarrySpec : ChangeSpec := { name := "wireCarry", fn := fun _ => fun
  | [d1, d2] => { results := [.lit (.bool true)], args := [d1, d2] }
  | _ => none }
def wireCarryRow : OpenClaim := { program := "ytbgfoobcpacfeaadoor", sum := "aa72e1e547bddf0388e5a30057bc3cabb45b5ad72b28b7ffd0429ecad805dada", func := "replica/replicalaw07.WireCarry", spec := "wireCarry", unfollowed := true, recurses := true, named := ["replica/wire.blockSizes", "math/bits.deBruijn64tab"], apart := false, laid := [("math/bits.deBruijn64tab", laid_math_bits_deBruijn64tab), ("replica/wire.blockSizes", laid_replica_wire_blockSizes)] }
def WireCarrySaid : Prop := wireCarryRow.holds Tryd.pinned (OpenSpec.ofChange wireCarrySpec)

/-- ITS FALSE NEIGHBOUR: 'it returns false'. Refute it at one input. -/
def wireCarryWrong : ChangeSpec := { name := "wireCarry", fn := fun _ => fun
  | [d1, d2] => { results := [.lit (.bool false)], args := [d1, d2] }
  | _ => none }
def WireCarryWrongFalsely : Prop := wireCarryRow.holds Tryd.pinned (OpenSpec.ofChange wireCarryWrong)

/- THE SECOND FORM. 'bulk': how many values and letters a reading holds, each counted each time it is reached (what is shared counts as often as it is met; a slice's spare places count too). A statement '..UptoSaid' is the law's where the arguments, and the package variables that the reading takes, are together of bulk at most 1048576: NARROWER than '..Said'. Prove '..Said' where nothing that the law and all that it calls make is longer than what came in: it says more and counts as full. Else prove '..UptoSaid'. A law counts once. -/
mutual
def uptoBulk {H : Type} : DataW H → Nat
  | .lit (.string bytes) => bytes.length + 1
  | .lit _ => 1
  | .nil => 1
  | .ptr d => uptoBulk d + 1
  | .slice elems spare => uptoBulkAll elems + uptoBulkAll spare + 1
  | .agg parts => uptoBulkAll parts + 1
  | .iface _ d => uptoBulk d + 1
  | .map entries => uptoBulkEntries entries + 1
  | .held _ => 1
def uptoBulkAll {H : Type} : List (DataW H) → Nat
  | [] => 0
  | d :: r => uptoBulk d + uptoBulkAll r
def uptoBulkEntries {H : Type} : List (Lit × DataW H) → Nat
  | [] => 0
  | x :: r => uptoBulkEntry x + uptoBulkEntries r
def uptoBulkEntry {H : Type} : Lit × DataW H → Nat
  | (.string bytes, d) => bytes.length + uptoBulk d + 1
  | (_, d) => uptoBulk d + 1
 end
def uptoSmall : (H : Type) → List (DataW H) → Bool := fun _ ds => decide (uptoBulkAll ds ≤ 1048576)
def OpenSpec.upto (s : _root_.Go.ChangeSpec) : _root_.Go.OpenSpec := { _root_.Go.OpenSpec.ofChange s with cond := some uptoSmall }

/-- 'replicalaw07.WireName', WHERE WHAT IT READS IS OF BULK AT MOST 1048576: true; the input reads as it did. -/
def wireNameUptoRow : OpenClaim := { program := "ytbgfoobcpacfeaadoor", sum := "aa72e1e547bddf0388e5a30057bc3cabb45b5ad72b28b7ffd0429ecad805dada", func := "replica/replicalaw07.WireName", spec := "wireName", named := ["replica/wire.blockSizes", "replica/replicaref07.names"], apart := false, laid := [("replica/replicaref07.names", laid_replica_replicaref07_names), ("replica/wire.blockSizes", laid_replica_wire_blockSizes)], narrowed := true }
def WireNameUptoSaid : Prop := wireNameUptoRow.holds Tryd.pinned (OpenSpec.upto wireNameSpec)

/-- 'replicalaw07.WirePacket', WHERE WHAT IT READS IS OF BULK AT MOST 1048576: true; the input reads as it did. -/
def wirePacketUptoRow : OpenClaim := { program := "ytbgfoobcpacfeaadoor", sum := "aa72e1e547bddf0388e5a30057bc3cabb45b5ad72b28b7ffd0429ecad805dada", func := "replica/replicalaw07.WirePacket", spec := "wirePacket", unfollowed := true, recurses := true, named := ["replica/wire.blockSizes", "replica/replicaref07.five", "replica/replicaref07.carries"], apart := false, laid := [("replica/replicaref07.carries", laid_replica_replicaref07_carries), ("replica/replicaref07.five", laid_replica_replicaref07_five), ("replica/wire.blockSizes", laid_replica_wire_blockSizes)], narrowed := true }
def WirePacketUptoSaid : Prop := wirePacketUptoRow.holds Tryd.pinned (OpenSpec.upto wirePacketSpec)

/-- 'replicalaw07.WireParse', WHERE WHAT IT READS IS OF BULK AT MOST 1048576: true; the input reads as it did. -/
def wireParseUptoRow : OpenClaim := { program := "ytbgfoobcpacfeaadoor", sum := "aa72e1e547bddf0388e5a30057bc3cabb45b5ad72b28b7ffd0429ecad805dada", func := "replica/replicalaw07.WireParse", spec := "wireParse", unfollowed := true, recurses := true, named := ["replica/wire.blockSizes", "replica/replicaref07.five", "replica/replicaref07.carries"], apart := false, laid := [("replica/replicaref07.carries", laid_replica_replicaref07_carries), ("replica/replicaref07.five", laid_replica_replicaref07_five), ("replica/wire.blockSizes", laid_replica_wire_blockSizes)], narrowed := true }
def WireParseUptoSaid : Prop := wireParseUptoRow.holds Tryd.pinned (OpenSpec.upto wireParseSpec)

/-- 'replicalaw07.WireBack', WHERE WHAT IT READS IS OF BULK AT MOST 1048576: true; the input reads as it did. -/
def wireBackUptoRow : OpenClaim := { program := "ytbgfoobcpacfeaadoor", sum := "aa72e1e547bddf0388e5a30057bc3cabb45b5ad72b28b7ffd0429ecad805dada", func := "replica/replicalaw07.WireBack", spec := "wireBack", unfollowed := true, recurses := true, named := ["replica/wire.blockSizes"], apart := false, laid := [("replica/wire.blockSizes", laid_replica_wire_blockSizes)], narrowed := true }
def WireBackUptoSaid : Prop := wireBackUptoRow.holds Tryd.pinned (OpenSpec.upto wireBackSpec)

/-- 'replicalaw07.WireOne', WHERE WHAT IT READS IS OF BULK AT MOST 1048576: true; the input reads as it did. -/
def wireOneUptoRow : OpenClaim := { program := "ytbgfoobcpacfeaadoor", sum := "aa72e1e547bddf0388e5a30057bc3cabb45b5ad72b28b7ffd0429ecad805dada", func := "replica/replicalaw07.WireOne", spec := "wireOne", unfollowed := true, recurses := true, named := ["replica/wire.blockSizes"], apart := false, laid := [("replica/wire.blockSizes", laid_replica_wire_blockSizes)], narrowed := true }
def WireOneUptoSaid : Prop := wireOneUptoRow.holds Tryd.pinned (OpenSpec.upto wireOneSpec)

/-- 'replicalaw07.WirePrefix', WHERE WHAT IT READS IS OF BULK AT MOST 1048576: true; the input reads as it did. -/
def wirePrefixUptoRow : OpenClaim := { program := "ytbgfoobcpacfeaadoor", sum := "aa72e1e547bddf0388e5a30057bc3cabb45b5ad72b28b7ffd0429ecad805dada", func := "replica/replicalaw07.WirePrefix", spec := "wirePrefix", unfollowed := true, recurses := true, named := ["replica/wire.blockSizes"], apart := false, laid := [("replica/wire.blockSizes", laid_replica_wire_blockSizes)], narrowed := true }
def WirePrefixUptoSaid : Prop := wirePrefixUptoRow.holds Tryd.pinned (OpenSpec.upto wirePrefixSpec)

/-- 'replicalaw07.WirePlace', WHERE WHAT IT READS IS OF BULK AT MOST 1048576: true; the input reads as it did. -/
def wirePlaceUptoRow : OpenClaim := { program := "ytbgfoobcpacfeaadoor", sum := "aa72e1e547bddf0388e5a30057bc3cabb45b5ad72b28b7ffd0429ecad805dada", func := "replica/replicalaw07.WirePlace", spec := "wirePlace", unfollowed := true, recurses := true, named := ["replica/wire.blockSizes"], apart := false, laid := [("replica/wire.blockSizes", laid_replica_wire_blockSizes)], narrowed := true }
def WirePlaceUptoSaid : Prop := wirePlaceUptoRow.holds Tryd.pinned (OpenSpec.upto wirePlaceSpec)

/-- 'replicalaw07.WireFrameBack', WHERE WHAT IT READS IS OF BULK AT MOST 1048576: true; the input reads as it did. -/
def wireFrameBackUptoRow : OpenClaim := { program := "ytbgfoobcpacfeaadoor", sum := "aa72e1e547bddf0388e5a30057bc3cabb45b5ad72b28b7ffd0429ecad805dada", func := "replica/replicalaw07.WireFrameBack", spec := "wireFrameBack", unfollowed := true, recurses := true, named := ["replica/wire.blockSizes"], apart := false, laid := [("replica/wire.blockSizes", laid_replica_wire_blockSizes)], narrowed := true }
def WireFrameBackUptoSaid : Prop := wireFrameBackUptoRow.holds Tryd.pinned (OpenSpec.upto wireFrameBackSpec)

/-- 'replicalaw07.WireFrameOne', WHERE WHAT IT READS IS OF BULK AT MOST 1048576: true; the input reads as it did. -/
def wireFrameOneUptoRow : OpenClaim := { program := "ytbgfoobcpacfeaadoor", sum := "aa72e1e547bddf0388e5a30057bc3cabb45b5ad72b28b7ffd0429ecad805dada", func := "replica/replicalaw07.WireFrameOne", spec := "wireFrameOne", unfollowed := true, recurses := true, named := ["replica/wire.blockSizes"], apart := false, laid := [("replica/wire.blockSizes", laid_replica_wire_blockSizes)], narrowed := true }
def WireFrameOneUptoSaid : Prop := wireFrameOneUptoRow.holds Tryd.pinned (OpenSpec.upto wireFrameOneSpec)

/-- 'replicalaw07.WireTells', WHERE WHAT IT READS IS OF BULK AT MOST 1048576: true; the input reads as it did. -/
def wireTellsUptoRow : OpenClaim := { program := "ytbgfoobcpacfeaadoor", sum := "aa72e1e547bddf0388e5a30057bc3cabb45b5ad72b28b7ffd0429ecad805dada", func := "replica/replicalaw07.WireTells", spec := "wireTells", unfollowed := true, recurses := true, named := ["replica/wire.blockSizes"], apart := false, laid := [("replica/wire.blockSizes", laid_replica_wire_blockSizes)], narrowed := true }
def WireTellsUptoSaid : Prop := wireTellsUptoRow.holds Tryd.pinned (OpenSpec.upto wireTellsSpec)

/-- 'replicalaw07.WireLists', WHERE WHAT IT READS IS OF BULK AT MOST 1048576: true; the input reads as it did. -/
def wireListsUptoRow : OpenClaim := { program := "ytbgfoobcpacfeaadoor", sum := "aa72e1e547bddf0388e5a30057bc3cabb45b5ad72b28b7ffd0429ecad805dada", func := "replica/replicalaw07.WireLists", spec := "wireLists", unfollowed := true, recurses := true, named := ["replica/wire.blockSizes"], apart := false, laid := [("replica/wire.blockSizes", laid_replica_wire_blockSizes)], narrowed := true }
def WireListsUptoSaid : Prop := wireListsUptoRow.holds Tryd.pinned (OpenSpec.upto wireListsSpec)

/-- 'replicalaw07.WireCarry', WHERE WHAT IT READS IS OF BULK AT MOST 1048576: true; the input reads as it did. -/
def wireCarryUptoRow : OpenClaim := { program := "ytbgfoobcpacfeaadoor", sum := "aa72e1e547bddf0388e5a30057bc3cabb45b5ad72b28b7ffd0429ecad805dada", func := "replica/replicalaw07.WireCarry", spec := "wireCarry", unfollowed := true, recurses := true, named := ["replica/wire.blockSizes", "math/bits.deBruijn64tab"], apart := false, laid := [("math/bits.deBruijn64tab", laid_math_bits_deBruijn64tab), ("replica/wire.blockSizes", laid_replica_wire_blockSizes)], narrowed := true }
def WireCarryUptoSaid : Prop := wireCarryUptoRow.holds Tryd.pinned (OpenSpec.upto wireCarrySpec)

end Rows
end Go.Proofs.YtbgfoobcpacfeaaDoor
