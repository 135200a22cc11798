/- What a row lays for the packets of the document: its two tables, and the sizes. -/
import Derived.Test.YtbgfoobcpacfeaaDoorPk8
import Derived.Test.YtbgfoobcpacfeaaDoorRfFits
namespace Go.Proofs.YtbgfoobcpacfeaaDoor
open Go.RowKit Go.ChangeShapes Go.WideShapes Go.ChangeAt
set_option maxRecDepth 100000
set_option linter.unusedVariables false
set_option linter.unusedSimpArgs false

abbrev laid3 : List (String × DataW Unit) := [("replica/replicaref07.carries", Rows.laid_replica_replicaref07_carries), ("replica/replicaref07.five", Rows.laid_replica_replicaref07_five), ("replica/wire.blockSizes", Rows.laid_replica_wire_blockSizes)]
theorem three_of {W : World} (h : laidMetH Tryd.prog laid3 W) : Cars W ∧ Fives W ∧ Szs W := by
  obtain ⟨ps, h⟩ := laid_of (by kernel_rfl) h
  obtain ⟨h1, ps1, h'⟩ := laid_var h (g := 2) (Wi.carr.map fun n => .int .i64 (n : Nat)) (by kernel_rfl) (t := 127) (by kernel_rfl) (e := 3) (m := 26) (by kernel_rfl) (by kernel_rfl) (by kernel_rfl) (.inl ⟨.i64, by kernel_rfl⟩) rfl
  obtain ⟨h2, ps2, h''⟩ := laid_var h' (g := 1) ([1, 2, 4, 8, 16].map fun n => .int .i64 (n : Nat)) (by kernel_rfl) (t := 86) (by kernel_rfl) (e := 3) (m := 5) (by kernel_rfl) (by kernel_rfl) (by kernel_rfl) (.inl ⟨.i64, by kernel_rfl⟩) rfl
  have k1 := lies_of (by decide) h1
  have k2 := lies_of (by decide) h2
  rw [List.map_map] at k1 k2
  exact ⟨k1, k2, (laid_szs h'').1⟩
theorem door_met3 (os : Os) (args : Array Value) : laidMetH Tryd.prog laid3 ((World.doorLaid Tryd.prog 400 os).forCall (fun _ _ => 0) ⟨#[], args, []⟩).memory :=
  laidMetH_of_parts3 (fuel := 8) (laidMet_of_run' 8 (by kernel_rfl) (by kernel_rfl)) (by kernel_rfl) (by kernel_rfl)
end Go.Proofs.YtbgfoobcpacfeaaDoor
