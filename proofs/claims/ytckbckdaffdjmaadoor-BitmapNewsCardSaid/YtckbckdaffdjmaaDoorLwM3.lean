/- The arguments of chapter 3's laws; the door's own heap meets the condition. -/
import Derived.Test.YtckbckdaffdjmaaDoorLwU
import Derived.Test.YtckbckdaffdjmaaDoorBase
import Derived.Test.YtckbckdaffdjmaaDoorCards
import Derived.Test.YtckbckdaffdjmaaDoorTie
import Derived.LaidMore
import Derived.SevenTiedAt
namespace Go.Proofs.YtckbckdaffdjmaaDoor
open Go.RowKit Go.ChangeShapes
set_option maxRecDepth 100000
set_option linter.unusedVariables false
set_option linter.unusedSimpArgs false

theorem made_leaves : leaves Tryd.prog 10 24 = some [.bool, .int .i64, .other 22] := by kernel_rfl
section
variable {H : Type} {enc : TypeId × Value → H} {W : World} {b base : Nat} {spare : Nat → Bool} {held : Bool}
/-- A Made that came in. -/
theorem open_made {v : Value} {d : DataW H} {ps : List MemPlace} (hv : Value.okWide Tryd.prog W .any b 24 v) (h : DataW.Trod enc Tryd.prog W base spare held 24 v d ps) (hw : ∀ n ∈ d.weights Tryd.prog 24, n ≤ reachBytes) :
    ∃ (fr : Bool) (n : Int) (xv : Value) (V : List UInt64), v = .agg #[.bool fr, .int .i64 n, xv] ∧ (Lit.int .i64 n).wf = true ∧ RU W xv V ∧ V.length ≤ 17592186043904 := by
  obtain ⟨cs, rfl, hl⟩ := open_leavesW (R := reachBytes) made_leaves (by kernel_rfl) hv h hw
  obtain ⟨fr, _, rfl, hl1⟩ := hl.bool
  obtain ⟨n, _, rfl, hn, hl⟩ := hl1.int
  obtain ⟨vp, _, rfl, ⟨fuel, x, hx, hwx⟩, hl⟩ := hl.other
  obtain rfl := hl.unnil
  obtain ⟨l, hr, hlen⟩ := ru_of_trod hx hwx
  exact ⟨fr, n, vp, l, rfl, hn, hr, hlen⟩
end
theorem door_met (os : Os) (args : Array Value) : laidMetH Tryd.prog [("math/bits.deBruijn64tab", Rows.laid_math_bits_deBruijn64tab)] ((World.doorLaid Tryd.prog 400 os).forCall (fun _ _ => 0) ⟨#[], args, []⟩).memory :=
  laidMetH_of_parts3 (fuel := 8) (laidMet_of_run' 8 (by kernel_rfl) (by kernel_rfl)) (by kernel_rfl) (by kernel_rfl)
/-- The zero Made, as an argument. -/
abbrev zeroM : Value := .agg #[.bool false, .int .i64 0, .slice none 0 0]
end Go.Proofs.YtckbckdaffdjmaaDoor
