/- What the walks of the door's seat lean on beside Wb. -/
import Derived.Test.YtboanmhibbhceaaDoorWb
import Derived.Outline
import Derived.RegionTactic
namespace Go.Proofs.YtboanmhibbhceaaDoor
open Go.RowKit
set_option linter.unusedSimpArgs false

structure G where
  c : Int
  b : Int
  o : Int
  p : Int

/-- The four cells of a Gens. -/
abbrev gc (g : G) : Array Value := #[.int .u64 g.c, .int .u64 g.b, .int .u64 g.o, .int .u64 g.p]

namespace Spec
def isNew (g : G) : Bool := g.c == 0 || g.c == 4
end Spec

abbrev vr (t : Int × Int × Int) : Value := .tuple #[.agg #[.int .i64 t.1, .int .i64 t.2.1], .int .i64 t.2.2]
theorem ret_i64 {a b : Int} (h : a = b) : Ending.returned (.int .i64 a) = .returned (.int .i64 b) := by rw [h]
theorem ret_bool {a b : Bool} (h : a = b) : Ending.returned (.bool a) = .returned (.bool b) := by rw [h]

set_option maxHeartbeats 400000 in
theorem isNew_calls (g : G) (w : World) : Pur Tryd.prog 40 #[.agg (gc g)] w (.bool (Spec.isNew g)) := by
  unfold Pur
  go_enter Tryd.func40, Tryd.ntmps40
  go_wp2
  all_goals go_ret
  all_goals exact ⟨by simp_all [Spec.isNew], below_alloc1 _ _⟩
end Go.Proofs.YtboanmhibbhceaaDoor
