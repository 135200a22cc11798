/- The table of the fourteen rules. -/
import Derived.Test.YtboanmhibbhceaaDoorComp
namespace Go.Proofs.YtboanmhibbhceaaDoor
open Go.RowKit
set_option linter.unusedVariables false
set_option linter.unusedSimpArgs false

abbrev ruleCells : Array Value := #[.int .i64 1, .func (Fn.func 23) #[] #[], .int .i64 2, .func (Fn.func 24) #[] #[], .int .i64 3, .func (Fn.func 25) #[] #[], .int .i64 4, .func (Fn.func 26) #[] #[], .int .i64 5, .func (Fn.func 27) #[] #[], .int .i64 6, .func (Fn.func 28) #[] #[], .int .i64 7, .func (Fn.func 29) #[] #[], .int .i64 8, .func (Fn.func 30) #[] #[], .int .i64 9, .func (Fn.func 31) #[] #[], .int .i64 10, .func (Fn.func 32) #[] #[], .int .i64 11, .func (Fn.func 33) #[] #[], .int .i64 12, .func (Fn.func 34) #[] #[], .int .i64 13, .func (Fn.func 35) #[] #[], .int .i64 14, .func (Fn.func 36) #[] #[]]

set_option maxRecDepth 100000 in
set_option maxHeartbeats 8000000 in
theorem rules_calls (w : World) : Calls Tryd.prog 20 #[] w fun e w' => e = .returned (.slice (some ⟨w.heap.size, 0, none⟩) 14 14) ∧ w' = w.alloc (.cells ruleCells 56) := by
  go_enter Tryd.func20, Tryd.ntmps20
  go_wp2_with fail
  go_ret
  exact ⟨rfl, rfl⟩
end Go.Proofs.YtboanmhibbhceaaDoor
