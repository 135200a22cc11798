/- The table of the fourteen rules. -/
import Derived.Test.YtboanmhibbhceaaComp
namespace Go.Proofs.Ytboanmhibbhceaa
open Go.RowKit
set_option linter.unusedVariables false
set_option linter.unusedSimpArgs false

abbrev ruleCells : Array Value := #[.int .i64 1, .func (Fn.func 52) #[] #[], .int .i64 2, .func (Fn.func 53) #[] #[], .int .i64 3, .func (Fn.func 54) #[] #[], .int .i64 4, .func (Fn.func 55) #[] #[], .int .i64 5, .func (Fn.func 56) #[] #[], .int .i64 6, .func (Fn.func 57) #[] #[], .int .i64 7, .func (Fn.func 58) #[] #[], .int .i64 8, .func (Fn.func 59) #[] #[], .int .i64 9, .func (Fn.func 60) #[] #[], .int .i64 10, .func (Fn.func 61) #[] #[], .int .i64 11, .func (Fn.func 62) #[] #[], .int .i64 12, .func (Fn.func 63) #[] #[], .int .i64 13, .func (Fn.func 64) #[] #[], .int .i64 14, .func (Fn.func 65) #[] #[]]

set_option maxRecDepth 100000 in
set_option maxHeartbeats 8000000 in
theorem rules_calls (w : World) : Calls Try.prog 35 #[] w fun e w' => e = .returned (.slice (some ⟨w.heap.size, 0, none⟩) 14 14) ∧ w' = w.alloc (.cells ruleCells 73) := by
  go_enter Try.func35, Try.ntmps35
  go_wp2_with fail
  go_ret
  exact ⟨rfl, rfl⟩
end Go.Proofs.Ytboanmhibbhceaa
