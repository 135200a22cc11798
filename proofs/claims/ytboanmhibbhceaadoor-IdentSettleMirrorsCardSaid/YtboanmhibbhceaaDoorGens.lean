/- What the walks of the door's seat lean on beside Wb. -/
import Derived.Test.YtboanmhibbhceaaDoorWb
namespace Go.Proofs.YtboanmhibbhceaaDoor
open Go.RowKit

abbrev vr (t : Int × Int × Int) : Value := .tuple #[.agg #[.int .i64 t.1, .int .i64 t.2.1], .int .i64 t.2.2]
theorem ret_i64 {a b : Int} (h : a = b) : Ending.returned (.int .i64 a) = .returned (.int .i64 b) := by rw [h]
theorem ret_bool {a b : Bool} (h : a = b) : Ending.returned (.bool a) = .returned (.bool b) := by rw [h]
end Go.Proofs.YtboanmhibbhceaaDoor
