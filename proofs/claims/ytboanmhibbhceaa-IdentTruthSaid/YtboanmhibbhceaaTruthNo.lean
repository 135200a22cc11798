/- IdentTruth asks nothing of a first identifier that could not be made. -/
import Derived.Test.YtboanmhibbhceaaTruthMain
namespace Go.Proofs.Ytboanmhibbhceaa
open Go.RowKit
set_option linter.unusedVariables false
set_option linter.unusedSimpArgs false

set_option maxRecDepth 100000 in
set_option maxHeartbeats 40000000 in
theorem identTruth_zero (first : Int) (e0 : (first == 0) = true) (pa : Option Addr) (n cp : Nat) (w : World) : Pur Try.prog 7 #[.bool false, .int .u64 first, .slice pa n cp] w (.bool true) := by
  unfold Pur
  go_enter Try.func7, Try.ntmps7
  go_wp2_with fail
  go_ret
  exact ⟨rfl, (by first | exact Below.refl _ _ | exact below_alloc1 _ _ | exact below_alloc2 _ _ _ | exact below_alloc3 _ _ _ _ | (repeat' (first | assumption | exact Below.refl _ _ | exact below_alloc1 _ _ | exact below_alloc2 _ _ _ | exact below_alloc3 _ _ _ _ | (refine Below.drew ?_) | (refine below_wb ?_ ?_) | (refine Below.alloc ?_ ?_ _) | omega | (simp; done) | (simp; omega))))⟩

set_option maxRecDepth 100000 in
set_option maxHeartbeats 40000000 in
theorem identTruth_askew (first : Int) (e0 : (first == 0) = false) (e16 : (first.tmod 16 != 0) = true) (pa : Option Addr) (n cp : Nat) (w : World) : Pur Try.prog 7 #[.bool false, .int .u64 first, .slice pa n cp] w (.bool true) := by
  unfold Pur
  go_enter Try.func7, Try.ntmps7
  go_wp2_with fail
  go_ret
  exact ⟨rfl, (by first | exact Below.refl _ _ | exact below_alloc1 _ _ | exact below_alloc2 _ _ _ | exact below_alloc3 _ _ _ _ | (repeat' (first | assumption | exact Below.refl _ _ | exact below_alloc1 _ _ | exact below_alloc2 _ _ _ | exact below_alloc3 _ _ _ _ | (refine Below.drew ?_) | (refine below_wb ?_ ?_) | (refine Below.alloc ?_ ?_ _) | omega | (simp; done) | (simp; omega))))⟩
end Go.Proofs.Ytboanmhibbhceaa
