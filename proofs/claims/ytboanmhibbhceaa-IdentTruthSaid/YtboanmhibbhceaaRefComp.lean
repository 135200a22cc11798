/- The document's small functions of Compare. -/
import Derived.Test.YtboanmhibbhceaaPairs3
namespace Go.Proofs.Ytboanmhibbhceaa
open Go.RowKit
set_option linter.unusedVariables false
set_option linter.unusedSimpArgs false

namespace Spec
def mirror (k : Int) : Int := if k = 1 then 2 else if k = 2 then 1 else if k = 3 then 4 else if k = 4 then 3 else k
def way (z o : Bool) (both source : Int) : Int := if z = true ∧ o = true then both else if z = true then source else if o = true then mirror source else -1
end Spec

theorem mirror_cases (k : Int) : k = 0 ∨ k = 1 ∨ k = 2 ∨ k = 3 ∨ k = 4 ∨ k < 0 ∨ 5 ≤ k := by omega

set_option maxRecDepth 100000 in
set_option maxHeartbeats 4000000 in
theorem refMirror_calls (k r : Int) (w : World) : Pur Try.prog 34 #[.agg #[.int .i64 k, .int .i64 r]] w (.agg #[.int .i64 (Spec.mirror k), .int .i64 r]) := by
  unfold Pur
  rcases mirror_cases k with rfl | rfl | rfl | rfl | rfl | h | h
  all_goals
    go_enter Try.func34, Try.ntmps34
    go_wp2
    all_goals refine bodyPost_ret (v := .agg #[.int .i64 (Spec.mirror _), .int .i64 r]) ?_ rfl ⟨rfl, (by first | exact Below.refl _ _ | exact below_alloc1 _ _ | exact below_alloc2 _ _ _ | exact below_alloc3 _ _ _ _ | (repeat' (first | assumption | exact Below.refl _ _ | exact below_alloc1 _ _ | exact below_alloc2 _ _ _ | exact below_alloc3 _ _ _ _ | (refine Below.drew ?_) | (refine below_wb ?_ ?_) | (refine Below.alloc ?_ ?_ _) | omega | (simp; done) | (simp; omega))))⟩
    all_goals simp [results, Try.results34, go_sem, Spec.mirror]
    all_goals (try omega)
    all_goals ((repeat' split) <;> first | rfl | (simp; done) | omega | (simp_all; omega))

set_option maxHeartbeats 2000000 in
theorem refNone_calls (x : Int) (w : World) : Pur Try.prog 30 #[.int .u64 x] w (.bool (x == 0 || x == 4)) := by
  unfold Pur
  go_enter Try.func30, Try.ntmps30
  go_wp2
  all_goals go_ret
  all_goals refine ⟨ret_bool ?_, (by first | exact Below.refl _ _ | exact below_alloc1 _ _ | exact below_alloc2 _ _ _ | exact below_alloc3 _ _ _ _ | (repeat' (first | assumption | exact Below.refl _ _ | exact below_alloc1 _ _ | exact below_alloc2 _ _ _ | exact below_alloc3 _ _ _ _ | (refine Below.drew ?_) | (refine below_wb ?_ ?_) | (refine Below.alloc ?_ ?_ _) | omega | (simp; done) | (simp; omega))))⟩
  all_goals (simp_all)

set_option maxHeartbeats 2000000 in
theorem refMatch_calls (x y : Int) (w : World) : Pur Try.prog 67 #[.int .u64 x, .int .u64 y] w (.bool (Spec.mtch x y)) := by
  unfold Pur
  go_enter Try.func67, Try.ntmps67
  go_wp2
  all_goals go_ret
  all_goals refine ⟨ret_bool ?_, (by first | exact Below.refl _ _ | exact below_alloc1 _ _ | exact below_alloc2 _ _ _ | exact below_alloc3 _ _ _ _ | (repeat' (first | assumption | exact Below.refl _ _ | exact below_alloc1 _ _ | exact below_alloc2 _ _ _ | exact below_alloc3 _ _ _ _ | (refine Below.drew ?_) | (refine below_wb ?_ ?_) | (refine Below.alloc ?_ ?_ _) | omega | (simp; done) | (simp; omega))))⟩
  all_goals (unfold Spec.mtch; simp_all)

set_option maxHeartbeats 2000000 in
theorem refWay_calls (z o : Bool) (both source : Int) (w : World) : Pur Try.prog 66 #[.bool z, .bool o, .int .i64 both, .int .i64 source] w (.int .i64 (Spec.way z o both source)) := by
  unfold Pur
  cases z <;> cases o
  all_goals
    go_enter Try.func66, Try.ntmps66
    go_wp2_with (first | (go_at_call 34; refine (refMirror_calls _ _ _).out.mono ?_; rintro e w1 ⟨rfl, hb1⟩; have hz := hb1.size) | fail)
    all_goals go_ret
    all_goals exact ⟨ret_i64 (by simp [Spec.way]), (by first | exact Below.refl _ _ | exact below_alloc1 _ _ | exact below_alloc2 _ _ _ | exact below_alloc3 _ _ _ _ | (repeat' (first | assumption | exact Below.refl _ _ | exact below_alloc1 _ _ | exact below_alloc2 _ _ _ | exact below_alloc3 _ _ _ _ | (refine Below.drew ?_) | (refine below_wb ?_ ?_) | (refine Below.alloc ?_ ?_ _) | omega | (simp; done) | (simp; omega))))⟩

set_option maxHeartbeats 2000000 in
theorem refOld_calls (x : Int) (g : G) (w : World) : Pur Try.prog 68 #[.int .u64 x, .agg (gc g)] w (.bool (Spec.old x g)) := by
  unfold Pur
  cases e1 : Spec.mtch x g.o
  all_goals
    have H1 := Lib.hid e1
    clear e1
    go_enter Try.func68, Try.ntmps68
    go_wp2_with (go_at_call 67; refine (refMatch_calls _ _ _).out.mono ?_; (try rw [H1.out]); rintro e w1 ⟨rfl, hb1⟩; first | (obtain ⟨w2, rfl, hb3, hz0⟩ := behind_alloc1 hb1; clear hb1) | (obtain ⟨w4, rfl, hb4, _, hy0⟩ := behind_wb1 (B := w.heap.size) hb1 hz0 (by omega); have hb5 := hb3.trans hb4; clear hb1 hb3 hb4 hz0))
    all_goals go_ret
    all_goals exact ⟨ret_bool (by simp [Spec.old, H1.out]), (by first | exact Below.refl _ _ | exact below_alloc1 _ _ | exact below_alloc2 _ _ _ | exact below_alloc3 _ _ _ _ | (repeat' (first | assumption | exact Below.refl _ _ | exact below_alloc1 _ _ | exact below_alloc2 _ _ _ | exact below_alloc3 _ _ _ _ | (refine Below.drew ?_) | (refine below_wb ?_ ?_) | (refine Below.alloc ?_ ?_ _) | omega | (simp; done) | (simp; omega))))⟩
end Go.Proofs.Ytboanmhibbhceaa
