/- Verdicts by the disks and by the policies: the program's calls and the document's, each as one plain function of its numbers. -/
import Derived.Test.YtboanmhibbhceaaPairs
import Derived.Test.YtboanmhibbhceaaSettleSpec
namespace Go.Proofs.Ytboanmhibbhceaa
open Go.RowKit
set_option linter.unusedVariables false
set_option linter.unusedSimpArgs false

namespace Spec
def kinds (k : Int) : Bool := decide (0 ≤ k) && decide (k ≤ 7)
def known (d : Int) : Bool := d == 0 || d == 1 || d == 2
def sideOf (own : Bool) : Int := if own = true then 1 else 2
end Spec


set_option maxHeartbeats 400000 in
theorem kinds_calls (k r : Int) (w : World) : Pur Try.prog 47 #[.agg #[.int .i64 k, .int .i64 r]] w (.bool (Spec.kinds k)) := by
  unfold Pur
  go_enter Try.func47, Try.ntmps47
  go_wp2
  all_goals go_ret
  all_goals refine ⟨ret_bool ?_, (by first | exact Below.refl _ _ | exact below_alloc1 _ _ | exact below_alloc2 _ _ _ | exact below_alloc3 _ _ _ _ | (repeat' (first | assumption | exact Below.refl _ _ | exact below_alloc1 _ _ | exact below_alloc2 _ _ _ | exact below_alloc3 _ _ _ _ | (refine Below.drew ?_) | (refine below_wb ?_ ?_) | (refine Below.alloc ?_ ?_ _) | omega | (simp; done) | (simp; omega))))⟩
  all_goals (try simp only [bne_iff_ne, ne_eq, beq_iff_eq, bne_eq_false_iff_eq, beq_eq_false_iff_ne, Bool.and_eq_true, Bool.or_eq_true, Bool.and_eq_false_iff, Bool.or_eq_false_iff, decide_eq_true_eq, decide_eq_false_iff_not] at *)
  all_goals (unfold Spec.kinds; simp; omega)
set_option maxHeartbeats 400000 in
theorem known_calls (k : Int) (w : World) : Pur Try.prog 70 #[.int .i64 k] w (.bool (Spec.known k)) := by
  unfold Pur
  go_enter Try.func70, Try.ntmps70
  go_wp2
  all_goals go_ret
  all_goals exact ⟨by simp_all [Spec.known], (by first | exact Below.refl _ _ | exact below_alloc1 _ _ | exact below_alloc2 _ _ _ | exact below_alloc3 _ _ _ _ | (repeat' (first | assumption | exact Below.refl _ _ | exact below_alloc1 _ _ | exact below_alloc2 _ _ _ | exact below_alloc3 _ _ _ _ | (refine Below.drew ?_) | (refine below_wb ?_ ?_) | (refine Below.alloc ?_ ?_ _) | omega | (simp; done) | (simp; omega))))⟩
set_option maxHeartbeats 400000 in
theorem source_calls (b : Bool) (w : World) : Pur Try.prog 50 #[.bool b] w (.int .i64 (Spec.source b)) := by
  unfold Pur
  cases b
  all_goals
    go_enter Try.func50, Try.ntmps50
    go_wp2
    go_ret
    exact ⟨rfl, (by first | exact Below.refl _ _ | exact below_alloc1 _ _ | exact below_alloc2 _ _ _ | exact below_alloc3 _ _ _ _ | (repeat' (first | assumption | exact Below.refl _ _ | exact below_alloc1 _ _ | exact below_alloc2 _ _ _ | exact below_alloc3 _ _ _ _ | (refine Below.drew ?_) | (refine below_wb ?_ ?_) | (refine Below.alloc ?_ ?_ _) | omega | (simp; done) | (simp; omega))))⟩
set_option maxHeartbeats 400000 in
theorem target_calls (b : Bool) (w : World) : Pur Try.prog 51 #[.bool b] w (.int .i64 (Spec.target b)) := by
  unfold Pur
  cases b
  all_goals
    go_enter Try.func51, Try.ntmps51
    go_wp2
    go_ret
    exact ⟨rfl, (by first | exact Below.refl _ _ | exact below_alloc1 _ _ | exact below_alloc2 _ _ _ | exact below_alloc3 _ _ _ _ | (repeat' (first | assumption | exact Below.refl _ _ | exact below_alloc1 _ _ | exact below_alloc2 _ _ _ | exact below_alloc3 _ _ _ _ | (refine Below.drew ?_) | (refine below_wb ?_ ?_) | (refine Below.alloc ?_ ?_ _) | omega | (simp; done) | (simp; omega))))⟩
set_option maxHeartbeats 400000 in
theorem sideOf_calls (b : Bool) (w : World) : Pur Try.prog 72 #[.bool b] w (.int .i64 (Spec.sideOf b)) := by
  unfold Pur
  cases b
  all_goals
    go_enter Try.func72, Try.ntmps72
    go_wp2
    go_ret
    exact ⟨rfl, (by first | exact Below.refl _ _ | exact below_alloc1 _ _ | exact below_alloc2 _ _ _ | exact below_alloc3 _ _ _ _ | (repeat' (first | assumption | exact Below.refl _ _ | exact below_alloc1 _ _ | exact below_alloc2 _ _ _ | exact below_alloc3 _ _ _ _ | (refine Below.drew ?_) | (refine below_wb ?_ ?_) | (refine Below.alloc ?_ ?_ _) | omega | (simp; done) | (simp; omega))))⟩

set_option maxRecDepth 100000 in
set_option maxHeartbeats 4000000 in
theorem settle_low (k r own peer : Int) (w : World) (h : k < 0) : Pur Try.prog 37 #[.agg #[.int .i64 k, .int .i64 r], .int .i64 own, .int .i64 peer] w (vr (Spec.settle k r own peer)) := by
  unfold Pur
  go_enter Try.func37, Try.ntmps37
  go_wp2
  all_goals refine bodyPost_ret (v := vr (Spec.settle k r own peer)) ?_ rfl ⟨rfl, (by first | exact Below.refl _ _ | exact below_alloc1 _ _ | exact below_alloc2 _ _ _ | exact below_alloc3 _ _ _ _ | (repeat' (first | assumption | exact Below.refl _ _ | exact below_alloc1 _ _ | exact below_alloc2 _ _ _ | exact below_alloc3 _ _ _ _ | (refine Below.drew ?_) | (refine below_wb ?_ ?_) | (refine Below.alloc ?_ ?_ _) | omega | (simp; done) | (simp; omega))))⟩
  all_goals simp [results, Try.results37, go_sem, Spec.settle, Spec.full]
  all_goals (try simp only [bne_iff_ne, ne_eq, beq_iff_eq, bne_eq_false_iff_eq, beq_eq_false_iff_ne, Bool.and_eq_true, Bool.or_eq_true, Bool.and_eq_false_iff, Bool.or_eq_false_iff, decide_eq_true_eq, decide_eq_false_iff_not] at *)
  all_goals (try omega)
  all_goals ((repeat' split) <;> first | rfl | (simp; done) | omega | (simp_all; done) | (simp_all; omega) | (exfalso; omega))

set_option maxRecDepth 100000 in
set_option maxHeartbeats 4000000 in
theorem settle_high (k r own peer : Int) (w : World) (h0 : 0 ≤ k) (h : 7 < k) : Pur Try.prog 37 #[.agg #[.int .i64 k, .int .i64 r], .int .i64 own, .int .i64 peer] w (vr (Spec.settle k r own peer)) := by
  unfold Pur
  go_enter Try.func37, Try.ntmps37
  go_wp2
  all_goals refine bodyPost_ret (v := vr (Spec.settle k r own peer)) ?_ rfl ⟨rfl, (by first | exact Below.refl _ _ | exact below_alloc1 _ _ | exact below_alloc2 _ _ _ | exact below_alloc3 _ _ _ _ | (repeat' (first | assumption | exact Below.refl _ _ | exact below_alloc1 _ _ | exact below_alloc2 _ _ _ | exact below_alloc3 _ _ _ _ | (refine Below.drew ?_) | (refine below_wb ?_ ?_) | (refine Below.alloc ?_ ?_ _) | omega | (simp; done) | (simp; omega))))⟩
  all_goals simp [results, Try.results37, go_sem, Spec.settle, Spec.full]
  all_goals (try simp only [bne_iff_ne, ne_eq, beq_iff_eq, bne_eq_false_iff_eq, beq_eq_false_iff_ne, Bool.and_eq_true, Bool.or_eq_true, Bool.and_eq_false_iff, Bool.or_eq_false_iff, decide_eq_true_eq, decide_eq_false_iff_not] at *)
  all_goals (try omega)
  all_goals ((repeat' split) <;> first | rfl | (simp; done) | omega | (simp_all; done) | (simp_all; omega) | (exfalso; omega))

set_option maxRecDepth 100000 in
set_option maxHeartbeats 4000000 in
theorem settle_own (k r own peer : Int) (w : World) (hk1 : 0 ≤ k) (hk2 : k ≤ 7) (own0 : (own == 0) = false) (own1 : (own == 1) = false) (own2 : (own == 2) = false) : Pur Try.prog 37 #[.agg #[.int .i64 k, .int .i64 r], .int .i64 own, .int .i64 peer] w (vr (Spec.settle k r own peer)) := by
  unfold Pur
  go_enter Try.func37, Try.ntmps37
  go_wp2
  all_goals refine bodyPost_ret (v := vr (Spec.settle k r own peer)) ?_ rfl ⟨rfl, (by first | exact Below.refl _ _ | exact below_alloc1 _ _ | exact below_alloc2 _ _ _ | exact below_alloc3 _ _ _ _ | (repeat' (first | assumption | exact Below.refl _ _ | exact below_alloc1 _ _ | exact below_alloc2 _ _ _ | exact below_alloc3 _ _ _ _ | (refine Below.drew ?_) | (refine below_wb ?_ ?_) | (refine Below.alloc ?_ ?_ _) | omega | (simp; done) | (simp; omega))))⟩
  all_goals simp [results, Try.results37, go_sem, Spec.settle, Spec.full]
  all_goals (try simp only [bne_iff_ne, ne_eq, beq_iff_eq, bne_eq_false_iff_eq, beq_eq_false_iff_ne, Bool.and_eq_true, Bool.or_eq_true, Bool.and_eq_false_iff, Bool.or_eq_false_iff, decide_eq_true_eq, decide_eq_false_iff_not] at *)
  all_goals (try omega)
  all_goals ((repeat' split) <;> first | rfl | (simp; done) | omega | (simp_all; done) | (simp_all; omega) | (exfalso; omega))

set_option maxRecDepth 100000 in
set_option maxHeartbeats 4000000 in
theorem settle_peer0 (k r peer : Int) (w : World) (hk1 : 0 ≤ k) (hk2 : k ≤ 7) (peer0 : (peer == 0) = false) (peer1 : (peer == 1) = false) (peer2 : (peer == 2) = false) : Pur Try.prog 37 #[.agg #[.int .i64 k, .int .i64 r], .int .i64 0, .int .i64 peer] w (vr (Spec.settle k r 0 peer)) := by
  unfold Pur
  go_enter Try.func37, Try.ntmps37
  go_wp2
  all_goals refine bodyPost_ret (v := vr (Spec.settle k r 0 peer)) ?_ rfl ⟨rfl, (by first | exact Below.refl _ _ | exact below_alloc1 _ _ | exact below_alloc2 _ _ _ | exact below_alloc3 _ _ _ _ | (repeat' (first | assumption | exact Below.refl _ _ | exact below_alloc1 _ _ | exact below_alloc2 _ _ _ | exact below_alloc3 _ _ _ _ | (refine Below.drew ?_) | (refine below_wb ?_ ?_) | (refine Below.alloc ?_ ?_ _) | omega | (simp; done) | (simp; omega))))⟩
  all_goals simp [results, Try.results37, go_sem, Spec.settle, Spec.full]
  all_goals (try simp only [bne_iff_ne, ne_eq, beq_iff_eq, bne_eq_false_iff_eq, beq_eq_false_iff_ne, Bool.and_eq_true, Bool.or_eq_true, Bool.and_eq_false_iff, Bool.or_eq_false_iff, decide_eq_true_eq, decide_eq_false_iff_not] at *)
  all_goals (try omega)
  all_goals ((repeat' split) <;> first | rfl | (simp; done) | omega | (simp_all; done) | (simp_all; omega) | (exfalso; omega))

set_option maxRecDepth 100000 in
set_option maxHeartbeats 4000000 in
theorem settle_peer1 (k r peer : Int) (w : World) (hk1 : 0 ≤ k) (hk2 : k ≤ 7) (peer0 : (peer == 0) = false) (peer1 : (peer == 1) = false) (peer2 : (peer == 2) = false) : Pur Try.prog 37 #[.agg #[.int .i64 k, .int .i64 r], .int .i64 1, .int .i64 peer] w (vr (Spec.settle k r 1 peer)) := by
  unfold Pur
  go_enter Try.func37, Try.ntmps37
  go_wp2
  all_goals refine bodyPost_ret (v := vr (Spec.settle k r 1 peer)) ?_ rfl ⟨rfl, (by first | exact Below.refl _ _ | exact below_alloc1 _ _ | exact below_alloc2 _ _ _ | exact below_alloc3 _ _ _ _ | (repeat' (first | assumption | exact Below.refl _ _ | exact below_alloc1 _ _ | exact below_alloc2 _ _ _ | exact below_alloc3 _ _ _ _ | (refine Below.drew ?_) | (refine below_wb ?_ ?_) | (refine Below.alloc ?_ ?_ _) | omega | (simp; done) | (simp; omega))))⟩
  all_goals simp [results, Try.results37, go_sem, Spec.settle, Spec.full]
  all_goals (try simp only [bne_iff_ne, ne_eq, beq_iff_eq, bne_eq_false_iff_eq, beq_eq_false_iff_ne, Bool.and_eq_true, Bool.or_eq_true, Bool.and_eq_false_iff, Bool.or_eq_false_iff, decide_eq_true_eq, decide_eq_false_iff_not] at *)
  all_goals (try omega)
  all_goals ((repeat' split) <;> first | rfl | (simp; done) | omega | (simp_all; done) | (simp_all; omega) | (exfalso; omega))

set_option maxRecDepth 100000 in
set_option maxHeartbeats 4000000 in
theorem settle_peer2 (k r peer : Int) (w : World) (hk1 : 0 ≤ k) (hk2 : k ≤ 7) (peer0 : (peer == 0) = false) (peer1 : (peer == 1) = false) (peer2 : (peer == 2) = false) : Pur Try.prog 37 #[.agg #[.int .i64 k, .int .i64 r], .int .i64 2, .int .i64 peer] w (vr (Spec.settle k r 2 peer)) := by
  unfold Pur
  go_enter Try.func37, Try.ntmps37
  go_wp2
  all_goals refine bodyPost_ret (v := vr (Spec.settle k r 2 peer)) ?_ rfl ⟨rfl, (by first | exact Below.refl _ _ | exact below_alloc1 _ _ | exact below_alloc2 _ _ _ | exact below_alloc3 _ _ _ _ | (repeat' (first | assumption | exact Below.refl _ _ | exact below_alloc1 _ _ | exact below_alloc2 _ _ _ | exact below_alloc3 _ _ _ _ | (refine Below.drew ?_) | (refine below_wb ?_ ?_) | (refine Below.alloc ?_ ?_ _) | omega | (simp; done) | (simp; omega))))⟩
  all_goals simp [results, Try.results37, go_sem, Spec.settle, Spec.full]
  all_goals (try simp only [bne_iff_ne, ne_eq, beq_iff_eq, bne_eq_false_iff_eq, beq_eq_false_iff_ne, Bool.and_eq_true, Bool.or_eq_true, Bool.and_eq_false_iff, Bool.or_eq_false_iff, decide_eq_true_eq, decide_eq_false_iff_not] at *)
  all_goals (try omega)
  all_goals ((repeat' split) <;> first | rfl | (simp; done) | omega | (simp_all; done) | (simp_all; omega) | (exfalso; omega))

set_option maxRecDepth 100000 in
set_option maxHeartbeats 4000000 in
theorem settle_00 (k r : Int) (w : World) (hk1 : 0 ≤ k) (hk2 : k ≤ 7) : Pur Try.prog 37 #[.agg #[.int .i64 k, .int .i64 r], .int .i64 0, .int .i64 0] w (vr (Spec.settle k r 0 0)) := by
  unfold Pur
  go_enter Try.func37, Try.ntmps37
  go_wp2
  all_goals refine bodyPost_ret (v := vr (Spec.settle k r 0 0)) ?_ rfl ⟨rfl, (by first | exact Below.refl _ _ | exact below_alloc1 _ _ | exact below_alloc2 _ _ _ | exact below_alloc3 _ _ _ _ | (repeat' (first | assumption | exact Below.refl _ _ | exact below_alloc1 _ _ | exact below_alloc2 _ _ _ | exact below_alloc3 _ _ _ _ | (refine Below.drew ?_) | (refine below_wb ?_ ?_) | (refine Below.alloc ?_ ?_ _) | omega | (simp; done) | (simp; omega))))⟩
  all_goals simp [results, Try.results37, go_sem, Spec.settle, Spec.full]
  all_goals (try simp only [bne_iff_ne, ne_eq, beq_iff_eq, bne_eq_false_iff_eq, beq_eq_false_iff_ne, Bool.and_eq_true, Bool.or_eq_true, Bool.and_eq_false_iff, Bool.or_eq_false_iff, decide_eq_true_eq, decide_eq_false_iff_not] at *)
  all_goals (try omega)
  all_goals ((repeat' split) <;> first | rfl | (simp; done) | omega | (simp_all; done) | (simp_all; omega) | (exfalso; omega))

set_option maxRecDepth 100000 in
set_option maxHeartbeats 4000000 in
theorem settle_01 (k r : Int) (w : World) (hk1 : 0 ≤ k) (hk2 : k ≤ 7) : Pur Try.prog 37 #[.agg #[.int .i64 k, .int .i64 r], .int .i64 0, .int .i64 1] w (vr (Spec.settle k r 0 1)) := by
  unfold Pur
  go_enter Try.func37, Try.ntmps37
  go_wp2
  all_goals refine bodyPost_ret (v := vr (Spec.settle k r 0 1)) ?_ rfl ⟨rfl, (by first | exact Below.refl _ _ | exact below_alloc1 _ _ | exact below_alloc2 _ _ _ | exact below_alloc3 _ _ _ _ | (repeat' (first | assumption | exact Below.refl _ _ | exact below_alloc1 _ _ | exact below_alloc2 _ _ _ | exact below_alloc3 _ _ _ _ | (refine Below.drew ?_) | (refine below_wb ?_ ?_) | (refine Below.alloc ?_ ?_ _) | omega | (simp; done) | (simp; omega))))⟩
  all_goals simp [results, Try.results37, go_sem, Spec.settle, Spec.full]
  all_goals (try simp only [bne_iff_ne, ne_eq, beq_iff_eq, bne_eq_false_iff_eq, beq_eq_false_iff_ne, Bool.and_eq_true, Bool.or_eq_true, Bool.and_eq_false_iff, Bool.or_eq_false_iff, decide_eq_true_eq, decide_eq_false_iff_not] at *)
  all_goals (try omega)
  all_goals ((repeat' split) <;> first | rfl | (simp; done) | omega | (simp_all; done) | (simp_all; omega) | (exfalso; omega))

set_option maxRecDepth 100000 in
set_option maxHeartbeats 4000000 in
theorem settle_02 (k r : Int) (w : World) (hk1 : 0 ≤ k) (hk2 : k ≤ 7) : Pur Try.prog 37 #[.agg #[.int .i64 k, .int .i64 r], .int .i64 0, .int .i64 2] w (vr (Spec.settle k r 0 2)) := by
  unfold Pur
  go_enter Try.func37, Try.ntmps37
  go_wp2
  all_goals refine bodyPost_ret (v := vr (Spec.settle k r 0 2)) ?_ rfl ⟨rfl, (by first | exact Below.refl _ _ | exact below_alloc1 _ _ | exact below_alloc2 _ _ _ | exact below_alloc3 _ _ _ _ | (repeat' (first | assumption | exact Below.refl _ _ | exact below_alloc1 _ _ | exact below_alloc2 _ _ _ | exact below_alloc3 _ _ _ _ | (refine Below.drew ?_) | (refine below_wb ?_ ?_) | (refine Below.alloc ?_ ?_ _) | omega | (simp; done) | (simp; omega))))⟩
  all_goals simp [results, Try.results37, go_sem, Spec.settle, Spec.full]
  all_goals (try simp only [bne_iff_ne, ne_eq, beq_iff_eq, bne_eq_false_iff_eq, beq_eq_false_iff_ne, Bool.and_eq_true, Bool.or_eq_true, Bool.and_eq_false_iff, Bool.or_eq_false_iff, decide_eq_true_eq, decide_eq_false_iff_not] at *)
  all_goals (try omega)
  all_goals ((repeat' split) <;> first | rfl | (simp; done) | omega | (simp_all; done) | (simp_all; omega) | (exfalso; omega))

set_option maxRecDepth 100000 in
set_option maxHeartbeats 4000000 in
theorem settle_10 (k r : Int) (w : World) (hk1 : 0 ≤ k) (hk2 : k ≤ 7) : Pur Try.prog 37 #[.agg #[.int .i64 k, .int .i64 r], .int .i64 1, .int .i64 0] w (vr (Spec.settle k r 1 0)) := by
  unfold Pur
  go_enter Try.func37, Try.ntmps37
  go_wp2
  all_goals refine bodyPost_ret (v := vr (Spec.settle k r 1 0)) ?_ rfl ⟨rfl, (by first | exact Below.refl _ _ | exact below_alloc1 _ _ | exact below_alloc2 _ _ _ | exact below_alloc3 _ _ _ _ | (repeat' (first | assumption | exact Below.refl _ _ | exact below_alloc1 _ _ | exact below_alloc2 _ _ _ | exact below_alloc3 _ _ _ _ | (refine Below.drew ?_) | (refine below_wb ?_ ?_) | (refine Below.alloc ?_ ?_ _) | omega | (simp; done) | (simp; omega))))⟩
  all_goals simp [results, Try.results37, go_sem, Spec.settle, Spec.full]
  all_goals (try simp only [bne_iff_ne, ne_eq, beq_iff_eq, bne_eq_false_iff_eq, beq_eq_false_iff_ne, Bool.and_eq_true, Bool.or_eq_true, Bool.and_eq_false_iff, Bool.or_eq_false_iff, decide_eq_true_eq, decide_eq_false_iff_not] at *)
  all_goals (try omega)
  all_goals ((repeat' split) <;> first | rfl | (simp; done) | omega | (simp_all; done) | (simp_all; omega) | (exfalso; omega))

set_option maxRecDepth 100000 in
set_option maxHeartbeats 4000000 in
theorem settle_11 (k r : Int) (w : World) (hk1 : 0 ≤ k) (hk2 : k ≤ 7) : Pur Try.prog 37 #[.agg #[.int .i64 k, .int .i64 r], .int .i64 1, .int .i64 1] w (vr (Spec.settle k r 1 1)) := by
  unfold Pur
  go_enter Try.func37, Try.ntmps37
  go_wp2
  all_goals refine bodyPost_ret (v := vr (Spec.settle k r 1 1)) ?_ rfl ⟨rfl, (by first | exact Below.refl _ _ | exact below_alloc1 _ _ | exact below_alloc2 _ _ _ | exact below_alloc3 _ _ _ _ | (repeat' (first | assumption | exact Below.refl _ _ | exact below_alloc1 _ _ | exact below_alloc2 _ _ _ | exact below_alloc3 _ _ _ _ | (refine Below.drew ?_) | (refine below_wb ?_ ?_) | (refine Below.alloc ?_ ?_ _) | omega | (simp; done) | (simp; omega))))⟩
  all_goals simp [results, Try.results37, go_sem, Spec.settle, Spec.full]
  all_goals (try simp only [bne_iff_ne, ne_eq, beq_iff_eq, bne_eq_false_iff_eq, beq_eq_false_iff_ne, Bool.and_eq_true, Bool.or_eq_true, Bool.and_eq_false_iff, Bool.or_eq_false_iff, decide_eq_true_eq, decide_eq_false_iff_not] at *)
  all_goals (try omega)
  all_goals ((repeat' split) <;> first | rfl | (simp; done) | omega | (simp_all; done) | (simp_all; omega) | (exfalso; omega))

set_option maxRecDepth 100000 in
set_option maxHeartbeats 4000000 in
theorem settle_12 (k r : Int) (w : World) (hk1 : 0 ≤ k) (hk2 : k ≤ 7) : Pur Try.prog 37 #[.agg #[.int .i64 k, .int .i64 r], .int .i64 1, .int .i64 2] w (vr (Spec.settle k r 1 2)) := by
  unfold Pur
  go_enter Try.func37, Try.ntmps37
  go_wp2
  all_goals refine bodyPost_ret (v := vr (Spec.settle k r 1 2)) ?_ rfl ⟨rfl, (by first | exact Below.refl _ _ | exact below_alloc1 _ _ | exact below_alloc2 _ _ _ | exact below_alloc3 _ _ _ _ | (repeat' (first | assumption | exact Below.refl _ _ | exact below_alloc1 _ _ | exact below_alloc2 _ _ _ | exact below_alloc3 _ _ _ _ | (refine Below.drew ?_) | (refine below_wb ?_ ?_) | (refine Below.alloc ?_ ?_ _) | omega | (simp; done) | (simp; omega))))⟩
  all_goals simp [results, Try.results37, go_sem, Spec.settle, Spec.full]
  all_goals (try simp only [bne_iff_ne, ne_eq, beq_iff_eq, bne_eq_false_iff_eq, beq_eq_false_iff_ne, Bool.and_eq_true, Bool.or_eq_true, Bool.and_eq_false_iff, Bool.or_eq_false_iff, decide_eq_true_eq, decide_eq_false_iff_not] at *)
  all_goals (try omega)
  all_goals ((repeat' split) <;> first | rfl | (simp; done) | omega | (simp_all; done) | (simp_all; omega) | (exfalso; omega))

set_option maxRecDepth 100000 in
set_option maxHeartbeats 4000000 in
theorem settle_20 (k r : Int) (w : World) (hk1 : 0 ≤ k) (hk2 : k ≤ 7) : Pur Try.prog 37 #[.agg #[.int .i64 k, .int .i64 r], .int .i64 2, .int .i64 0] w (vr (Spec.settle k r 2 0)) := by
  unfold Pur
  go_enter Try.func37, Try.ntmps37
  go_wp2
  all_goals refine bodyPost_ret (v := vr (Spec.settle k r 2 0)) ?_ rfl ⟨rfl, (by first | exact Below.refl _ _ | exact below_alloc1 _ _ | exact below_alloc2 _ _ _ | exact below_alloc3 _ _ _ _ | (repeat' (first | assumption | exact Below.refl _ _ | exact below_alloc1 _ _ | exact below_alloc2 _ _ _ | exact below_alloc3 _ _ _ _ | (refine Below.drew ?_) | (refine below_wb ?_ ?_) | (refine Below.alloc ?_ ?_ _) | omega | (simp; done) | (simp; omega))))⟩
  all_goals simp [results, Try.results37, go_sem, Spec.settle, Spec.full]
  all_goals (try simp only [bne_iff_ne, ne_eq, beq_iff_eq, bne_eq_false_iff_eq, beq_eq_false_iff_ne, Bool.and_eq_true, Bool.or_eq_true, Bool.and_eq_false_iff, Bool.or_eq_false_iff, decide_eq_true_eq, decide_eq_false_iff_not] at *)
  all_goals (try omega)
  all_goals ((repeat' split) <;> first | rfl | (simp; done) | omega | (simp_all; done) | (simp_all; omega) | (exfalso; omega))

set_option maxRecDepth 100000 in
set_option maxHeartbeats 4000000 in
theorem settle_21 (k r : Int) (w : World) (hk1 : 0 ≤ k) (hk2 : k ≤ 7) : Pur Try.prog 37 #[.agg #[.int .i64 k, .int .i64 r], .int .i64 2, .int .i64 1] w (vr (Spec.settle k r 2 1)) := by
  unfold Pur
  go_enter Try.func37, Try.ntmps37
  go_wp2
  all_goals refine bodyPost_ret (v := vr (Spec.settle k r 2 1)) ?_ rfl ⟨rfl, (by first | exact Below.refl _ _ | exact below_alloc1 _ _ | exact below_alloc2 _ _ _ | exact below_alloc3 _ _ _ _ | (repeat' (first | assumption | exact Below.refl _ _ | exact below_alloc1 _ _ | exact below_alloc2 _ _ _ | exact below_alloc3 _ _ _ _ | (refine Below.drew ?_) | (refine below_wb ?_ ?_) | (refine Below.alloc ?_ ?_ _) | omega | (simp; done) | (simp; omega))))⟩
  all_goals simp [results, Try.results37, go_sem, Spec.settle, Spec.full]
  all_goals (try simp only [bne_iff_ne, ne_eq, beq_iff_eq, bne_eq_false_iff_eq, beq_eq_false_iff_ne, Bool.and_eq_true, Bool.or_eq_true, Bool.and_eq_false_iff, Bool.or_eq_false_iff, decide_eq_true_eq, decide_eq_false_iff_not] at *)
  all_goals (try omega)
  all_goals ((repeat' split) <;> first | rfl | (simp; done) | omega | (simp_all; done) | (simp_all; omega) | (exfalso; omega))

set_option maxRecDepth 100000 in
set_option maxHeartbeats 4000000 in
theorem settle_22 (k r : Int) (w : World) (hk1 : 0 ≤ k) (hk2 : k ≤ 7) : Pur Try.prog 37 #[.agg #[.int .i64 k, .int .i64 r], .int .i64 2, .int .i64 2] w (vr (Spec.settle k r 2 2)) := by
  unfold Pur
  go_enter Try.func37, Try.ntmps37
  go_wp2
  all_goals refine bodyPost_ret (v := vr (Spec.settle k r 2 2)) ?_ rfl ⟨rfl, (by first | exact Below.refl _ _ | exact below_alloc1 _ _ | exact below_alloc2 _ _ _ | exact below_alloc3 _ _ _ _ | (repeat' (first | assumption | exact Below.refl _ _ | exact below_alloc1 _ _ | exact below_alloc2 _ _ _ | exact below_alloc3 _ _ _ _ | (refine Below.drew ?_) | (refine below_wb ?_ ?_) | (refine Below.alloc ?_ ?_ _) | omega | (simp; done) | (simp; omega))))⟩
  all_goals simp [results, Try.results37, go_sem, Spec.settle, Spec.full]
  all_goals (try simp only [bne_iff_ne, ne_eq, beq_iff_eq, bne_eq_false_iff_eq, beq_eq_false_iff_ne, Bool.and_eq_true, Bool.or_eq_true, Bool.and_eq_false_iff, Bool.or_eq_false_iff, decide_eq_true_eq, decide_eq_false_iff_not] at *)
  all_goals (try omega)
  all_goals ((repeat' split) <;> first | rfl | (simp; done) | omega | (simp_all; done) | (simp_all; omega) | (exfalso; omega))


theorem known_cases (d : Int) : d = 0 ∨ d = 1 ∨ d = 2 ∨ ((d == 0) = false ∧ (d == 1) = false ∧ (d == 2) = false) := by
  simp only [beq_eq_false_iff_ne, ne_eq]; omega
theorem settle_calls (k r own peer : Int) (w : World) : Pur Try.prog 37 #[.agg #[.int .i64 k, .int .i64 r], .int .i64 own, .int .i64 peer] w (vr (Spec.settle k r own peer)) := by
  by_cases hk1 : 0 ≤ k
  · by_cases hk2 : k ≤ 7
    · rcases known_cases own with rfl | rfl | rfl | ⟨o0, o1, o2⟩
      · rcases known_cases peer with rfl | rfl | rfl | ⟨p0, p1, p2⟩
        · exact settle_00 k r w hk1 hk2
        · exact settle_01 k r w hk1 hk2
        · exact settle_02 k r w hk1 hk2
        · exact settle_peer0 k r peer w hk1 hk2 p0 p1 p2
      · rcases known_cases peer with rfl | rfl | rfl | ⟨p0, p1, p2⟩
        · exact settle_10 k r w hk1 hk2
        · exact settle_11 k r w hk1 hk2
        · exact settle_12 k r w hk1 hk2
        · exact settle_peer1 k r peer w hk1 hk2 p0 p1 p2
      · rcases known_cases peer with rfl | rfl | rfl | ⟨p0, p1, p2⟩
        · exact settle_20 k r w hk1 hk2
        · exact settle_21 k r w hk1 hk2
        · exact settle_22 k r w hk1 hk2
        · exact settle_peer2 k r peer w hk1 hk2 p0 p1 p2
      · exact settle_own k r own peer w hk1 hk2 o0 o1 o2
    · exact settle_high k r own peer w hk1 (by omega)
  · exact settle_low k r own peer w (by omega)
end Go.Proofs.Ytboanmhibbhceaa
