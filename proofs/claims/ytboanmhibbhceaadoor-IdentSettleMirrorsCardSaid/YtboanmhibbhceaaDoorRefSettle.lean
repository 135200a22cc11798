/- Settle of the document: the same plain function. -/
import Derived.Test.YtboanmhibbhceaaDoorSettle
namespace Go.Proofs.YtboanmhibbhceaaDoor
open Go.RowKit
set_option linter.unusedVariables false
set_option linter.unusedSimpArgs false

set_option maxRecDepth 100000 in
set_option maxHeartbeats 4000000 in
theorem refSettle_low (k r own peer : Int) (w : World) (h : k < 0) : Pur Tryd.prog 8 #[.agg #[.int .i64 k, .int .i64 r], .int .i64 own, .int .i64 peer] w (vr (Spec.settle k r own peer)) := by
  unfold Pur
  go_enter Tryd.func8, Tryd.ntmps8
  go_wp2
  all_goals refine bodyPost_ret (v := vr (Spec.settle k r own peer)) ?_ rfl ⟨rfl, (by first | exact Below.refl _ _ | exact below_alloc1 _ _ | exact below_alloc2 _ _ _ | exact below_alloc3 _ _ _ _ | (repeat' (first | assumption | exact Below.refl _ _ | exact below_alloc1 _ _ | exact below_alloc2 _ _ _ | exact below_alloc3 _ _ _ _ | (refine Below.drew ?_) | (refine below_wb ?_ ?_) | (refine Below.alloc ?_ ?_ _) | omega | (simp; done) | (simp; omega))))⟩
  all_goals simp [results, Tryd.results8, go_sem, Spec.settle, Spec.full]
  all_goals (try simp only [bne_iff_ne, ne_eq, beq_iff_eq, bne_eq_false_iff_eq, beq_eq_false_iff_ne, Bool.and_eq_true, Bool.or_eq_true, Bool.and_eq_false_iff, Bool.or_eq_false_iff, decide_eq_true_eq, decide_eq_false_iff_not] at *)
  all_goals (try omega)
  all_goals ((repeat' split) <;> first | rfl | (simp; done) | omega | (simp_all; done) | (simp_all; omega) | (exfalso; omega))

set_option maxRecDepth 100000 in
set_option maxHeartbeats 4000000 in
theorem refSettle_high (k r own peer : Int) (w : World) (h0 : 0 ≤ k) (h : 7 < k) : Pur Tryd.prog 8 #[.agg #[.int .i64 k, .int .i64 r], .int .i64 own, .int .i64 peer] w (vr (Spec.settle k r own peer)) := by
  unfold Pur
  go_enter Tryd.func8, Tryd.ntmps8
  go_wp2
  all_goals refine bodyPost_ret (v := vr (Spec.settle k r own peer)) ?_ rfl ⟨rfl, (by first | exact Below.refl _ _ | exact below_alloc1 _ _ | exact below_alloc2 _ _ _ | exact below_alloc3 _ _ _ _ | (repeat' (first | assumption | exact Below.refl _ _ | exact below_alloc1 _ _ | exact below_alloc2 _ _ _ | exact below_alloc3 _ _ _ _ | (refine Below.drew ?_) | (refine below_wb ?_ ?_) | (refine Below.alloc ?_ ?_ _) | omega | (simp; done) | (simp; omega))))⟩
  all_goals simp [results, Tryd.results8, go_sem, Spec.settle, Spec.full]
  all_goals (try simp only [bne_iff_ne, ne_eq, beq_iff_eq, bne_eq_false_iff_eq, beq_eq_false_iff_ne, Bool.and_eq_true, Bool.or_eq_true, Bool.and_eq_false_iff, Bool.or_eq_false_iff, decide_eq_true_eq, decide_eq_false_iff_not] at *)
  all_goals (try omega)
  all_goals ((repeat' split) <;> first | rfl | (simp; done) | omega | (simp_all; done) | (simp_all; omega) | (exfalso; omega))

set_option maxRecDepth 100000 in
set_option maxHeartbeats 4000000 in
theorem refSettle_own (k r own peer : Int) (w : World) (hk1 : 0 ≤ k) (hk2 : k ≤ 7) (own0 : (own == 0) = false) (own1 : (own == 1) = false) (own2 : (own == 2) = false) : Pur Tryd.prog 8 #[.agg #[.int .i64 k, .int .i64 r], .int .i64 own, .int .i64 peer] w (vr (Spec.settle k r own peer)) := by
  unfold Pur
  go_enter Tryd.func8, Tryd.ntmps8
  go_wp2
  all_goals refine bodyPost_ret (v := vr (Spec.settle k r own peer)) ?_ rfl ⟨rfl, (by first | exact Below.refl _ _ | exact below_alloc1 _ _ | exact below_alloc2 _ _ _ | exact below_alloc3 _ _ _ _ | (repeat' (first | assumption | exact Below.refl _ _ | exact below_alloc1 _ _ | exact below_alloc2 _ _ _ | exact below_alloc3 _ _ _ _ | (refine Below.drew ?_) | (refine below_wb ?_ ?_) | (refine Below.alloc ?_ ?_ _) | omega | (simp; done) | (simp; omega))))⟩
  all_goals simp [results, Tryd.results8, go_sem, Spec.settle, Spec.full]
  all_goals (try simp only [bne_iff_ne, ne_eq, beq_iff_eq, bne_eq_false_iff_eq, beq_eq_false_iff_ne, Bool.and_eq_true, Bool.or_eq_true, Bool.and_eq_false_iff, Bool.or_eq_false_iff, decide_eq_true_eq, decide_eq_false_iff_not] at *)
  all_goals (try omega)
  all_goals ((repeat' split) <;> first | rfl | (simp; done) | omega | (simp_all; done) | (simp_all; omega) | (exfalso; omega))

set_option maxRecDepth 100000 in
set_option maxHeartbeats 4000000 in
theorem refSettle_peer0 (k r peer : Int) (w : World) (hk1 : 0 ≤ k) (hk2 : k ≤ 7) (peer0 : (peer == 0) = false) (peer1 : (peer == 1) = false) (peer2 : (peer == 2) = false) : Pur Tryd.prog 8 #[.agg #[.int .i64 k, .int .i64 r], .int .i64 0, .int .i64 peer] w (vr (Spec.settle k r 0 peer)) := by
  unfold Pur
  go_enter Tryd.func8, Tryd.ntmps8
  go_wp2
  all_goals refine bodyPost_ret (v := vr (Spec.settle k r 0 peer)) ?_ rfl ⟨rfl, (by first | exact Below.refl _ _ | exact below_alloc1 _ _ | exact below_alloc2 _ _ _ | exact below_alloc3 _ _ _ _ | (repeat' (first | assumption | exact Below.refl _ _ | exact below_alloc1 _ _ | exact below_alloc2 _ _ _ | exact below_alloc3 _ _ _ _ | (refine Below.drew ?_) | (refine below_wb ?_ ?_) | (refine Below.alloc ?_ ?_ _) | omega | (simp; done) | (simp; omega))))⟩
  all_goals simp [results, Tryd.results8, go_sem, Spec.settle, Spec.full]
  all_goals (try simp only [bne_iff_ne, ne_eq, beq_iff_eq, bne_eq_false_iff_eq, beq_eq_false_iff_ne, Bool.and_eq_true, Bool.or_eq_true, Bool.and_eq_false_iff, Bool.or_eq_false_iff, decide_eq_true_eq, decide_eq_false_iff_not] at *)
  all_goals (try omega)
  all_goals ((repeat' split) <;> first | rfl | (simp; done) | omega | (simp_all; done) | (simp_all; omega) | (exfalso; omega))

set_option maxRecDepth 100000 in
set_option maxHeartbeats 4000000 in
theorem refSettle_peer1 (k r peer : Int) (w : World) (hk1 : 0 ≤ k) (hk2 : k ≤ 7) (peer0 : (peer == 0) = false) (peer1 : (peer == 1) = false) (peer2 : (peer == 2) = false) : Pur Tryd.prog 8 #[.agg #[.int .i64 k, .int .i64 r], .int .i64 1, .int .i64 peer] w (vr (Spec.settle k r 1 peer)) := by
  unfold Pur
  go_enter Tryd.func8, Tryd.ntmps8
  go_wp2
  all_goals refine bodyPost_ret (v := vr (Spec.settle k r 1 peer)) ?_ rfl ⟨rfl, (by first | exact Below.refl _ _ | exact below_alloc1 _ _ | exact below_alloc2 _ _ _ | exact below_alloc3 _ _ _ _ | (repeat' (first | assumption | exact Below.refl _ _ | exact below_alloc1 _ _ | exact below_alloc2 _ _ _ | exact below_alloc3 _ _ _ _ | (refine Below.drew ?_) | (refine below_wb ?_ ?_) | (refine Below.alloc ?_ ?_ _) | omega | (simp; done) | (simp; omega))))⟩
  all_goals simp [results, Tryd.results8, go_sem, Spec.settle, Spec.full]
  all_goals (try simp only [bne_iff_ne, ne_eq, beq_iff_eq, bne_eq_false_iff_eq, beq_eq_false_iff_ne, Bool.and_eq_true, Bool.or_eq_true, Bool.and_eq_false_iff, Bool.or_eq_false_iff, decide_eq_true_eq, decide_eq_false_iff_not] at *)
  all_goals (try omega)
  all_goals ((repeat' split) <;> first | rfl | (simp; done) | omega | (simp_all; done) | (simp_all; omega) | (exfalso; omega))

set_option maxRecDepth 100000 in
set_option maxHeartbeats 4000000 in
theorem refSettle_peer2 (k r peer : Int) (w : World) (hk1 : 0 ≤ k) (hk2 : k ≤ 7) (peer0 : (peer == 0) = false) (peer1 : (peer == 1) = false) (peer2 : (peer == 2) = false) : Pur Tryd.prog 8 #[.agg #[.int .i64 k, .int .i64 r], .int .i64 2, .int .i64 peer] w (vr (Spec.settle k r 2 peer)) := by
  unfold Pur
  go_enter Tryd.func8, Tryd.ntmps8
  go_wp2
  all_goals refine bodyPost_ret (v := vr (Spec.settle k r 2 peer)) ?_ rfl ⟨rfl, (by first | exact Below.refl _ _ | exact below_alloc1 _ _ | exact below_alloc2 _ _ _ | exact below_alloc3 _ _ _ _ | (repeat' (first | assumption | exact Below.refl _ _ | exact below_alloc1 _ _ | exact below_alloc2 _ _ _ | exact below_alloc3 _ _ _ _ | (refine Below.drew ?_) | (refine below_wb ?_ ?_) | (refine Below.alloc ?_ ?_ _) | omega | (simp; done) | (simp; omega))))⟩
  all_goals simp [results, Tryd.results8, go_sem, Spec.settle, Spec.full]
  all_goals (try simp only [bne_iff_ne, ne_eq, beq_iff_eq, bne_eq_false_iff_eq, beq_eq_false_iff_ne, Bool.and_eq_true, Bool.or_eq_true, Bool.and_eq_false_iff, Bool.or_eq_false_iff, decide_eq_true_eq, decide_eq_false_iff_not] at *)
  all_goals (try omega)
  all_goals ((repeat' split) <;> first | rfl | (simp; done) | omega | (simp_all; done) | (simp_all; omega) | (exfalso; omega))

set_option maxRecDepth 100000 in
set_option maxHeartbeats 4000000 in
theorem refSettle_00 (k r : Int) (w : World) (hk1 : 0 ≤ k) (hk2 : k ≤ 7) : Pur Tryd.prog 8 #[.agg #[.int .i64 k, .int .i64 r], .int .i64 0, .int .i64 0] w (vr (Spec.settle k r 0 0)) := by
  unfold Pur
  go_enter Tryd.func8, Tryd.ntmps8
  go_wp2
  all_goals refine bodyPost_ret (v := vr (Spec.settle k r 0 0)) ?_ rfl ⟨rfl, (by first | exact Below.refl _ _ | exact below_alloc1 _ _ | exact below_alloc2 _ _ _ | exact below_alloc3 _ _ _ _ | (repeat' (first | assumption | exact Below.refl _ _ | exact below_alloc1 _ _ | exact below_alloc2 _ _ _ | exact below_alloc3 _ _ _ _ | (refine Below.drew ?_) | (refine below_wb ?_ ?_) | (refine Below.alloc ?_ ?_ _) | omega | (simp; done) | (simp; omega))))⟩
  all_goals simp [results, Tryd.results8, go_sem, Spec.settle, Spec.full]
  all_goals (try simp only [bne_iff_ne, ne_eq, beq_iff_eq, bne_eq_false_iff_eq, beq_eq_false_iff_ne, Bool.and_eq_true, Bool.or_eq_true, Bool.and_eq_false_iff, Bool.or_eq_false_iff, decide_eq_true_eq, decide_eq_false_iff_not] at *)
  all_goals (try omega)
  all_goals ((repeat' split) <;> first | rfl | (simp; done) | omega | (simp_all; done) | (simp_all; omega) | (exfalso; omega))

set_option maxRecDepth 100000 in
set_option maxHeartbeats 4000000 in
theorem refSettle_01 (k r : Int) (w : World) (hk1 : 0 ≤ k) (hk2 : k ≤ 7) : Pur Tryd.prog 8 #[.agg #[.int .i64 k, .int .i64 r], .int .i64 0, .int .i64 1] w (vr (Spec.settle k r 0 1)) := by
  unfold Pur
  go_enter Tryd.func8, Tryd.ntmps8
  go_wp2
  all_goals refine bodyPost_ret (v := vr (Spec.settle k r 0 1)) ?_ rfl ⟨rfl, (by first | exact Below.refl _ _ | exact below_alloc1 _ _ | exact below_alloc2 _ _ _ | exact below_alloc3 _ _ _ _ | (repeat' (first | assumption | exact Below.refl _ _ | exact below_alloc1 _ _ | exact below_alloc2 _ _ _ | exact below_alloc3 _ _ _ _ | (refine Below.drew ?_) | (refine below_wb ?_ ?_) | (refine Below.alloc ?_ ?_ _) | omega | (simp; done) | (simp; omega))))⟩
  all_goals simp [results, Tryd.results8, go_sem, Spec.settle, Spec.full]
  all_goals (try simp only [bne_iff_ne, ne_eq, beq_iff_eq, bne_eq_false_iff_eq, beq_eq_false_iff_ne, Bool.and_eq_true, Bool.or_eq_true, Bool.and_eq_false_iff, Bool.or_eq_false_iff, decide_eq_true_eq, decide_eq_false_iff_not] at *)
  all_goals (try omega)
  all_goals ((repeat' split) <;> first | rfl | (simp; done) | omega | (simp_all; done) | (simp_all; omega) | (exfalso; omega))

set_option maxRecDepth 100000 in
set_option maxHeartbeats 4000000 in
theorem refSettle_02 (k r : Int) (w : World) (hk1 : 0 ≤ k) (hk2 : k ≤ 7) : Pur Tryd.prog 8 #[.agg #[.int .i64 k, .int .i64 r], .int .i64 0, .int .i64 2] w (vr (Spec.settle k r 0 2)) := by
  unfold Pur
  go_enter Tryd.func8, Tryd.ntmps8
  go_wp2
  all_goals refine bodyPost_ret (v := vr (Spec.settle k r 0 2)) ?_ rfl ⟨rfl, (by first | exact Below.refl _ _ | exact below_alloc1 _ _ | exact below_alloc2 _ _ _ | exact below_alloc3 _ _ _ _ | (repeat' (first | assumption | exact Below.refl _ _ | exact below_alloc1 _ _ | exact below_alloc2 _ _ _ | exact below_alloc3 _ _ _ _ | (refine Below.drew ?_) | (refine below_wb ?_ ?_) | (refine Below.alloc ?_ ?_ _) | omega | (simp; done) | (simp; omega))))⟩
  all_goals simp [results, Tryd.results8, go_sem, Spec.settle, Spec.full]
  all_goals (try simp only [bne_iff_ne, ne_eq, beq_iff_eq, bne_eq_false_iff_eq, beq_eq_false_iff_ne, Bool.and_eq_true, Bool.or_eq_true, Bool.and_eq_false_iff, Bool.or_eq_false_iff, decide_eq_true_eq, decide_eq_false_iff_not] at *)
  all_goals (try omega)
  all_goals ((repeat' split) <;> first | rfl | (simp; done) | omega | (simp_all; done) | (simp_all; omega) | (exfalso; omega))

set_option maxRecDepth 100000 in
set_option maxHeartbeats 4000000 in
theorem refSettle_10 (k r : Int) (w : World) (hk1 : 0 ≤ k) (hk2 : k ≤ 7) : Pur Tryd.prog 8 #[.agg #[.int .i64 k, .int .i64 r], .int .i64 1, .int .i64 0] w (vr (Spec.settle k r 1 0)) := by
  unfold Pur
  go_enter Tryd.func8, Tryd.ntmps8
  go_wp2
  all_goals refine bodyPost_ret (v := vr (Spec.settle k r 1 0)) ?_ rfl ⟨rfl, (by first | exact Below.refl _ _ | exact below_alloc1 _ _ | exact below_alloc2 _ _ _ | exact below_alloc3 _ _ _ _ | (repeat' (first | assumption | exact Below.refl _ _ | exact below_alloc1 _ _ | exact below_alloc2 _ _ _ | exact below_alloc3 _ _ _ _ | (refine Below.drew ?_) | (refine below_wb ?_ ?_) | (refine Below.alloc ?_ ?_ _) | omega | (simp; done) | (simp; omega))))⟩
  all_goals simp [results, Tryd.results8, go_sem, Spec.settle, Spec.full]
  all_goals (try simp only [bne_iff_ne, ne_eq, beq_iff_eq, bne_eq_false_iff_eq, beq_eq_false_iff_ne, Bool.and_eq_true, Bool.or_eq_true, Bool.and_eq_false_iff, Bool.or_eq_false_iff, decide_eq_true_eq, decide_eq_false_iff_not] at *)
  all_goals (try omega)
  all_goals ((repeat' split) <;> first | rfl | (simp; done) | omega | (simp_all; done) | (simp_all; omega) | (exfalso; omega))

set_option maxRecDepth 100000 in
set_option maxHeartbeats 4000000 in
theorem refSettle_11 (k r : Int) (w : World) (hk1 : 0 ≤ k) (hk2 : k ≤ 7) : Pur Tryd.prog 8 #[.agg #[.int .i64 k, .int .i64 r], .int .i64 1, .int .i64 1] w (vr (Spec.settle k r 1 1)) := by
  unfold Pur
  go_enter Tryd.func8, Tryd.ntmps8
  go_wp2
  all_goals refine bodyPost_ret (v := vr (Spec.settle k r 1 1)) ?_ rfl ⟨rfl, (by first | exact Below.refl _ _ | exact below_alloc1 _ _ | exact below_alloc2 _ _ _ | exact below_alloc3 _ _ _ _ | (repeat' (first | assumption | exact Below.refl _ _ | exact below_alloc1 _ _ | exact below_alloc2 _ _ _ | exact below_alloc3 _ _ _ _ | (refine Below.drew ?_) | (refine below_wb ?_ ?_) | (refine Below.alloc ?_ ?_ _) | omega | (simp; done) | (simp; omega))))⟩
  all_goals simp [results, Tryd.results8, go_sem, Spec.settle, Spec.full]
  all_goals (try simp only [bne_iff_ne, ne_eq, beq_iff_eq, bne_eq_false_iff_eq, beq_eq_false_iff_ne, Bool.and_eq_true, Bool.or_eq_true, Bool.and_eq_false_iff, Bool.or_eq_false_iff, decide_eq_true_eq, decide_eq_false_iff_not] at *)
  all_goals (try omega)
  all_goals ((repeat' split) <;> first | rfl | (simp; done) | omega | (simp_all; done) | (simp_all; omega) | (exfalso; omega))

set_option maxRecDepth 100000 in
set_option maxHeartbeats 4000000 in
theorem refSettle_12 (k r : Int) (w : World) (hk1 : 0 ≤ k) (hk2 : k ≤ 7) : Pur Tryd.prog 8 #[.agg #[.int .i64 k, .int .i64 r], .int .i64 1, .int .i64 2] w (vr (Spec.settle k r 1 2)) := by
  unfold Pur
  go_enter Tryd.func8, Tryd.ntmps8
  go_wp2
  all_goals refine bodyPost_ret (v := vr (Spec.settle k r 1 2)) ?_ rfl ⟨rfl, (by first | exact Below.refl _ _ | exact below_alloc1 _ _ | exact below_alloc2 _ _ _ | exact below_alloc3 _ _ _ _ | (repeat' (first | assumption | exact Below.refl _ _ | exact below_alloc1 _ _ | exact below_alloc2 _ _ _ | exact below_alloc3 _ _ _ _ | (refine Below.drew ?_) | (refine below_wb ?_ ?_) | (refine Below.alloc ?_ ?_ _) | omega | (simp; done) | (simp; omega))))⟩
  all_goals simp [results, Tryd.results8, go_sem, Spec.settle, Spec.full]
  all_goals (try simp only [bne_iff_ne, ne_eq, beq_iff_eq, bne_eq_false_iff_eq, beq_eq_false_iff_ne, Bool.and_eq_true, Bool.or_eq_true, Bool.and_eq_false_iff, Bool.or_eq_false_iff, decide_eq_true_eq, decide_eq_false_iff_not] at *)
  all_goals (try omega)
  all_goals ((repeat' split) <;> first | rfl | (simp; done) | omega | (simp_all; done) | (simp_all; omega) | (exfalso; omega))

set_option maxRecDepth 100000 in
set_option maxHeartbeats 4000000 in
theorem refSettle_20 (k r : Int) (w : World) (hk1 : 0 ≤ k) (hk2 : k ≤ 7) : Pur Tryd.prog 8 #[.agg #[.int .i64 k, .int .i64 r], .int .i64 2, .int .i64 0] w (vr (Spec.settle k r 2 0)) := by
  unfold Pur
  go_enter Tryd.func8, Tryd.ntmps8
  go_wp2
  all_goals refine bodyPost_ret (v := vr (Spec.settle k r 2 0)) ?_ rfl ⟨rfl, (by first | exact Below.refl _ _ | exact below_alloc1 _ _ | exact below_alloc2 _ _ _ | exact below_alloc3 _ _ _ _ | (repeat' (first | assumption | exact Below.refl _ _ | exact below_alloc1 _ _ | exact below_alloc2 _ _ _ | exact below_alloc3 _ _ _ _ | (refine Below.drew ?_) | (refine below_wb ?_ ?_) | (refine Below.alloc ?_ ?_ _) | omega | (simp; done) | (simp; omega))))⟩
  all_goals simp [results, Tryd.results8, go_sem, Spec.settle, Spec.full]
  all_goals (try simp only [bne_iff_ne, ne_eq, beq_iff_eq, bne_eq_false_iff_eq, beq_eq_false_iff_ne, Bool.and_eq_true, Bool.or_eq_true, Bool.and_eq_false_iff, Bool.or_eq_false_iff, decide_eq_true_eq, decide_eq_false_iff_not] at *)
  all_goals (try omega)
  all_goals ((repeat' split) <;> first | rfl | (simp; done) | omega | (simp_all; done) | (simp_all; omega) | (exfalso; omega))

set_option maxRecDepth 100000 in
set_option maxHeartbeats 4000000 in
theorem refSettle_21 (k r : Int) (w : World) (hk1 : 0 ≤ k) (hk2 : k ≤ 7) : Pur Tryd.prog 8 #[.agg #[.int .i64 k, .int .i64 r], .int .i64 2, .int .i64 1] w (vr (Spec.settle k r 2 1)) := by
  unfold Pur
  go_enter Tryd.func8, Tryd.ntmps8
  go_wp2
  all_goals refine bodyPost_ret (v := vr (Spec.settle k r 2 1)) ?_ rfl ⟨rfl, (by first | exact Below.refl _ _ | exact below_alloc1 _ _ | exact below_alloc2 _ _ _ | exact below_alloc3 _ _ _ _ | (repeat' (first | assumption | exact Below.refl _ _ | exact below_alloc1 _ _ | exact below_alloc2 _ _ _ | exact below_alloc3 _ _ _ _ | (refine Below.drew ?_) | (refine below_wb ?_ ?_) | (refine Below.alloc ?_ ?_ _) | omega | (simp; done) | (simp; omega))))⟩
  all_goals simp [results, Tryd.results8, go_sem, Spec.settle, Spec.full]
  all_goals (try simp only [bne_iff_ne, ne_eq, beq_iff_eq, bne_eq_false_iff_eq, beq_eq_false_iff_ne, Bool.and_eq_true, Bool.or_eq_true, Bool.and_eq_false_iff, Bool.or_eq_false_iff, decide_eq_true_eq, decide_eq_false_iff_not] at *)
  all_goals (try omega)
  all_goals ((repeat' split) <;> first | rfl | (simp; done) | omega | (simp_all; done) | (simp_all; omega) | (exfalso; omega))

set_option maxRecDepth 100000 in
set_option maxHeartbeats 4000000 in
theorem refSettle_22 (k r : Int) (w : World) (hk1 : 0 ≤ k) (hk2 : k ≤ 7) : Pur Tryd.prog 8 #[.agg #[.int .i64 k, .int .i64 r], .int .i64 2, .int .i64 2] w (vr (Spec.settle k r 2 2)) := by
  unfold Pur
  go_enter Tryd.func8, Tryd.ntmps8
  go_wp2
  all_goals refine bodyPost_ret (v := vr (Spec.settle k r 2 2)) ?_ rfl ⟨rfl, (by first | exact Below.refl _ _ | exact below_alloc1 _ _ | exact below_alloc2 _ _ _ | exact below_alloc3 _ _ _ _ | (repeat' (first | assumption | exact Below.refl _ _ | exact below_alloc1 _ _ | exact below_alloc2 _ _ _ | exact below_alloc3 _ _ _ _ | (refine Below.drew ?_) | (refine below_wb ?_ ?_) | (refine Below.alloc ?_ ?_ _) | omega | (simp; done) | (simp; omega))))⟩
  all_goals simp [results, Tryd.results8, go_sem, Spec.settle, Spec.full]
  all_goals (try simp only [bne_iff_ne, ne_eq, beq_iff_eq, bne_eq_false_iff_eq, beq_eq_false_iff_ne, Bool.and_eq_true, Bool.or_eq_true, Bool.and_eq_false_iff, Bool.or_eq_false_iff, decide_eq_true_eq, decide_eq_false_iff_not] at *)
  all_goals (try omega)
  all_goals ((repeat' split) <;> first | rfl | (simp; done) | omega | (simp_all; done) | (simp_all; omega) | (exfalso; omega))


theorem refSettle_calls (k r own peer : Int) (w : World) : Pur Tryd.prog 8 #[.agg #[.int .i64 k, .int .i64 r], .int .i64 own, .int .i64 peer] w (vr (Spec.settle k r own peer)) := by
  by_cases hk1 : 0 ≤ k
  · by_cases hk2 : k ≤ 7
    · rcases known_cases own with rfl | rfl | rfl | ⟨o0, o1, o2⟩
      · rcases known_cases peer with rfl | rfl | rfl | ⟨p0, p1, p2⟩
        · exact refSettle_00 k r w hk1 hk2
        · exact refSettle_01 k r w hk1 hk2
        · exact refSettle_02 k r w hk1 hk2
        · exact refSettle_peer0 k r peer w hk1 hk2 p0 p1 p2
      · rcases known_cases peer with rfl | rfl | rfl | ⟨p0, p1, p2⟩
        · exact refSettle_10 k r w hk1 hk2
        · exact refSettle_11 k r w hk1 hk2
        · exact refSettle_12 k r w hk1 hk2
        · exact refSettle_peer1 k r peer w hk1 hk2 p0 p1 p2
      · rcases known_cases peer with rfl | rfl | rfl | ⟨p0, p1, p2⟩
        · exact refSettle_20 k r w hk1 hk2
        · exact refSettle_21 k r w hk1 hk2
        · exact refSettle_22 k r w hk1 hk2
        · exact refSettle_peer2 k r peer w hk1 hk2 p0 p1 p2
      · exact refSettle_own k r own peer w hk1 hk2 o0 o1 o2
    · exact refSettle_high k r own peer w hk1 (by omega)
  · exact refSettle_low k r own peer w (by omega)
end Go.Proofs.YtboanmhibbhceaaDoor
