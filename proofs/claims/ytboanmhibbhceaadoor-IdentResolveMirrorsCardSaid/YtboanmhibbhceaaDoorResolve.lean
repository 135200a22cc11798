/- Resolve: split brains by the policies: the program's calls, each as one plain function of its numbers. -/
import Derived.Test.YtboanmhibbhceaaDoorGens
namespace Go.Proofs.YtboanmhibbhceaaDoor
open Go.RowKit
set_option linter.unusedVariables false
set_option linter.unusedSimpArgs false

/-- The cells of a quarrel. -/
structure Q where
  sb0 : Int
  sb1 : Int
  sb2 : Int
  node : Int
  ownRole : Int
  peerRole : Int
  ownMarked : Int
  peerMarked : Int
  og : Bool
  pg : Bool
abbrev qc (q : Q) : Array Value := #[.int .i64 q.sb0, .int .i64 q.sb1, .int .i64 q.sb2, .int .i64 q.node, .int .i64 q.ownRole, .int .i64 q.peerRole, .int .i64 q.ownMarked, .int .i64 q.peerMarked, .bool q.og, .bool q.pg]

namespace Spec
def validQ (q : Q) : Int :=
  if (q.node ≠ 0 ∧ q.node ≠ 1) ∨ q.ownMarked < 0 ∨ q.peerMarked < 0 then 1
  else if q.sb0 < 0 ∨ q.sb0 > 4 then 61
  else if (q.sb1 ≠ 0 ∧ q.sb1 ≠ 5 ∧ q.sb1 ≠ 6) ∨ q.sb2 ≠ 0 then 61
  else if (q.ownRole ≠ 0 ∧ q.ownRole ≠ 1) ∨ (q.peerRole ≠ 0 ∧ q.peerRole ≠ 1) then 61
  else 0
def zero (q : Q) : Int :=
  if q.sb0 = 1 then (if (q.ownMarked = 0) ∧ ¬ (q.peerMarked = 0) then 1 else if ¬ (q.ownMarked = 0) ∧ (q.peerMarked = 0) then 2 else 0)
  else if q.sb0 = 2 then (if q.ownMarked = q.peerMarked then (if q.node = 1 then 1 else 2) else (if q.ownMarked < q.peerMarked then 1 else 2))
  else if q.sb0 = 3 then (if q.node = 0 then 1 else 2)
  else if q.sb0 = 4 then (if q.node = 1 then 1 else 2)
  else 0
def one (q : Q) : Int :=
  if q.sb1 = 6 then (if zero q = (if q.ownRole = 0 then 1 else 2) then (if q.ownRole = 0 then 1 else 2) else 0)
  else if q.sb1 = 5 then (if q.ownRole = 0 then 1 else 2)
  else 0
def who (q : Q) : Int × Int :=
  if q.og ≠ q.pg ∧ ((q.og = true ∧ q.ownRole = 0) ∨ (q.pg = true ∧ q.peerRole = 0)) then ((if q.og = true ∧ q.ownRole = 0 then 1 else 2), 21)
  else if q.ownRole = 0 ∧ q.peerRole = 0 then (zero q, 22)
  else if q.ownRole ≠ q.peerRole then (one q, 22)
  else (0, 0)
def resolve (k r : Int) (q : Q) : Int × Int × Int :=
  if k < 0 ∨ 7 < k then (0, 0, 1)
  else if validQ q ≠ 0 then (0, 0, validQ q)
  else if k ≠ 5 ∧ k ≠ 6 then (k, r, 0)
  else if (who q).1 = 0 then (k, r, 0)
  else if k = 5 then ((if (who q).1 = 2 then 1 else 2), (who q).2, 0)
  else ((if (who q).1 = 1 then 4 else 3), (who q).2, 0)
end Spec

set_option maxRecDepth 100000 in
set_option maxHeartbeats 4000000 in
theorem valid_calls (q : Q) (w : World) : Pur Tryd.prog 21 #[.agg (qc q)] w (.int .i64 (Spec.validQ q)) := by
  unfold Pur
  go_enter Tryd.func21, Tryd.ntmps21
  go_wp2
  all_goals go_ret
  all_goals refine ⟨ret_i64 ?_, (by first | exact Below.refl _ _ | exact below_alloc1 _ _ | exact below_alloc2 _ _ _ | exact below_alloc3 _ _ _ _ | (repeat' (first | assumption | exact Below.refl _ _ | exact below_alloc1 _ _ | exact below_alloc2 _ _ _ | exact below_alloc3 _ _ _ _ | (refine Below.drew ?_) | (refine below_wb ?_ ?_) | (refine Below.alloc ?_ ?_ _) | omega | (simp; done) | (simp; omega))))⟩
  all_goals ((try simp only [bne_iff_ne, ne_eq, beq_iff_eq, bne_eq_false_iff_eq, beq_eq_false_iff_ne, Bool.and_eq_true, Bool.or_eq_true, Bool.and_eq_false_iff, Bool.or_eq_false_iff, decide_eq_true_eq, decide_eq_false_iff_not] at *); unfold Spec.validQ; (repeat' split) <;> first | rfl | (exfalso; omega))

set_option maxRecDepth 100000 in
set_option maxHeartbeats 4000000 in
theorem zero_calls (q : Q) (w : World) : Pur Tryd.prog 38 #[.agg (qc q)] w (.int .i64 (Spec.zero q)) := by
  unfold Pur
  cases e1 : (q.ownMarked == 0) <;> cases e2 : (q.peerMarked == 0)
  all_goals
    go_enter Tryd.func38, Tryd.ntmps38
    go_wp2
    all_goals go_ret
    all_goals refine ⟨ret_i64 ?_, (by first | exact Below.refl _ _ | exact below_alloc1 _ _ | exact below_alloc2 _ _ _ | exact below_alloc3 _ _ _ _ | (repeat' (first | assumption | exact Below.refl _ _ | exact below_alloc1 _ _ | exact below_alloc2 _ _ _ | exact below_alloc3 _ _ _ _ | (refine Below.drew ?_) | (refine below_wb ?_ ?_) | (refine Below.alloc ?_ ?_ _) | omega | (simp; done) | (simp; omega))))⟩
    all_goals (try simp only [bne_iff_ne, ne_eq, beq_iff_eq, bne_eq_false_iff_eq, beq_eq_false_iff_ne, Bool.and_eq_true, Bool.or_eq_true, Bool.and_eq_false_iff, Bool.or_eq_false_iff, decide_eq_true_eq, decide_eq_false_iff_not] at *)
    all_goals (try unfold Spec.zero)
    all_goals (repeat' split)
    all_goals first | rfl | (exfalso; omega) | (simp_all; done) | (simp_all; omega)

set_option maxRecDepth 100000 in
set_option maxHeartbeats 4000000 in
theorem one_calls (q : Q) (w : World) : Pur Tryd.prog 39 #[.agg (qc q)] w (.int .i64 (Spec.one q)) := by
  unfold Pur Spec.one
  generalize hz : Spec.zero q = z
  have Hz := Lib.hid hz
  clear hz
  go_enter Tryd.func39, Tryd.ntmps39
  go_wp2_with (first | (go_at_call 38; refine (zero_calls q _).out.mono ?_; rw [Hz.out]; rintro e w1 ⟨rfl, hb1⟩; obtain ⟨w2, rfl, hb3, hz0⟩ := behind_alloc1 hb1; clear hb1) | go_in)
  all_goals go_ret
  all_goals refine ⟨ret_i64 ?_, (by first | exact Below.refl _ _ | exact below_alloc1 _ _ | exact below_alloc2 _ _ _ | exact below_alloc3 _ _ _ _ | (repeat' (first | assumption | exact Below.refl _ _ | exact below_alloc1 _ _ | exact below_alloc2 _ _ _ | exact below_alloc3 _ _ _ _ | (refine Below.drew ?_) | (refine below_wb ?_ ?_) | (refine Below.alloc ?_ ?_ _) | omega | (simp; done) | (simp; omega))))⟩
  all_goals (try simp only [bne_iff_ne, ne_eq, beq_iff_eq, bne_eq_false_iff_eq, beq_eq_false_iff_ne, Bool.and_eq_true, Bool.or_eq_true, Bool.and_eq_false_iff, Bool.or_eq_false_iff, decide_eq_true_eq, decide_eq_false_iff_not] at *)
  all_goals (repeat' split)
  all_goals first | rfl | (exfalso; omega) | (simp_all; done) | (simp_all; omega)

set_option maxRecDepth 100000 in
set_option maxHeartbeats 4000000 in
theorem who_calls (q : Q) (w : World) : Pur Tryd.prog 22 #[.agg (qc q)] w (.tuple #[.int .i64 (Spec.who q).1, .int .i64 (Spec.who q).2]) := by
  unfold Pur
  obtain ⟨sb0, sb1, sb2, node, ro, rp, om, pm, og, pg⟩ := q
  cases og <;> cases pg <;> cases e1 : (ro == 0) <;> cases e2 : (rp == 0) <;> cases e3 : (ro != rp)
  all_goals try (exfalso; (try simp only [bne_iff_ne, ne_eq, beq_iff_eq, bne_eq_false_iff_eq, beq_eq_false_iff_ne, Bool.and_eq_true, Bool.or_eq_true, Bool.and_eq_false_iff, Bool.or_eq_false_iff, decide_eq_true_eq, decide_eq_false_iff_not] at *); omega)
  all_goals
    go_enter Tryd.func22, Tryd.ntmps22
    go_wp2_with fail
    refine wp_region_R (Below (w.heap.size + 1) (w.alloc (.cells (qc ⟨sb0, sb1, sb2, node, ro, rp, om, pm, _, _⟩) 58))) (by kernel_rfl) (by kernel_rfl) (by first | exact Below.refl _ _ | exact below_alloc1 _ _ | exact below_alloc2 _ _ _ | exact below_alloc3 _ _ _ _ | (repeat' (first | assumption | exact Below.refl _ _ | exact below_alloc1 _ _ | exact below_alloc2 _ _ _ | exact below_alloc3 _ _ _ _ | (refine Below.drew ?_) | (refine below_wb ?_ ?_) | (refine Below.alloc ?_ ?_ _) | omega | (simp; done) | (simp; omega)))) ?_
    (repeat (first | (apply wpR_pass rfl; (try simp only [Act.put, List.setIfInBounds_toArray, List.set_cons_succ, List.set_cons_zero])) | (apply wpR_val rfl; (focus (intro w1 hR; obtain ⟨hc, hf⟩ := bcellB hR; (try go_simp); (try exact Eq.refl _); done)); (try simp only [Act.put, List.setIfInBounds_toArray, List.set_cons_succ, List.set_cons_zero])) | (apply wpR_call rfl; (focus (intro w1 hR; obtain ⟨hc, hf⟩ := bcellB hR; (try go_simp); (try exact And.intro rfl rfl); done)); (focus (intro w1 hR; first | exact ().at_ (by first | omega | (simp; done) | (simp; omega)) hR)); (try simp only [Act.put, List.setIfInBounds_toArray, List.set_cons_succ, List.set_cons_zero])) | (apply wpR_val_want rfl; (focus (intro w1 hR; obtain ⟨hc, hf⟩ := bcellB hR; (try go_simp); (try exact Eq.refl _); done)); (try simp only [Act.put, List.setIfInBounds_toArray, List.set_cons_succ, List.set_cons_zero])) | (apply wpR_call_want rfl; (focus (intro w1 hR; obtain ⟨hc, hf⟩ := bcellB hR; (try go_simp); (try exact And.intro rfl rfl); done)); (focus (intro w1 hR; first | exact ().at_ (by first | omega | (simp; done) | (simp; omega)) hR)); (try simp only [Act.put, List.setIfInBounds_toArray, List.set_cons_succ, List.set_cons_zero]))))
    refine wpR_nil (fun w2 hb2 => ?_)
    obtain ⟨w3, rfl, hb3, hz0⟩ := behind_alloc1 (hb2.mono (by simp))
    clear hb2
    go_wp2_with (first | (go_at_call 38; refine (zero_calls ⟨sb0, sb1, sb2, node, ro, rp, om, pm, _, _⟩ _).out.mono ?_; rintro e w1 ⟨rfl, hb1⟩; obtain ⟨w2, rfl, hb4, _, hy0⟩ := behind_wb1 (B := w.heap.size) hb1 hz0 (by omega); have hb5 := hb3.trans hb4; clear hb1 hb3 hb4 hz0) | (go_at_call 39; refine (one_calls ⟨sb0, sb1, sb2, node, ro, rp, om, pm, _, _⟩ _).out.mono ?_; rintro e w1 ⟨rfl, hb1⟩; obtain ⟨w2, rfl, hb4, _, hy0⟩ := behind_wb1 (B := w.heap.size) hb1 hz0 (by omega); have hb5 := hb3.trans hb4; clear hb1 hb3 hb4 hz0) | go_in)
    go_ret2
    refine ⟨?_, (by first | exact Below.refl _ _ | exact below_alloc1 _ _ | exact below_alloc2 _ _ _ | exact below_alloc3 _ _ _ _ | (repeat' (first | assumption | exact Below.refl _ _ | exact below_alloc1 _ _ | exact below_alloc2 _ _ _ | exact below_alloc3 _ _ _ _ | (refine Below.drew ?_) | (refine below_wb ?_ ?_) | (refine Below.alloc ?_ ?_ _) | omega | (simp; done) | (simp; omega))))⟩
    (try simp only [bne_iff_ne, ne_eq, beq_iff_eq, bne_eq_false_iff_eq, beq_eq_false_iff_ne, Bool.and_eq_true, Bool.or_eq_true, Bool.and_eq_false_iff, Bool.or_eq_false_iff, decide_eq_true_eq, decide_eq_false_iff_not] at *)
    first | (simp [Spec.who, e1, e2, e3]; done) | (have e4 : ¬ (0 : Int) = rp := (by omega); simp [Spec.who, e1, e2, e3, e4]; done) | (unfold Spec.who; (repeat' split) <;> first | rfl | (exfalso; omega) | (simp_all; done) | (exfalso; simp_all; omega))

end Go.Proofs.YtboanmhibbhceaaDoor
