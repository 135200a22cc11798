/- Mirror and Resolve of the document, each as one plain function of its numbers. -/
import Derived.Test.YtboanmhibbhceaaResolve
namespace Go.Proofs.Ytboanmhibbhceaa
open Go.RowKit
set_option linter.unusedVariables false
set_option linter.unusedSimpArgs false

namespace Spec
def mirror (k : Int) : Int := if k = 1 then 2 else if k = 2 then 1 else if k = 3 then 4 else if k = 4 then 3 else k
def wrong (k : Int) (q : Q) : Int := if k < 0 ∨ 7 < k then 1 else validQ q
end Spec

theorem mirror_cases (k : Int) : k = 0 ∨ k = 1 ∨ k = 2 ∨ k = 3 ∨ k = 4 ∨ k < 0 ∨ 5 ≤ k := by omega

set_option maxRecDepth 100000 in
set_option maxHeartbeats 4000000 in
theorem refMirror_calls (k r : Int) (w : World) : Pur Try.prog 34 #[.agg #[.int .i64 k, .int .i64 r]] w (.agg #[.int .i64 (Spec.mirror k), .int .i64 r]) := by
  unfold Pur
  rcases mirror_cases k with rfl | rfl | rfl | rfl | rfl | h | h
  all_goals
    go_enter Try.func34, Try.ntmps34
    go_wp2
    all_goals refine bodyPost_ret (v := .agg #[.int .i64 (Spec.mirror _), .int .i64 r]) ?_ rfl ⟨rfl, (by first | exact Below.refl _ _ | exact below_alloc1 _ _ | exact below_alloc2 _ _ _ | exact below_alloc3 _ _ _ _ | (repeat' (first | assumption | exact Below.refl _ _ | exact below_alloc1 _ _ | exact below_alloc2 _ _ _ | exact below_alloc3 _ _ _ _ | (refine Below.drew ?_) | (refine below_wb ?_ ?_) | (refine Below.alloc ?_ ?_ _) | omega | (simp; done) | (simp; omega))))⟩
    all_goals simp [results, Try.results34, go_sem, Spec.mirror]
    all_goals (try omega)
    all_goals ((repeat' split) <;> first | rfl | (simp; done) | omega | (simp_all; omega))

set_option maxRecDepth 100000 in
set_option maxHeartbeats 4000000 in
theorem wrong_calls (k r node sb0 sb1 sb2 ownRole peerRole ownMarked peerMarked : Int) (og pg : Bool) (w : World) :
    Pur Try.prog 32 #[.agg #[.int .i64 k, .int .i64 r], .int .i64 node, .int .i64 sb0, .int .i64 sb1, .int .i64 sb2, .int .i64 ownRole, .int .i64 peerRole, .int .i64 ownMarked, .int .i64 peerMarked] w
      (.int .i64 (Spec.wrong k ⟨sb0, sb1, sb2, node, ownRole, peerRole, ownMarked, peerMarked, og, pg⟩)) := by
  unfold Pur
  go_enter Try.func32, Try.ntmps32
  go_wp2
  all_goals go_ret
  all_goals refine ⟨ret_i64 ?_, (by first | exact Below.refl _ _ | exact below_alloc1 _ _ | exact below_alloc2 _ _ _ | exact below_alloc3 _ _ _ _ | (repeat' (first | assumption | exact Below.refl _ _ | exact below_alloc1 _ _ | exact below_alloc2 _ _ _ | exact below_alloc3 _ _ _ _ | (refine Below.drew ?_) | (refine below_wb ?_ ?_) | (refine Below.alloc ?_ ?_ _) | omega | (simp; done) | (simp; omega))))⟩
  all_goals (try simp only [bne_iff_ne, ne_eq, beq_iff_eq, bne_eq_false_iff_eq, beq_eq_false_iff_ne, Bool.and_eq_true, Bool.or_eq_true, Bool.and_eq_false_iff, Bool.or_eq_false_iff, decide_eq_true_eq, decide_eq_false_iff_not] at *)
  all_goals (unfold Spec.wrong Spec.validQ)
  all_goals (repeat' split)
  all_goals first | rfl | (exfalso; omega) | (simp_all; done) | (simp_all; omega)

set_option maxRecDepth 100000 in
set_option maxHeartbeats 4000000 in
theorem by0_calls (sb0 node ownMarked peerMarked : Int) (sb1 sb2 ownRole peerRole : Int) (og pg : Bool) (w : World) (hn : node = 0 ∨ node = 1) (ho : 0 ≤ ownMarked) (hp : 0 ≤ peerMarked) :
    Sam Try.prog 33 #[.int .i64 sb0, .int .i64 node, .int .i64 ownMarked, .int .i64 peerMarked] w
      (.int .i64 (Spec.zero ⟨sb0, sb1, sb2, node, ownRole, peerRole, ownMarked, peerMarked, og, pg⟩ - 1)) := by
  unfold Sam
  rcases hn with rfl | rfl
  all_goals
    go_enter Try.func33, Try.ntmps33
    go_wp2
    all_goals go_ret
    all_goals refine ⟨ret_i64 ?_, rfl⟩
    all_goals (try simp only [bne_iff_ne, ne_eq, beq_iff_eq, bne_eq_false_iff_eq, beq_eq_false_iff_ne, Bool.and_eq_true, Bool.or_eq_true, Bool.and_eq_false_iff, Bool.or_eq_false_iff, decide_eq_true_eq, decide_eq_false_iff_not] at *)
    all_goals (unfold Spec.zero)
    all_goals (repeat' split)
    all_goals first | rfl | (exfalso; omega) | omega | (simp_all; done) | (simp_all; omega)
end Go.Proofs.Ytboanmhibbhceaa
