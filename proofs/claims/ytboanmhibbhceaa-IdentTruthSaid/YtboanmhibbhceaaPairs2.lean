/- The fourteen rules, second part: those with a drawn order, and those built on them. -/
import Derived.Test.YtboanmhibbhceaaPairs
namespace Go.Proofs.Ytboanmhibbhceaa
open Go.RowKit
set_option linter.unusedVariables false
set_option linter.unusedSimpArgs false

set_option maxRecDepth 100000 in
set_option maxHeartbeats 4000000 in
theorem oneNew_calls (p : Pr) (w : World) : Pur Try.prog 53 #[.agg (pc p)] w (.int .i64 (Spec.oneNew p)) := by
  unfold Pur
  obtain ⟨first, g, gx, h, hx⟩ := p
  obtain ⟨x1, e1⟩ : ∃ x, Spec.isNew g = x := ⟨_, rfl⟩
  obtain ⟨x2, e2⟩ : ∃ x, Spec.isNew h = x := ⟨_, rfl⟩
  go_enter Try.func53, Try.ntmps53
  go_wp2_with fail
  refine wp_region_R (Below (w.heap.size + 1) (w.alloc (.cells (pc ⟨first, g, gx, h, hx⟩) 68))) (by kernel_rfl) (by kernel_rfl) (by first | exact Below.refl _ _ | exact below_alloc1 _ _ | exact below_alloc2 _ _ _ | exact below_alloc3 _ _ _ _ | (repeat' (first | assumption | exact Below.refl _ _ | exact below_alloc1 _ _ | exact below_alloc2 _ _ _ | exact below_alloc3 _ _ _ _ | (refine Below.drew ?_) | (refine below_wb ?_ ?_) | (refine Below.alloc ?_ ?_ _) | omega | (simp; done) | (simp; omega)))) ?_
  (repeat (first | (apply wpR_pass rfl; (try simp only [Act.put, List.setIfInBounds_toArray, List.set_cons_succ, List.set_cons_zero])) | (apply wpR_val rfl; (focus (intro w1 hR; obtain ⟨hc, hf⟩ := bcellB hR; (try go_simp); (try exact Eq.refl _); done)); (try simp only [Act.put, List.setIfInBounds_toArray, List.set_cons_succ, List.set_cons_zero])) | (apply wpR_call rfl; (focus (intro w1 hR; obtain ⟨hc, hf⟩ := bcellB hR; (try go_simp); (try exact And.intro rfl rfl); done)); (focus (intro w1 hR; first | exact (isNew_calls _ _).at_ (by first | omega | (simp; done) | (simp; omega)) hR)); (try simp only [Act.put, List.setIfInBounds_toArray, List.set_cons_succ, List.set_cons_zero])) | (apply wpR_val_want rfl; (focus (intro w1 hR; obtain ⟨hc, hf⟩ := bcellB hR; (try go_simp); (try exact Eq.refl _); done)); (try simp only [Act.put, List.setIfInBounds_toArray, List.set_cons_succ, List.set_cons_zero])) | (apply wpR_call_want rfl; (focus (intro w1 hR; obtain ⟨hc, hf⟩ := bcellB hR; (try go_simp); (try exact And.intro rfl rfl); done)); (focus (intro w1 hR; first | exact (isNew_calls _ _).at_ (by first | omega | (simp; done) | (simp; omega)) hR)); (try simp only [Act.put, List.setIfInBounds_toArray, List.set_cons_succ, List.set_cons_zero]))))
  refine wpR_nil (fun w2 hb2 => ?_)
  obtain ⟨w3, rfl, hb3, hz0⟩ := behind_alloc1 (hb2.mono (by simp))
  clear hb2
  rw [e1, e2]
  cases x1 <;> cases x2
  all_goals
    go_wp2_with (first | (go_at_call 51; go_in) | fail)
    all_goals go_ret
    all_goals exact ⟨ret_i64 (by simp [Spec.oneNew, Spec.target, e1, e2]), (by first | exact Below.refl _ _ | exact below_alloc1 _ _ | exact below_alloc2 _ _ _ | exact below_alloc3 _ _ _ _ | (repeat' (first | assumption | exact Below.refl _ _ | exact below_alloc1 _ _ | exact below_alloc2 _ _ _ | exact below_alloc3 _ _ _ _ | (refine Below.drew ?_) | (refine below_wb ?_ ?_) | (refine Below.alloc ?_ ?_ _) | omega | (simp; done) | (simp; omega))))⟩

set_option maxRecDepth 100000 in
set_option maxHeartbeats 4000000 in
theorem ahead_calls (p : Pr) (w : World) : Pur Try.prog 76 #[.agg (pc p)] w (.tuple #[.bool (Spec.mtch p.g.b p.h.c), .bool (Spec.mtch p.h.b p.g.c)]) := by
  unfold Pur
  obtain ⟨first, g, gx, h, hx⟩ := p
  go_enter Try.func76, Try.ntmps76
  go_wp2_with fail
  refine wp_region_R (Below (w.heap.size + 1) (w.alloc (.cells (pc ⟨first, g, gx, h, hx⟩) 68))) (by kernel_rfl) (by kernel_rfl) (by first | exact Below.refl _ _ | exact below_alloc1 _ _ | exact below_alloc2 _ _ _ | exact below_alloc3 _ _ _ _ | (repeat' (first | assumption | exact Below.refl _ _ | exact below_alloc1 _ _ | exact below_alloc2 _ _ _ | exact below_alloc3 _ _ _ _ | (refine Below.drew ?_) | (refine below_wb ?_ ?_) | (refine Below.alloc ?_ ?_ _) | omega | (simp; done) | (simp; omega)))) ?_
  (repeat (first | (apply wpR_pass rfl; (try simp only [Act.put, List.setIfInBounds_toArray, List.set_cons_succ, List.set_cons_zero])) | (apply wpR_val rfl; (focus (intro w1 hR; obtain ⟨hc, hf⟩ := bcellB hR; (try go_simp); (try exact Eq.refl _); done)); (try simp only [Act.put, List.setIfInBounds_toArray, List.set_cons_succ, List.set_cons_zero])) | (apply wpR_call rfl; (focus (intro w1 hR; obtain ⟨hc, hf⟩ := bcellB hR; (try go_simp); (try exact And.intro rfl rfl); done)); (focus (intro w1 hR; first | exact (match_calls _ _ _).at_ (by first | omega | (simp; done) | (simp; omega)) hR)); (try simp only [Act.put, List.setIfInBounds_toArray, List.set_cons_succ, List.set_cons_zero])) | (apply wpR_val_want rfl; (focus (intro w1 hR; obtain ⟨hc, hf⟩ := bcellB hR; (try go_simp); (try exact Eq.refl _); done)); (try simp only [Act.put, List.setIfInBounds_toArray, List.set_cons_succ, List.set_cons_zero])) | (apply wpR_call_want rfl; (focus (intro w1 hR; obtain ⟨hc, hf⟩ := bcellB hR; (try go_simp); (try exact And.intro rfl rfl); done)); (focus (intro w1 hR; first | exact (match_calls _ _ _).at_ (by first | omega | (simp; done) | (simp; omega)) hR)); (try simp only [Act.put, List.setIfInBounds_toArray, List.set_cons_succ, List.set_cons_zero]))))
  refine wpR_nil (fun w2 hb2 => ?_)
  obtain ⟨w3, rfl, hb3, hz0⟩ := behind_alloc1 (hb2.mono (by simp))
  clear hb2
  go_wp2_with fail
  go_ret2
  exact ⟨rfl, (by first | exact Below.refl _ _ | exact below_alloc1 _ _ | exact below_alloc2 _ _ _ | exact below_alloc3 _ _ _ _ | (repeat' (first | assumption | exact Below.refl _ _ | exact below_alloc1 _ _ | exact below_alloc2 _ _ _ | exact below_alloc3 _ _ _ _ | (refine Below.drew ?_) | (refine below_wb ?_ ?_) | (refine Below.alloc ?_ ?_ _) | omega | (simp; done) | (simp; omega))))⟩

set_option maxRecDepth 100000 in
set_option maxHeartbeats 4000000 in
theorem behind_calls (p : Pr) (w : World) : Pur Try.prog 77 #[.agg (pc p)] w (.tuple #[.bool (Spec.old p.g.c p.h), .bool (Spec.old p.h.c p.g)]) := by
  unfold Pur
  obtain ⟨first, g, gx, h, hx⟩ := p
  go_enter Try.func77, Try.ntmps77
  go_wp2_with fail
  refine wp_region_R (Below (w.heap.size + 1) (w.alloc (.cells (pc ⟨first, g, gx, h, hx⟩) 68))) (by kernel_rfl) (by kernel_rfl) (by first | exact Below.refl _ _ | exact below_alloc1 _ _ | exact below_alloc2 _ _ _ | exact below_alloc3 _ _ _ _ | (repeat' (first | assumption | exact Below.refl _ _ | exact below_alloc1 _ _ | exact below_alloc2 _ _ _ | exact below_alloc3 _ _ _ _ | (refine Below.drew ?_) | (refine below_wb ?_ ?_) | (refine Below.alloc ?_ ?_ _) | omega | (simp; done) | (simp; omega)))) ?_
  (repeat (first | (apply wpR_pass rfl; (try simp only [Act.put, List.setIfInBounds_toArray, List.set_cons_succ, List.set_cons_zero])) | (apply wpR_val rfl; (focus (intro w1 hR; obtain ⟨hc, hf⟩ := bcellB hR; (try go_simp); (try exact Eq.refl _); done)); (try simp only [Act.put, List.setIfInBounds_toArray, List.set_cons_succ, List.set_cons_zero])) | (apply wpR_call rfl; (focus (intro w1 hR; obtain ⟨hc, hf⟩ := bcellB hR; (try go_simp); (try exact And.intro rfl rfl); done)); (focus (intro w1 hR; first | exact (old_calls _ _ _).at_ (by first | omega | (simp; done) | (simp; omega)) hR)); (try simp only [Act.put, List.setIfInBounds_toArray, List.set_cons_succ, List.set_cons_zero])) | (apply wpR_val_want rfl; (focus (intro w1 hR; obtain ⟨hc, hf⟩ := bcellB hR; (try go_simp); (try exact Eq.refl _); done)); (try simp only [Act.put, List.setIfInBounds_toArray, List.set_cons_succ, List.set_cons_zero])) | (apply wpR_call_want rfl; (focus (intro w1 hR; obtain ⟨hc, hf⟩ := bcellB hR; (try go_simp); (try exact And.intro rfl rfl); done)); (focus (intro w1 hR; first | exact (old_calls _ _ _).at_ (by first | omega | (simp; done) | (simp; omega)) hR)); (try simp only [Act.put, List.setIfInBounds_toArray, List.set_cons_succ, List.set_cons_zero]))))
  refine wpR_nil (fun w2 hb2 => ?_)
  obtain ⟨w3, rfl, hb3, hz0⟩ := behind_alloc1 (hb2.mono (by simp))
  clear hb2
  go_wp2_with fail
  go_ret2
  exact ⟨rfl, (by first | exact Below.refl _ _ | exact below_alloc1 _ _ | exact below_alloc2 _ _ _ | exact below_alloc3 _ _ _ _ | (repeat' (first | assumption | exact Below.refl _ _ | exact below_alloc1 _ _ | exact below_alloc2 _ _ _ | exact below_alloc3 _ _ _ _ | (refine Below.drew ?_) | (refine below_wb ?_ ?_) | (refine Below.alloc ?_ ?_ _) | omega | (simp; done) | (simp; omega))))⟩
end Go.Proofs.Ytboanmhibbhceaa
