/- IdentTruth: the end of a resync. (Printed by wip/mkends.py.) -/
import Derived.Test.YtboanmhibbhceaaTruthWalk8
namespace Go.Proofs.Ytboanmhibbhceaa
open Go.RowKit
set_option linter.unusedVariables false
set_option linter.unusedSimpArgs false
variable {B bp : Nat} {w0 w w' : World} {c c' : Array Value} {xs ys : List Int} {v0 v1 : Value} {s : Truth.St}

set_option maxRecDepth 100000 in
set_option maxHeartbeats 8000000 in
theorem ends_none {k : Int} (h : PS B bp w0 s w v0 v1) (hs : s.source = 0 ∨ s.source = 1) (hk : (k = 4 ∧ (s.taken = false ∨ s.half = true)) ∨ (k = 5 ∧ s.half = false)) :
    Calls Try.prog 43 #[.pointer (some ⟨bp, 0, none⟩), .int .i64 k] w fun e w' => e = .returned (.tuple #[]) ∧ PS B bp w0 s w' v0 v1 := by
  have hp := has_cell' h.blk
  obtain ⟨⟨ga, wa, xs⟩, ⟨gb, wb, ys⟩, nx, nu, so, tk, hf⟩ := s
  simp only at hs hk hp
  rcases hs with rfl | rfl <;> rcases hk with ⟨rfl, rfl | rfl⟩ | ⟨rfl, rfl⟩
  all_goals (try cases tk)
  all_goals
    go_enter Try.func43, Try.ntmps43
    go_wp2_with fail
    go_end0
    exact ⟨rfl, h⟩

set_option maxRecDepth 100000 in
set_option maxHeartbeats 8000000 in
theorem ends_end0 (h : PS B bp w0 s w v0 v1) (hs : s.source = 0) (hh : s.half = true) :
    Calls Try.prog 43 #[.pointer (some ⟨bp, 0, none⟩), .int .i64 5] w fun e w' => e = .returned (.tuple #[]) ∧ PS B bp w0 s.ended w' v0 v1 := by
  have hp := has_cell' h.blk
  obtain ⟨⟨ga, wa, xs⟩, ⟨gb, wb, ys⟩, nx, nu, so, tk, hf⟩ := s
  simp only at hs hh hp
  subst hs hh
  go_enter Try.func43, Try.ntmps43
  go_wp2_with fail
  refine Ph.wp_region_P (fun _ w => PS B bp w0 ⟨⟨ga, wa, xs⟩, ⟨gb, wb, ys⟩, nx, nu, 0, tk, true⟩ w v0 v1) (fun i => false) 17 [0, 1, 2, 3, 4, 5, 6, 7, 8, 9, 10, 11, 12, 13, 14, 15, 16] (by kernel_rfl) (by kernel_rfl) (h.grow (Below.drew (Below.refl _ _))) ?_
  (repeat (first | (refine Ph.wpP_pass rfl rfl rfl ?_; (try simp only [List.getElem_toArray, List.getElem_cons_succ, List.getElem_cons_zero, Act.put, List.setIfInBounds_toArray, List.set_cons_succ, List.set_cons_zero])) | (apply Ph.wpP_val rfl rfl rfl; (focus (intro t w1 hR; have hc := has_cell' hR.blk; (try simp only [List.getElem_toArray, List.getElem_cons_succ, List.getElem_cons_zero]); (try go_simp); (try exact Eq.refl _); done)); (try simp only [List.getElem_toArray, List.getElem_cons_succ, List.getElem_cons_zero, Act.put, List.setIfInBounds_toArray, List.set_cons_succ, List.set_cons_zero])) | (apply Ph.wpP_call (fun _ _ _ hR hb => PS.grow hR hb) rfl rfl rfl; (focus (intro t w1 hR; have hc := has_cell' hR.blk; (try simp only [List.getElem_toArray, List.getElem_cons_succ, List.getElem_cons_zero]); (try go_simp); (try exact And.intro rfl rfl); done)); (focus (intro t w1 hR; first | exact endTarget_calls _ _ _)); (try simp only [List.getElem_toArray, List.getElem_cons_succ, List.getElem_cons_zero, Act.put, List.setIfInBounds_toArray, List.set_cons_succ, List.set_cons_zero])) | (apply Ph.wpP_val_want rfl rfl rfl; (focus (intro t w1 hR; have hc := has_cell' hR.blk; (try simp only [List.getElem_toArray, List.getElem_cons_succ, List.getElem_cons_zero]); (try go_simp); (try exact Eq.refl _); done)); (try simp only [List.getElem_toArray, List.getElem_cons_succ, List.getElem_cons_zero, Act.put, List.setIfInBounds_toArray, List.set_cons_succ, List.set_cons_zero])) | (apply Ph.wpP_call_want (fun _ _ _ hR hb => PS.grow hR hb) rfl rfl rfl; (focus (intro t w1 hR; have hc := has_cell' hR.blk; (try simp only [List.getElem_toArray, List.getElem_cons_succ, List.getElem_cons_zero]); (try go_simp); (try exact And.intro rfl rfl); done)); (focus (intro t w1 hR; first | exact endTarget_calls _ _ _)); (try simp only [List.getElem_toArray, List.getElem_cons_succ, List.getElem_cons_zero, Act.put, List.setIfInBounds_toArray, List.set_cons_succ, List.set_cons_zero]))))
  refine Ph.wpP_nil ?_
  rintro w2 hR2
  have hset := hR2.set (s' := (Truth.St.mk ⟨ga, wa, xs⟩ ⟨gb, wb, ys⟩ nx nu 0 tk true).ended) rfl rfl
  have hlt := hR2.lt
  rw [← wb_self hR2.blk]
  clear hR2 h hp
  go_wp2_with fail
  go_end0
  exact ⟨rfl, hset⟩

set_option maxRecDepth 100000 in
set_option maxHeartbeats 8000000 in
theorem ends_end1 (h : PS B bp w0 s w v0 v1) (hs : s.source = 1) (hh : s.half = true) :
    Calls Try.prog 43 #[.pointer (some ⟨bp, 0, none⟩), .int .i64 5] w fun e w' => e = .returned (.tuple #[]) ∧ PS B bp w0 s.ended w' v0 v1 := by
  have hp := has_cell' h.blk
  obtain ⟨⟨ga, wa, xs⟩, ⟨gb, wb, ys⟩, nx, nu, so, tk, hf⟩ := s
  simp only at hs hh hp
  subst hs hh
  go_enter Try.func43, Try.ntmps43
  go_wp2_with fail
  refine Ph.wp_region_P (fun _ w => PS B bp w0 ⟨⟨ga, wa, xs⟩, ⟨gb, wb, ys⟩, nx, nu, 1, tk, true⟩ w v0 v1) (fun i => false) 17 [0, 1, 2, 3, 4, 5, 6, 7, 8, 9, 10, 11, 12, 13, 14, 15, 16] (by kernel_rfl) (by kernel_rfl) (h.grow (Below.drew (Below.refl _ _))) ?_
  (repeat (first | (refine Ph.wpP_pass rfl rfl rfl ?_; (try simp only [List.getElem_toArray, List.getElem_cons_succ, List.getElem_cons_zero, Act.put, List.setIfInBounds_toArray, List.set_cons_succ, List.set_cons_zero])) | (apply Ph.wpP_val rfl rfl rfl; (focus (intro t w1 hR; have hc := has_cell' hR.blk; (try simp only [List.getElem_toArray, List.getElem_cons_succ, List.getElem_cons_zero]); (try go_simp); (try exact Eq.refl _); done)); (try simp only [List.getElem_toArray, List.getElem_cons_succ, List.getElem_cons_zero, Act.put, List.setIfInBounds_toArray, List.set_cons_succ, List.set_cons_zero])) | (apply Ph.wpP_call (fun _ _ _ hR hb => PS.grow hR hb) rfl rfl rfl; (focus (intro t w1 hR; have hc := has_cell' hR.blk; (try simp only [List.getElem_toArray, List.getElem_cons_succ, List.getElem_cons_zero]); (try go_simp); (try exact And.intro rfl rfl); done)); (focus (intro t w1 hR; first | exact endTarget_calls _ _ _)); (try simp only [List.getElem_toArray, List.getElem_cons_succ, List.getElem_cons_zero, Act.put, List.setIfInBounds_toArray, List.set_cons_succ, List.set_cons_zero])) | (apply Ph.wpP_val_want rfl rfl rfl; (focus (intro t w1 hR; have hc := has_cell' hR.blk; (try simp only [List.getElem_toArray, List.getElem_cons_succ, List.getElem_cons_zero]); (try go_simp); (try exact Eq.refl _); done)); (try simp only [List.getElem_toArray, List.getElem_cons_succ, List.getElem_cons_zero, Act.put, List.setIfInBounds_toArray, List.set_cons_succ, List.set_cons_zero])) | (apply Ph.wpP_call_want (fun _ _ _ hR hb => PS.grow hR hb) rfl rfl rfl; (focus (intro t w1 hR; have hc := has_cell' hR.blk; (try simp only [List.getElem_toArray, List.getElem_cons_succ, List.getElem_cons_zero]); (try go_simp); (try exact And.intro rfl rfl); done)); (focus (intro t w1 hR; first | exact endTarget_calls _ _ _)); (try simp only [List.getElem_toArray, List.getElem_cons_succ, List.getElem_cons_zero, Act.put, List.setIfInBounds_toArray, List.set_cons_succ, List.set_cons_zero]))))
  refine Ph.wpP_nil ?_
  rintro w2 hR2
  have hset := hR2.set (s' := (Truth.St.mk ⟨ga, wa, xs⟩ ⟨gb, wb, ys⟩ nx nu 1 tk true).ended) rfl rfl
  have hlt := hR2.lt
  rw [← wb_self hR2.blk]
  clear hR2 h hp
  go_wp2_with fail
  go_end0
  exact ⟨rfl, hset⟩
end Go.Proofs.Ytboanmhibbhceaa
