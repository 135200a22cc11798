/- IdentTruth: the target hears of a resync. -/
import Derived.Test.YtboanmhibbhceaaTruthWalk3
namespace Go.Proofs.Ytboanmhibbhceaa
open Go.RowKit
set_option linter.unusedVariables false
set_option linter.unusedSimpArgs false

theorem begin_has {s : Truth.St} {m : Int} : (s.begin m).a.has = s.a.has ∧ (s.begin m).b.has = s.b.has := by
  unfold Truth.St.begin Truth.St.put Truth.St.nd
  split <;> exact ⟨rfl, rfl⟩

set_option maxRecDepth 100000 in
set_option maxHeartbeats 8000000 in
theorem taken_calls_p {B bp : Nat} {w0 w : World} {s : Truth.St} {v0 v1 : Value} (h : PS B bp w0 s w v0 v1) (hs : s.source = 0 ∨ s.source = 1) :
    Calls Try.prog 44 #[.pointer (some ⟨bp, 0, none⟩)] w fun e w' => e = .returned (.tuple #[]) ∧ PS B bp w0 s.heard w' v0 v1 := by
  obtain ⟨⟨ga, wa, xs⟩, ⟨gb, wb, ys⟩, nx, nu, so, tk, hf⟩ := s
  simp only at hs
  have hp := has_cell' h.blk
  rcases hs with rfl | rfl
  · go_enter Try.func44, Try.ntmps44
    go_wp2_with fail
    refine Ph.wp_region_P (fun _ w => PS B bp w0 ⟨⟨ga, wa, xs⟩, ⟨gb, wb, ys⟩, nx, nu, 0, tk, hf⟩ w v0 v1) (fun i => false) 20 [0, 1, 2, 3, 4, 5, 6, 7, 8, 9, 10, 11, 12, 13, 14, 15, 16, 17, 18, 19] (by kernel_rfl) (by kernel_rfl) (h.grow (Below.drew (Below.refl _ _))) ?_
    (repeat (first | (refine Ph.wpP_pass rfl rfl rfl ?_; (try simp only [List.getElem_toArray, List.getElem_cons_succ, List.getElem_cons_zero, Act.put, List.setIfInBounds_toArray, List.set_cons_succ, List.set_cons_zero])) | (apply Ph.wpP_val rfl rfl rfl; (focus (intro t w1 hR; have hc := has_cell' hR.blk; (try simp only [List.getElem_toArray, List.getElem_cons_succ, List.getElem_cons_zero]); (try go_simp); (try exact Eq.refl _); done)); (try simp only [List.getElem_toArray, List.getElem_cons_succ, List.getElem_cons_zero, Act.put, List.setIfInBounds_toArray, List.set_cons_succ, List.set_cons_zero])) | (apply Ph.wpP_call (fun _ _ _ hR hb => PS.grow hR hb) rfl rfl rfl; (focus (intro t w1 hR; have hc := has_cell' hR.blk; (try simp only [List.getElem_toArray, List.getElem_cons_succ, List.getElem_cons_zero]); (try go_simp); (try exact And.intro rfl rfl); done)); (focus (intro t w1 hR; first | exact beginTarget_calls _ _ _)); (try simp only [List.getElem_toArray, List.getElem_cons_succ, List.getElem_cons_zero, Act.put, List.setIfInBounds_toArray, List.set_cons_succ, List.set_cons_zero])) | (apply Ph.wpP_val_want rfl rfl rfl; (focus (intro t w1 hR; have hc := has_cell' hR.blk; (try simp only [List.getElem_toArray, List.getElem_cons_succ, List.getElem_cons_zero]); (try go_simp); (try exact Eq.refl _); done)); (try simp only [List.getElem_toArray, List.getElem_cons_succ, List.getElem_cons_zero, Act.put, List.setIfInBounds_toArray, List.set_cons_succ, List.set_cons_zero])) | (apply Ph.wpP_call_want (fun _ _ _ hR hb => PS.grow hR hb) rfl rfl rfl; (focus (intro t w1 hR; have hc := has_cell' hR.blk; (try simp only [List.getElem_toArray, List.getElem_cons_succ, List.getElem_cons_zero]); (try go_simp); (try exact And.intro rfl rfl); done)); (focus (intro t w1 hR; first | exact beginTarget_calls _ _ _)); (try simp only [List.getElem_toArray, List.getElem_cons_succ, List.getElem_cons_zero, Act.put, List.setIfInBounds_toArray, List.set_cons_succ, List.set_cons_zero]))))
    refine Ph.wpP_nil ?_
    rintro w2 hR2
    have hset := hR2.set (s' := (Truth.St.mk ⟨ga, wa, xs⟩ ⟨gb, wb, ys⟩ nx nu 0 tk hf).heard) rfl rfl
    have hlt := hR2.lt
    rw [← wb_self hR2.blk]
    clear hR2 h hp
    go_wp2_with fail
    go_end0
    exact ⟨rfl, hset⟩
  · go_enter Try.func44, Try.ntmps44
    go_wp2_with fail
    refine Ph.wp_region_P (fun _ w => PS B bp w0 ⟨⟨ga, wa, xs⟩, ⟨gb, wb, ys⟩, nx, nu, 1, tk, hf⟩ w v0 v1) (fun i => false) 20 [0, 1, 2, 3, 4, 5, 6, 7, 8, 9, 10, 11, 12, 13, 14, 15, 16, 17, 18, 19] (by kernel_rfl) (by kernel_rfl) (h.grow (Below.drew (Below.refl _ _))) ?_
    (repeat (first | (refine Ph.wpP_pass rfl rfl rfl ?_; (try simp only [List.getElem_toArray, List.getElem_cons_succ, List.getElem_cons_zero, Act.put, List.setIfInBounds_toArray, List.set_cons_succ, List.set_cons_zero])) | (apply Ph.wpP_val rfl rfl rfl; (focus (intro t w1 hR; have hc := has_cell' hR.blk; (try simp only [List.getElem_toArray, List.getElem_cons_succ, List.getElem_cons_zero]); (try go_simp); (try exact Eq.refl _); done)); (try simp only [List.getElem_toArray, List.getElem_cons_succ, List.getElem_cons_zero, Act.put, List.setIfInBounds_toArray, List.set_cons_succ, List.set_cons_zero])) | (apply Ph.wpP_call (fun _ _ _ hR hb => PS.grow hR hb) rfl rfl rfl; (focus (intro t w1 hR; have hc := has_cell' hR.blk; (try simp only [List.getElem_toArray, List.getElem_cons_succ, List.getElem_cons_zero]); (try go_simp); (try exact And.intro rfl rfl); done)); (focus (intro t w1 hR; first | exact beginTarget_calls _ _ _)); (try simp only [List.getElem_toArray, List.getElem_cons_succ, List.getElem_cons_zero, Act.put, List.setIfInBounds_toArray, List.set_cons_succ, List.set_cons_zero])) | (apply Ph.wpP_val_want rfl rfl rfl; (focus (intro t w1 hR; have hc := has_cell' hR.blk; (try simp only [List.getElem_toArray, List.getElem_cons_succ, List.getElem_cons_zero]); (try go_simp); (try exact Eq.refl _); done)); (try simp only [List.getElem_toArray, List.getElem_cons_succ, List.getElem_cons_zero, Act.put, List.setIfInBounds_toArray, List.set_cons_succ, List.set_cons_zero])) | (apply Ph.wpP_call_want (fun _ _ _ hR hb => PS.grow hR hb) rfl rfl rfl; (focus (intro t w1 hR; have hc := has_cell' hR.blk; (try simp only [List.getElem_toArray, List.getElem_cons_succ, List.getElem_cons_zero]); (try go_simp); (try exact And.intro rfl rfl); done)); (focus (intro t w1 hR; first | exact beginTarget_calls _ _ _)); (try simp only [List.getElem_toArray, List.getElem_cons_succ, List.getElem_cons_zero, Act.put, List.setIfInBounds_toArray, List.set_cons_succ, List.set_cons_zero]))))
    refine Ph.wpP_nil ?_
    rintro w2 hR2
    have hset := hR2.set (s' := (Truth.St.mk ⟨ga, wa, xs⟩ ⟨gb, wb, ys⟩ nx nu 1 tk hf).heard) rfl rfl
    have hlt := hR2.lt
    rw [← wb_self hR2.blk]
    clear hR2 h hp
    go_wp2_with fail
    go_end0
    exact ⟨rfl, hset⟩
end Go.Proofs.Ytboanmhibbhceaa
