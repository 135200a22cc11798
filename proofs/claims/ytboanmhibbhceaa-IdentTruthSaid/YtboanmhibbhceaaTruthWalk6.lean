/- IdentTruth: the verdict that both sides come to, the walk. -/
import Derived.Test.YtboanmhibbhceaaTruthWalk5
namespace Go.Proofs.Ytboanmhibbhceaa
open Go.RowKit
set_option linter.unusedVariables false
set_option linter.unusedSimpArgs false

set_option maxHeartbeats 1000000 in
theorem num_calls (c : Int) (w : World) : Pur Try.prog 40 #[.int .i64 c] w (.int .i64 c) := by
  unfold Pur
  go_enter Try.func40, Try.ntmps40
  go_wp2
  all_goals go_ret
  all_goals exact ⟨rfl, Below.refl _ _⟩

theorem ptr_inj {a b : Nat} (h : Value.pointer (some ⟨a, 0, none⟩) = Value.pointer (some ⟨b, 0, none⟩)) : a = b := by
  injection h with h; injection h with h; injection h

set_option maxRecDepth 100000 in
set_option maxHeartbeats 40000000 in
theorem verdict_calls_p {B bp : Nat} {w0 w : World} {s : Truth.St} {v0 v1 : Value} {k r : Int} (h : PS B bp w0 s w v0 v1) (hv : Truth.verdict s.a s.b = (k, r, 0)) (hr : 1 ≤ r) :
    Pur Try.prog 24 #[.pointer (some ⟨bp, 0, none⟩)] w (.tuple #[verV k r, .bool true]) := by
  unfold Pur
  obtain ⟨kk, rr, H1, H2, H3, H4⟩ := reckon hv
  have hp := has_cell' h.blk
  have hlt := h.lt
  have c1 : ∀ w, Pur Try.prog 22 #[.int .i64 0, .agg (gc s.a.g), .int .u32 0, .agg (gc s.b.g), .int .u32 0] w (verV kk rr) := fun w => by
    have := compare_calls 0 0 0 s.a.g s.b.g w; rw [H1] at this; exact this
  have c2 : ∀ w, Pur Try.prog 22 #[.int .i64 1, .agg (gc s.b.g), .int .u32 0, .agg (gc s.a.g), .int .u32 0] w (verV (Spec.mirror kk) rr) := fun w => by
    have := compare_calls 1 0 0 s.b.g s.a.g w; rw [H2] at this; exact this
  have c3 : ∀ w, Pur Try.prog 37 #[verV kk rr, .int .i64 (Truth.disk s.a.whole), .int .i64 (Truth.disk s.b.whole)] w (vr (k, r, 0)) := fun w => by
    have := settle_calls kk rr (Truth.disk s.a.whole) (Truth.disk s.b.whole) w; rw [H3] at this; exact this
  have c4 : ∀ w, Pur Try.prog 37 #[verV (Spec.mirror kk) rr, .int .i64 (Truth.disk s.b.whole), .int .i64 (Truth.disk s.a.whole)] w (vr (Spec.mirror k, r, 0)) := fun w => by
    have := settle_calls (Spec.mirror kk) rr (Truth.disk s.b.whole) (Truth.disk s.a.whole) w; rw [H4] at this; exact this
  clear H1 H2 H3 H4 h hv
  have f0 : Fx w.heap.size w [(w.heap.size, verC 0 0)] (w.alloc (.cells (verC 0 0) 34)) := Fx.new (L := []) ⟨Below.refl _ _, Nat.le_refl _, (fun p hp => by cases hp), List.nodup_nil⟩ _
  go_enter Try.func24, Try.ntmps24
  go_wp2_with fail
  refine Ph.wp_region_P (RV w.heap.size w [(w.heap.size, verC 0 0)] (verC 0 0) (verC kk rr)) (fun i => i == 11) 12 [0, 1, 2, 3, 4, 5, 6, 7, 8, 9, 10, 11] (by kernel_rfl) (by kernel_rfl) (Fx.mono f0 (Below.drew (Below.refl _ _))) ?_
  (repeat (first | (refine Ph.wpP_pass rfl rfl rfl ?_; (try simp only [List.getElem_toArray, List.getElem_cons_succ, List.getElem_cons_zero, Act.put, List.setIfInBounds_toArray, List.set_cons_succ, List.set_cons_zero])) | (apply Ph.wpP_val rfl rfl rfl; (focus (intro t w1 hR; have hc := (fun o => (((bcellB (RV.fx _ _ hR).below).1 bp o hlt).trans (hp o))); (try simp only [List.getElem_toArray, List.getElem_cons_succ, List.getElem_cons_zero]); (try go_simp); (try exact Eq.refl _); done)); (try simp only [List.getElem_toArray, List.getElem_cons_succ, List.getElem_cons_zero, Act.put, List.setIfInBounds_toArray, List.set_cons_succ, List.set_cons_zero])) | (apply Ph.wpP_call RV.mono rfl rfl rfl; (focus (intro t w1 hR; have hc := (fun o => (((bcellB (RV.fx _ _ hR).below).1 bp o hlt).trans (hp o))); (try simp only [List.getElem_toArray, List.getElem_cons_succ, List.getElem_cons_zero]); (try go_simp); (try exact And.intro rfl rfl); done)); (focus (intro t w1 hR; first | exact c1 _)); (try simp only [List.getElem_toArray, List.getElem_cons_succ, List.getElem_cons_zero, Act.put, List.setIfInBounds_toArray, List.set_cons_succ, List.set_cons_zero])) | (apply Ph.wpP_val_want rfl rfl rfl; (focus (intro t w1 hR; have hc := (fun o => (((bcellB (RV.fx _ _ hR).below).1 bp o hlt).trans (hp o))); (try simp only [List.getElem_toArray, List.getElem_cons_succ, List.getElem_cons_zero]); (try go_simp); (try exact Eq.refl _); done)); (try simp only [List.getElem_toArray, List.getElem_cons_succ, List.getElem_cons_zero, Act.put, List.setIfInBounds_toArray, List.set_cons_succ, List.set_cons_zero])) | (apply Ph.wpP_call_want RV.mono rfl rfl rfl; (focus (intro t w1 hR; have hc := (fun o => (((bcellB (RV.fx _ _ hR).below).1 bp o hlt).trans (hp o))); (try simp only [List.getElem_toArray, List.getElem_cons_succ, List.getElem_cons_zero]); (try go_simp); (try exact And.intro rfl rfl); done)); (focus (intro t w1 hR; first | exact c1 _)); (try simp only [List.getElem_toArray, List.getElem_cons_succ, List.getElem_cons_zero, Act.put, List.setIfInBounds_toArray, List.set_cons_succ, List.set_cons_zero]))))
  refine Ph.wpP_write rfl rfl rfl ?_ ?_
  · intro w1 hR; exact ⟨_, _, rfl, _, rfl, Fx.new hR _⟩
  rintro u w1 ⟨b1, rfl, _⟩
  simp only [List.getElem_toArray, List.getElem_cons_succ, List.getElem_cons_zero, Act.put, List.setIfInBounds_toArray, List.set_cons_succ, List.set_cons_zero]
  refine Ph.wpP_nil ?_
  rintro u1 ⟨b, e, F1⟩
  obtain rfl := ptr_inj e
  clear e
  have F1' := F1.put (c' := (verC kk rr))
  have l1 := heap_lt (F1.blk _ List.mem_cons_self).2
  rw [← wb_self (F1.blk _ List.mem_cons_self).2]
  clear F1
  go_wp2_with fail
  refine Ph.wp_region_P (RV w.heap.size w [(b1, verC kk rr), (w.heap.size, verC 0 0)] (verC 0 0) (verC (Spec.mirror kk) rr)) (fun i => i == 11) 12 [0, 1, 2, 3, 4, 5, 6, 7, 8, 9, 10, 11] (by kernel_rfl) (by kernel_rfl) (Fx.mono F1' (Below.drew (Below.refl _ _))) ?_
  (repeat (first | (refine Ph.wpP_pass rfl rfl rfl ?_; (try simp only [List.getElem_toArray, List.getElem_cons_succ, List.getElem_cons_zero, Act.put, List.setIfInBounds_toArray, List.set_cons_succ, List.set_cons_zero])) | (apply Ph.wpP_val rfl rfl rfl; (focus (intro t w1 hR; have hc := (fun o => (((bcellB (RV.fx _ _ hR).below).1 bp o hlt).trans (hp o))); (try simp only [List.getElem_toArray, List.getElem_cons_succ, List.getElem_cons_zero]); (try go_simp); (try exact Eq.refl _); done)); (try simp only [List.getElem_toArray, List.getElem_cons_succ, List.getElem_cons_zero, Act.put, List.setIfInBounds_toArray, List.set_cons_succ, List.set_cons_zero])) | (apply Ph.wpP_call RV.mono rfl rfl rfl; (focus (intro t w1 hR; have hc := (fun o => (((bcellB (RV.fx _ _ hR).below).1 bp o hlt).trans (hp o))); (try simp only [List.getElem_toArray, List.getElem_cons_succ, List.getElem_cons_zero]); (try go_simp); (try exact And.intro rfl rfl); done)); (focus (intro t w1 hR; first | exact c2 _)); (try simp only [List.getElem_toArray, List.getElem_cons_succ, List.getElem_cons_zero, Act.put, List.setIfInBounds_toArray, List.set_cons_succ, List.set_cons_zero])) | (apply Ph.wpP_val_want rfl rfl rfl; (focus (intro t w1 hR; have hc := (fun o => (((bcellB (RV.fx _ _ hR).below).1 bp o hlt).trans (hp o))); (try simp only [List.getElem_toArray, List.getElem_cons_succ, List.getElem_cons_zero]); (try go_simp); (try exact Eq.refl _); done)); (try simp only [List.getElem_toArray, List.getElem_cons_succ, List.getElem_cons_zero, Act.put, List.setIfInBounds_toArray, List.set_cons_succ, List.set_cons_zero])) | (apply Ph.wpP_call_want RV.mono rfl rfl rfl; (focus (intro t w1 hR; have hc := (fun o => (((bcellB (RV.fx _ _ hR).below).1 bp o hlt).trans (hp o))); (try simp only [List.getElem_toArray, List.getElem_cons_succ, List.getElem_cons_zero]); (try go_simp); (try exact And.intro rfl rfl); done)); (focus (intro t w1 hR; first | exact c2 _)); (try simp only [List.getElem_toArray, List.getElem_cons_succ, List.getElem_cons_zero, Act.put, List.setIfInBounds_toArray, List.set_cons_succ, List.set_cons_zero]))))
  refine Ph.wpP_write rfl rfl rfl ?_ ?_
  · intro w1 hR; exact ⟨_, _, rfl, _, rfl, Fx.new hR _⟩
  rintro u w1 ⟨b2, rfl, _⟩
  simp only [List.getElem_toArray, List.getElem_cons_succ, List.getElem_cons_zero, Act.put, List.setIfInBounds_toArray, List.set_cons_succ, List.set_cons_zero]
  refine Ph.wpP_nil ?_
  rintro u2 ⟨b, e, F2⟩
  obtain rfl := ptr_inj e
  clear e
  have F2' := F2.put (c' := (verC (Spec.mirror kk) rr))
  have l2 := heap_lt (F2.blk _ List.mem_cons_self).2
  rw [← wb_self (F2.blk _ List.mem_cons_self).2]
  clear F2
  go_wp2_with fail
  refine Ph.wp_region_P (RV w.heap.size w [(b2, verC (Spec.mirror kk) rr), (b1, verC kk rr), (w.heap.size, verC 0 0)] (verC 0 0) (verC k r)) (fun i => i == 17 || i == 18) 19 [0, 1, 2, 3, 4, 5, 6, 7, 8, 9, 10, 11, 12, 13, 14, 15, 16, 17, 18] (by kernel_rfl) (by kernel_rfl) (Fx.mono F2' (Below.drew (Below.refl _ _))) ?_
  (repeat (first | (refine Ph.wpP_pass rfl rfl rfl ?_; (try simp only [List.getElem_toArray, List.getElem_cons_succ, List.getElem_cons_zero, Act.put, List.setIfInBounds_toArray, List.set_cons_succ, List.set_cons_zero])) | (apply Ph.wpP_val rfl rfl rfl; (focus (intro t w1 hR; have hc := And.intro (fun o => (((bcellB (RV.fx _ _ hR).below).1 bp o hlt).trans (hp o))) (fun o => (RV.fx _ _ hR).cell (p := (b1, verC kk rr)) (by simp) o); (try simp only [List.getElem_toArray, List.getElem_cons_succ, List.getElem_cons_zero]); (try go_simp); (try exact Eq.refl _); done)); (try simp only [List.getElem_toArray, List.getElem_cons_succ, List.getElem_cons_zero, Act.put, List.setIfInBounds_toArray, List.set_cons_succ, List.set_cons_zero])) | (apply Ph.wpP_call RV.mono rfl rfl rfl; (focus (intro t w1 hR; have hc := And.intro (fun o => (((bcellB (RV.fx _ _ hR).below).1 bp o hlt).trans (hp o))) (fun o => (RV.fx _ _ hR).cell (p := (b1, verC kk rr)) (by simp) o); (try simp only [List.getElem_toArray, List.getElem_cons_succ, List.getElem_cons_zero]); (try go_simp); (try exact And.intro rfl rfl); done)); (focus (intro t w1 hR; first | exact disk_calls _ _ | exact c3 _)); (try simp only [List.getElem_toArray, List.getElem_cons_succ, List.getElem_cons_zero, Act.put, List.setIfInBounds_toArray, List.set_cons_succ, List.set_cons_zero])) | (apply Ph.wpP_val_want rfl rfl rfl; (focus (intro t w1 hR; have hc := And.intro (fun o => (((bcellB (RV.fx _ _ hR).below).1 bp o hlt).trans (hp o))) (fun o => (RV.fx _ _ hR).cell (p := (b1, verC kk rr)) (by simp) o); (try simp only [List.getElem_toArray, List.getElem_cons_succ, List.getElem_cons_zero]); (try go_simp); (try exact Eq.refl _); done)); (try simp only [List.getElem_toArray, List.getElem_cons_succ, List.getElem_cons_zero, Act.put, List.setIfInBounds_toArray, List.set_cons_succ, List.set_cons_zero])) | (apply Ph.wpP_call_want RV.mono rfl rfl rfl; (focus (intro t w1 hR; have hc := And.intro (fun o => (((bcellB (RV.fx _ _ hR).below).1 bp o hlt).trans (hp o))) (fun o => (RV.fx _ _ hR).cell (p := (b1, verC kk rr)) (by simp) o); (try simp only [List.getElem_toArray, List.getElem_cons_succ, List.getElem_cons_zero]); (try go_simp); (try exact And.intro rfl rfl); done)); (focus (intro t w1 hR; first | exact disk_calls _ _ | exact c3 _)); (try simp only [List.getElem_toArray, List.getElem_cons_succ, List.getElem_cons_zero, Act.put, List.setIfInBounds_toArray, List.set_cons_succ, List.set_cons_zero]))))
  refine Ph.wpP_write rfl rfl rfl ?_ ?_
  · intro w1 hR; exact ⟨_, _, rfl, _, rfl, Fx.new hR _⟩
  rintro u w1 ⟨b3, rfl, _⟩
  simp only [List.getElem_toArray, List.getElem_cons_succ, List.getElem_cons_zero, Act.put, List.setIfInBounds_toArray, List.set_cons_succ, List.set_cons_zero]
  refine Ph.wpP_store rfl rfl rfl rfl (fun u w hR => hR.1) ?_ ?_
  · rintro w1 ⟨b, e, hF⟩
    obtain rfl := ptr_inj e
    refine ⟨_, ?_, rfl, _, rfl, hF.put⟩
    have l := heap_lt (hF.blk _ List.mem_cons_self).2
    conv => lhs; rw [← wb_self (hF.blk _ List.mem_cons_self).2]
    simp only [List.getElem_toArray, List.getElem_cons_succ, List.getElem_cons_zero]
    go_simp
  refine Ph.wpP_nil ?_
  rintro u3 ⟨_, b, e, F3⟩
  obtain rfl := ptr_inj e
  clear e
  have l3 := heap_lt (F3.blk _ List.mem_cons_self).2
  go_wp2_with fail
  refine Ph.wp_region_P (RV w.heap.size w [(b3, verC k r), (b2, verC (Spec.mirror kk) rr), (b1, verC kk rr), (w.heap.size, verC 0 0)] (verC 0 0) (verC (Spec.mirror k) r)) (fun i => i == 17 || i == 18) 19 [0, 1, 2, 3, 4, 5, 6, 7, 8, 9, 10, 11, 12, 13, 14, 15, 16, 17, 18] (by kernel_rfl) (by kernel_rfl) (Fx.mono F3 (Below.drew (Below.refl _ _))) ?_
  (repeat (first | (refine Ph.wpP_pass rfl rfl rfl ?_; (try simp only [List.getElem_toArray, List.getElem_cons_succ, List.getElem_cons_zero, Act.put, List.setIfInBounds_toArray, List.set_cons_succ, List.set_cons_zero])) | (apply Ph.wpP_val rfl rfl rfl; (focus (intro t w1 hR; have hc := And.intro (fun o => (((bcellB (RV.fx _ _ hR).below).1 bp o hlt).trans (hp o))) (fun o => (RV.fx _ _ hR).cell (p := (b2, verC (Spec.mirror kk) rr)) (by simp) o); (try simp only [List.getElem_toArray, List.getElem_cons_succ, List.getElem_cons_zero]); (try go_simp); (try exact Eq.refl _); done)); (try simp only [List.getElem_toArray, List.getElem_cons_succ, List.getElem_cons_zero, Act.put, List.setIfInBounds_toArray, List.set_cons_succ, List.set_cons_zero])) | (apply Ph.wpP_call RV.mono rfl rfl rfl; (focus (intro t w1 hR; have hc := And.intro (fun o => (((bcellB (RV.fx _ _ hR).below).1 bp o hlt).trans (hp o))) (fun o => (RV.fx _ _ hR).cell (p := (b2, verC (Spec.mirror kk) rr)) (by simp) o); (try simp only [List.getElem_toArray, List.getElem_cons_succ, List.getElem_cons_zero]); (try go_simp); (try exact And.intro rfl rfl); done)); (focus (intro t w1 hR; first | exact disk_calls _ _ | exact c4 _)); (try simp only [List.getElem_toArray, List.getElem_cons_succ, List.getElem_cons_zero, Act.put, List.setIfInBounds_toArray, List.set_cons_succ, List.set_cons_zero])) | (apply Ph.wpP_val_want rfl rfl rfl; (focus (intro t w1 hR; have hc := And.intro (fun o => (((bcellB (RV.fx _ _ hR).below).1 bp o hlt).trans (hp o))) (fun o => (RV.fx _ _ hR).cell (p := (b2, verC (Spec.mirror kk) rr)) (by simp) o); (try simp only [List.getElem_toArray, List.getElem_cons_succ, List.getElem_cons_zero]); (try go_simp); (try exact Eq.refl _); done)); (try simp only [List.getElem_toArray, List.getElem_cons_succ, List.getElem_cons_zero, Act.put, List.setIfInBounds_toArray, List.set_cons_succ, List.set_cons_zero])) | (apply Ph.wpP_call_want RV.mono rfl rfl rfl; (focus (intro t w1 hR; have hc := And.intro (fun o => (((bcellB (RV.fx _ _ hR).below).1 bp o hlt).trans (hp o))) (fun o => (RV.fx _ _ hR).cell (p := (b2, verC (Spec.mirror kk) rr)) (by simp) o); (try simp only [List.getElem_toArray, List.getElem_cons_succ, List.getElem_cons_zero]); (try go_simp); (try exact And.intro rfl rfl); done)); (focus (intro t w1 hR; first | exact disk_calls _ _ | exact c4 _)); (try simp only [List.getElem_toArray, List.getElem_cons_succ, List.getElem_cons_zero, Act.put, List.setIfInBounds_toArray, List.set_cons_succ, List.set_cons_zero]))))
  refine Ph.wpP_write rfl rfl rfl ?_ ?_
  · intro w1 hR; exact ⟨_, _, rfl, _, rfl, Fx.new hR _⟩
  rintro u w1 ⟨b4, rfl, _⟩
  simp only [List.getElem_toArray, List.getElem_cons_succ, List.getElem_cons_zero, Act.put, List.setIfInBounds_toArray, List.set_cons_succ, List.set_cons_zero]
  refine Ph.wpP_store rfl rfl rfl rfl (fun u w hR => hR.1) ?_ ?_
  · rintro w1 ⟨b, e, hF⟩
    obtain rfl := ptr_inj e
    refine ⟨_, ?_, rfl, _, rfl, hF.put⟩
    have l := heap_lt (hF.blk _ List.mem_cons_self).2
    conv => lhs; rw [← wb_self (hF.blk _ List.mem_cons_self).2]
    simp only [List.getElem_toArray, List.getElem_cons_succ, List.getElem_cons_zero]
    go_simp
  refine Ph.wpP_nil ?_
  rintro u4 ⟨_, b, e, F4⟩
  obtain rfl := ptr_inj e
  clear e
  have l4 := heap_lt (F4.blk _ List.mem_cons_self).2
  have d3 := F4.cell (p := (b3, verC k r)) (by simp)
  have d4 := F4.cell (p := (b4, verC (Spec.mirror k) r)) (by simp)
  simp only at d3 d4
  go_wp2_with (first | (go_at_call 39; refine (turned_calls k r _).out.mono ?_; rintro e w1 ⟨rfl, hb1⟩; have F5 := F4.mono hb1) | fail)
  have F6 := F5.perm (List.perm_append_comm (l₁ := [(b4, verC (Spec.mirror k) r), (b3, verC k r), (b2, verC (Spec.mirror kk) rr), (b1, verC kk rr)]) (l₂ := [(w.heap.size, verC 0 0)]))
  clear d3 d4
  have hr0 : 0 < r := by omega
  refine Ph.wp_region_P (RW w.heap.size w w.heap.size [(b4, verC (Spec.mirror k) r), (b3, verC k r), (b2, verC (Spec.mirror kk) rr), (b1, verC kk rr)] (verC 0 0) (verC k r)) (fun i => i == 17) 18 [0, 1, 2, 3, 4, 5, 6, 7, 8, 9, 10, 11, 12, 13, 14, 15, 16, 17] (by kernel_rfl) (by kernel_rfl) (Fx.mono F6 (Below.drew (Below.refl _ _))) ?_
  (repeat (first | (refine Ph.wpP_pass rfl rfl rfl ?_; (try simp only [List.getElem_toArray, List.getElem_cons_succ, List.getElem_cons_zero, Act.put, List.setIfInBounds_toArray, List.set_cons_succ, List.set_cons_zero])) | (apply Ph.wpP_val rfl rfl rfl; (focus (intro t w1 hR; have hc := (fun o => (RW.fx _ _ hR).cell (p := (b3, verC k r)) (by simp) o); (try simp only [List.getElem_toArray, List.getElem_cons_succ, List.getElem_cons_zero]); (try go_simp); (try exact Eq.refl _); done)); (try simp only [List.getElem_toArray, List.getElem_cons_succ, List.getElem_cons_zero, Act.put, List.setIfInBounds_toArray, List.set_cons_succ, List.set_cons_zero])) | (apply Ph.wpP_call RW.mono rfl rfl rfl; (focus (intro t w1 hR; have hc := (fun o => (RW.fx _ _ hR).cell (p := (b3, verC k r)) (by simp) o); (try simp only [List.getElem_toArray, List.getElem_cons_succ, List.getElem_cons_zero]); (try go_simp); (try exact And.intro rfl rfl); done)); (focus (intro t w1 hR; first | exact num_calls 0 _)); (try simp only [List.getElem_toArray, List.getElem_cons_succ, List.getElem_cons_zero, Act.put, List.setIfInBounds_toArray, List.set_cons_succ, List.set_cons_zero])) | (apply Ph.wpP_val_want rfl rfl rfl; (focus (intro t w1 hR; have hc := (fun o => (RW.fx _ _ hR).cell (p := (b3, verC k r)) (by simp) o); (try simp only [List.getElem_toArray, List.getElem_cons_succ, List.getElem_cons_zero]); (try go_simp); (try exact Eq.refl _); done)); (try simp only [List.getElem_toArray, List.getElem_cons_succ, List.getElem_cons_zero, Act.put, List.setIfInBounds_toArray, List.set_cons_succ, List.set_cons_zero])) | (apply Ph.wpP_call_want RW.mono rfl rfl rfl; (focus (intro t w1 hR; have hc := (fun o => (RW.fx _ _ hR).cell (p := (b3, verC k r)) (by simp) o); (try simp only [List.getElem_toArray, List.getElem_cons_succ, List.getElem_cons_zero]); (try go_simp); (try exact And.intro rfl rfl); done)); (focus (intro t w1 hR; first | exact num_calls 0 _)); (try simp only [List.getElem_toArray, List.getElem_cons_succ, List.getElem_cons_zero, Act.put, List.setIfInBounds_toArray, List.set_cons_succ, List.set_cons_zero]))))
  refine Ph.wpP_store rfl rfl rfl rfl (fun u w hR => hR.1) ?_ ?_
  · intro w1 hF
    have hF : Fx w.heap.size w ((w.heap.size, verC 0 0) :: [(b4, verC (Spec.mirror k) r), (b3, verC k r), (b2, verC (Spec.mirror kk) rr), (b1, verC kk rr)]) w1 := hF
    refine ⟨_, ?_, rfl, hF.put⟩
    have l := heap_lt (hF.blk _ List.mem_cons_self).2
    conv => lhs; rw [← wb_self (hF.blk _ List.mem_cons_self).2]
    simp only [List.getElem_toArray, List.getElem_cons_succ, List.getElem_cons_zero]
    go_simp
  refine Ph.wpP_nil ?_
  rintro u6 ⟨_, F7⟩
  have d0 := F7.cell (p := (w.heap.size, verC k r)) (by simp)
  simp only at d0
  go_wp2_with fail
  exact bodyPost_ret (v := .tuple #[verV k r, .bool true]) (by simp [results, Try.results24, go_sem, d0]) rfl ⟨rfl, F7.below⟩
end Go.Proofs.Ytboanmhibbhceaa
