/- IdentTruth: the deeds that begin a new generation and append. (Printed by wip/mktake.py.) -/
import Derived.Test.YtboanmhibbhceaaTruthWalk12
namespace Go.Proofs.Ytboanmhibbhceaa
open Go.RowKit
set_option linter.unusedVariables false
set_option linter.unusedSimpArgs false

variable {B bp : Nat} {w0 w w' : World} {c c' : Array Value} {xs ys : List Int} {v0 v1 : Value} {s : Truth.St}

set_option maxRecDepth 100000 in
set_option maxHeartbeats 40000000 in
theorem take_alone_new0 {node : Int} (h : PS B bp w0 s w v0 v1) (ht : node.tmod 2 = 0) (hs : ¬ 0 ≤ s.source) (hw : s.a.whole = true) (hb : s.a.g.b = 0) (h0 : 0 ≤ s.number) (hx : s.number < 144115188075855872) (hx0 : 0 ≤ s.next) (hx1 : s.next < 144115188075855872) (hl : s.a.has.length + 1 ≤ 17592186044416) :
    Calls Try.prog 25 #[.pointer (some ⟨bp, 0, none⟩), deedV 1 node] w fun e w' => e = .returned (.bool true) ∧ ∃ v0' v1', PS B bp w0 (s.write 0 (Spec.rotate s.a.g (Truth.fresh 0 (s.number + 1))) s.a.whole (s.number + 1)) w' v0' v1' := by
  obtain ⟨⟨ga, wa, xs⟩, ⟨gb, wb, ys⟩, nx, nu, so, tk, hf⟩ := s
  simp only at hs hw hb hx0 hx1 hl h0 hx
  subst hw
  have hb' : (ga.b == 0) = true := by rw [hb]; rfl
  clear hb
  have hp := has_cell' h.blk
  have hlt := h.lt
  have hwr : IntKind.i64.wrap (nx + 1) = nx + 1 := IntWalk.i64_in _ ⟨by omega, by omega⟩
  have h2 := h.grow (below_alloc1 w (.cells #[.int .i64 1, .int .i64 node] 57))
  have hfr := fun w1 (hR : PS B bp w0 (⟨⟨ga, true, xs⟩, ⟨gb, wb, ys⟩, nx, nu, so, tk, hf⟩ : Truth.St) w1 v0 v1) => fresh_calls_p (n := 0) hR (by omega) h0 hx
  clear h hx0 hx1 h0 hx
  skip
  all_goals
    go_enter Try.func25, Try.ntmps25
    go_wp2_with fail
    refine Ph.wp_region_P (RFresh B bp w0 (⟨⟨ga, true, xs⟩, ⟨gb, wb, ys⟩, nx, nu, so, tk, hf⟩ : Truth.St) v0 v1 (Truth.fresh 0 (nu + 1))) (fun i => i == 10) 14 [0, 1, 2, 3, 4, 5, 6, 7, 8, 9, 12, 13, 10, 11] (by kernel_rfl) (by kernel_rfl) (PS.grow h2 (Below.drew (Below.refl _ _))) ?_
    (repeat (first | (refine Ph.wpP_pass rfl rfl rfl ?_; (try simp only [List.getElem_toArray, List.getElem_cons_succ, List.getElem_cons_zero, Act.put, List.setIfInBounds_toArray, List.set_cons_succ, List.set_cons_zero])) | (apply Ph.wpP_val rfl rfl rfl; (focus (intro t w1 hR; have hc := RFresh.cell _ _ hR; (try simp only [List.getElem_toArray, List.getElem_cons_succ, List.getElem_cons_zero]); (try go_simp); (try exact Eq.refl _); done)); (try simp only [List.getElem_toArray, List.getElem_cons_succ, List.getElem_cons_zero, Act.put, List.setIfInBounds_toArray, List.set_cons_succ, List.set_cons_zero])) | (apply Ph.wpP_call RFresh.mono rfl rfl rfl; (focus (intro t w1 hR; have hc := RFresh.cell _ _ hR; (try simp only [List.getElem_toArray, List.getElem_cons_succ, List.getElem_cons_zero]); (try go_simp); (try exact And.intro rfl rfl); done)); (focus (intro t w1 hR; first | exact rotate_calls _ _ _)); (try simp only [List.getElem_toArray, List.getElem_cons_succ, List.getElem_cons_zero, Act.put, List.setIfInBounds_toArray, List.set_cons_succ, List.set_cons_zero])) | (apply Ph.wpP_val_want rfl rfl rfl; (focus (intro t w1 hR; have hc := RFresh.cell _ _ hR; (try simp only [List.getElem_toArray, List.getElem_cons_succ, List.getElem_cons_zero]); (try go_simp); (try exact Eq.refl _); done)); (try simp only [List.getElem_toArray, List.getElem_cons_succ, List.getElem_cons_zero, Act.put, List.setIfInBounds_toArray, List.set_cons_succ, List.set_cons_zero])) | (apply Ph.wpP_call_want RFresh.mono rfl rfl rfl; (focus (intro t w1 hR; have hc := RFresh.cell _ _ hR; (try simp only [List.getElem_toArray, List.getElem_cons_succ, List.getElem_cons_zero]); (try go_simp); (try exact And.intro rfl rfl); done)); (focus (intro t w1 hR; first | exact rotate_calls _ _ _)); (try simp only [List.getElem_toArray, List.getElem_cons_succ, List.getElem_cons_zero, Act.put, List.setIfInBounds_toArray, List.set_cons_succ, List.set_cons_zero]))))
    refine Ph.wpP_write_call rfl rfl rfl (f := 41) (args := #[.pointer (some ⟨bp, 0, none⟩), .int .i64 0]) ?_ ?_ ?_
    · intro w1 hR; simp only [List.getElem_toArray, List.getElem_cons_succ, List.getElem_cons_zero]; go_simp
    · intro w1 hR; exact (hfr w1 hR).mono fun e w' ⟨he, hp⟩ => ⟨_, he, rfl, hp⟩
    rintro u w1 ⟨rfl, hR1⟩
    clear hR1
    simp only [List.getElem_toArray, List.getElem_cons_succ, List.getElem_cons_zero, Act.put, List.setIfInBounds_toArray, List.set_cons_succ, List.set_cons_zero]
    (repeat (first | (refine Ph.wpP_pass rfl rfl rfl ?_; (try simp only [List.getElem_toArray, List.getElem_cons_succ, List.getElem_cons_zero, Act.put, List.setIfInBounds_toArray, List.set_cons_succ, List.set_cons_zero])) | (apply Ph.wpP_val rfl rfl rfl; (focus (intro t w1 hR; have hc := RFresh.cell _ _ hR; (try simp only [List.getElem_toArray, List.getElem_cons_succ, List.getElem_cons_zero]); (try go_simp); (try exact Eq.refl _); done)); (try simp only [List.getElem_toArray, List.getElem_cons_succ, List.getElem_cons_zero, Act.put, List.setIfInBounds_toArray, List.set_cons_succ, List.set_cons_zero])) | (apply Ph.wpP_call RFresh.mono rfl rfl rfl; (focus (intro t w1 hR; have hc := RFresh.cell _ _ hR; (try simp only [List.getElem_toArray, List.getElem_cons_succ, List.getElem_cons_zero]); (try go_simp); (try exact And.intro rfl rfl); done)); (focus (intro t w1 hR; first | exact rotate_calls _ _ _)); (try simp only [List.getElem_toArray, List.getElem_cons_succ, List.getElem_cons_zero, Act.put, List.setIfInBounds_toArray, List.set_cons_succ, List.set_cons_zero])) | (apply Ph.wpP_val_want rfl rfl rfl; (focus (intro t w1 hR; have hc := RFresh.cell _ _ hR; (try simp only [List.getElem_toArray, List.getElem_cons_succ, List.getElem_cons_zero]); (try go_simp); (try exact Eq.refl _); done)); (try simp only [List.getElem_toArray, List.getElem_cons_succ, List.getElem_cons_zero, Act.put, List.setIfInBounds_toArray, List.set_cons_succ, List.set_cons_zero])) | (apply Ph.wpP_call_want RFresh.mono rfl rfl rfl; (focus (intro t w1 hR; have hc := RFresh.cell _ _ hR; (try simp only [List.getElem_toArray, List.getElem_cons_succ, List.getElem_cons_zero]); (try go_simp); (try exact And.intro rfl rfl); done)); (focus (intro t w1 hR; first | exact rotate_calls _ _ _)); (try simp only [List.getElem_toArray, List.getElem_cons_succ, List.getElem_cons_zero, Act.put, List.setIfInBounds_toArray, List.set_cons_succ, List.set_cons_zero]))))
    refine Ph.wpP_nil ?_
    rintro w2 ⟨_, hR2⟩
    have hC := hR2.toC.put (pcells (⟨⟨Spec.rotate ga (Truth.fresh 0 (nu + 1)), true, xs⟩, ⟨gb, wb, ys⟩, nx + 1, nu + 1, so, tk, hf⟩ : Truth.St) v0 v1)
    have hlt2 := hR2.lt
    rw [← wb_self hR2.blk]
    clear hR2
    go_wp2_with fail
    clear hfr h2 hp
    refine Ph.wp_region_P (RA0 B bp w0 (pcells (⟨⟨Spec.rotate ga (Truth.fresh 0 (nu + 1)), true, xs⟩, ⟨gb, wb, ys⟩, nx + 1, nu + 1, so, tk, hf⟩ : Truth.St) v0 v1) xs ys v0 v1 (nx + 1)) (fun i => i == 12 || i == 13) 16 [0, 1, 2, 3, 4, 5, 6, 7, 8, 9, 10, 11, 14, 15, 12, 13] (by kernel_rfl) (by kernel_rfl) (PSc.grow hC (Below.drew (Below.refl _ _))) ?_
    (repeat (first | (refine Ph.wpP_pass rfl rfl rfl ?_; (try simp only [List.getElem_toArray, List.getElem_cons_succ, List.getElem_cons_zero, Act.put, List.setIfInBounds_toArray, List.set_cons_succ, List.set_cons_zero])) | (apply Ph.wpP_val rfl rfl rfl; (focus (intro t w1 hR; have hc := RA0.cell _ _ hR; (try simp only [List.getElem_toArray, List.getElem_cons_succ, List.getElem_cons_zero]); (try go_simp); (try exact Eq.refl _); done)); (try simp only [List.getElem_toArray, List.getElem_cons_succ, List.getElem_cons_zero, Act.put, List.setIfInBounds_toArray, List.set_cons_succ, List.set_cons_zero])) | (apply Ph.wpP_call RA0.mono rfl rfl rfl; (focus (intro t w1 hR; have hc := RA0.cell _ _ hR; (try simp only [List.getElem_toArray, List.getElem_cons_succ, List.getElem_cons_zero]); (try go_simp); (try exact And.intro rfl rfl); done)); (focus (intro t w1 hR; first | fail)); (try simp only [List.getElem_toArray, List.getElem_cons_succ, List.getElem_cons_zero, Act.put, List.setIfInBounds_toArray, List.set_cons_succ, List.set_cons_zero])) | (apply Ph.wpP_val_want rfl rfl rfl; (focus (intro t w1 hR; have hc := RA0.cell _ _ hR; (try simp only [List.getElem_toArray, List.getElem_cons_succ, List.getElem_cons_zero]); (try go_simp); (try exact Eq.refl _); done)); (try simp only [List.getElem_toArray, List.getElem_cons_succ, List.getElem_cons_zero, Act.put, List.setIfInBounds_toArray, List.set_cons_succ, List.set_cons_zero])) | (apply Ph.wpP_call_want RA0.mono rfl rfl rfl; (focus (intro t w1 hR; have hc := RA0.cell _ _ hR; (try simp only [List.getElem_toArray, List.getElem_cons_succ, List.getElem_cons_zero]); (try go_simp); (try exact And.intro rfl rfl); done)); (focus (intro t w1 hR; first | fail)); (try simp only [List.getElem_toArray, List.getElem_cons_succ, List.getElem_cons_zero, Act.put, List.setIfInBounds_toArray, List.set_cons_succ, List.set_cons_zero]))))
    refine Ph.wpP_write rfl rfl rfl ?_ ?_
    · intro w1 hR
      refine ⟨.slice (some ⟨w1.heap.size, 0, none⟩) 1 1, w1.alloc (.cells #[.int .i64 (nx + 1)] 3), ?_, _, rfl, PSc.grow hR (below_alloc1 _ _), by simp, has_cell' (heap_new _ _ _ rfl) 0⟩
      simp only [List.getElem_toArray, List.getElem_cons_succ, List.getElem_cons_zero]
      go_simp
    rintro u w1 ⟨b, rfl, _⟩
    simp only [List.getElem_toArray, List.getElem_cons_succ, List.getElem_cons_zero, Act.put, List.setIfInBounds_toArray, List.set_cons_succ, List.set_cons_zero]
    refine Ph.wpP_write rfl rfl rfl ?_ ?_
    · rintro w1 ⟨b', e, hE, hl', hc⟩
      obtain rfl : b' = b := by injection e with e; injection e with e; injection e with e; exact e.symm
      obtain ⟨v', w', hrun, hE'⟩ := append_own hE hc hl
      exact ⟨v', w', run_append2 rfl rfl rfl rfl hrun, hE'⟩
    intro v w1 hE
    clear hE
    simp only [List.getElem_toArray, List.getElem_cons_succ, List.getElem_cons_zero, Act.put, List.setIfInBounds_toArray, List.set_cons_succ, List.set_cons_zero]
    refine Ph.wpP_nil ?_
    intro w2 hD
    have hD : PSc B bp w0 (pcells (⟨⟨Spec.rotate ga (Truth.fresh 0 (nu + 1)), true, xs⟩, ⟨gb, wb, ys⟩, nx + 1, nu + 1, so, tk, hf⟩ : Truth.St) v0 v1) (xs ++ [nx + 1]) ys w2 v v1 := hD
    obtain ⟨pv, nv, cv, rfl⟩ : ∃ p n c, v = .slice p n c := by obtain ⟨p, c, e, _⟩ := hD.o0.form; exact ⟨p, _, c, e⟩
    have hP := hD.put (pcells (⟨⟨Spec.rotate ga (Truth.fresh 0 (nu + 1)), true, xs ++ [nx + 1]⟩, ⟨gb, wb, ys⟩, nx + 1, nu + 1, so, tk, hf⟩ : Truth.St) (.slice pv nv cv) v1)
    have hlt3 := heap_lt hD.blk
    rw [← wb_self hD.blk]
    clear hD
    go_wp2_with fail
    go_ret
    exact ⟨rfl, _, _, PSc.toPS (s := (⟨⟨Spec.rotate ga (Truth.fresh 0 (nu + 1)), true, xs ++ [nx + 1]⟩, ⟨gb, wb, ys⟩, nx + 1, nu + 1, so, tk, hf⟩ : Truth.St)) hP⟩

set_option maxRecDepth 100000 in
set_option maxHeartbeats 40000000 in
theorem take_force0 {node : Int} (h : PS B bp w0 s w v0 v1) (ht : node.tmod 2 = 0) (hs : s.source < 0) (hwa : s.a.whole = false) (hwb : s.b.whole = false) (h0 : 0 ≤ s.number) (hx : s.number < 144115188075855872) (hx0 : 0 ≤ s.next) (hx1 : s.next < 144115188075855872) (hl : s.a.has.length + 1 ≤ 17592186044416) :
    Calls Try.prog 25 #[.pointer (some ⟨bp, 0, none⟩), deedV 7 node] w fun e w' => e = .returned (.bool true) ∧ ∃ v0' v1', PS B bp w0 (s.force 0) w' v0' v1' := by
  obtain ⟨⟨ga, wa, xs⟩, ⟨gb, wb, ys⟩, nx, nu, so, tk, hf⟩ := s
  simp only at hs hwa hwb hx0 hx1 hl h0 hx
  subst hwa hwb
  have hlt := h.lt
  have hwr : IntKind.i64.wrap (nx + 1) = nx + 1 := IntWalk.i64_in _ ⟨by omega, by omega⟩
  have h2 := (h.set (s' := (⟨⟨ga, true, xs⟩, ⟨gb, false, ys⟩, nx, nu, so, tk, hf⟩ : Truth.St)) rfl rfl).grow (below_alloc1 _ (.cells #[.int .i64 7, .int .i64 node] 57))
  rw [alloc_wb h.lt] at h2
  have hne := Nat.ne_of_lt hlt
  have hne' := Ne.symm hne
  have hfr := fun w1 (hR : PS B bp w0 (⟨⟨ga, true, xs⟩, ⟨gb, false, ys⟩, nx, nu, so, tk, hf⟩ : Truth.St) w1 v0 v1) => fresh_calls_p (n := 0) hR (by omega) h0 hx
  rw [← wb_self h.blk]
  clear h hx0 hx1 h0 hx
  skip
  all_goals
    go_enter Try.func25, Try.ntmps25
    go_wp2_with fail
    refine Ph.wp_region_P (RFresh B bp w0 (⟨⟨ga, true, xs⟩, ⟨gb, false, ys⟩, nx, nu, so, tk, hf⟩ : Truth.St) v0 v1 (Truth.fresh 0 (nu + 1))) (fun i => i == 10) 14 [0, 1, 2, 3, 4, 5, 6, 7, 8, 9, 12, 13, 10, 11] (by kernel_rfl) (by kernel_rfl) (PS.grow h2 (Below.drew (Below.refl _ _))) ?_
    (repeat (first | (refine Ph.wpP_pass rfl rfl rfl ?_; (try simp only [List.getElem_toArray, List.getElem_cons_succ, List.getElem_cons_zero, Act.put, List.setIfInBounds_toArray, List.set_cons_succ, List.set_cons_zero])) | (apply Ph.wpP_val rfl rfl rfl; (focus (intro t w1 hR; have hc := RFresh.cell _ _ hR; (try simp only [List.getElem_toArray, List.getElem_cons_succ, List.getElem_cons_zero]); (try go_simp); (try exact Eq.refl _); done)); (try simp only [List.getElem_toArray, List.getElem_cons_succ, List.getElem_cons_zero, Act.put, List.setIfInBounds_toArray, List.set_cons_succ, List.set_cons_zero])) | (apply Ph.wpP_call RFresh.mono rfl rfl rfl; (focus (intro t w1 hR; have hc := RFresh.cell _ _ hR; (try simp only [List.getElem_toArray, List.getElem_cons_succ, List.getElem_cons_zero]); (try go_simp); (try exact And.intro rfl rfl); done)); (focus (intro t w1 hR; first | exact rotate_calls _ _ _)); (try simp only [List.getElem_toArray, List.getElem_cons_succ, List.getElem_cons_zero, Act.put, List.setIfInBounds_toArray, List.set_cons_succ, List.set_cons_zero])) | (apply Ph.wpP_val_want rfl rfl rfl; (focus (intro t w1 hR; have hc := RFresh.cell _ _ hR; (try simp only [List.getElem_toArray, List.getElem_cons_succ, List.getElem_cons_zero]); (try go_simp); (try exact Eq.refl _); done)); (try simp only [List.getElem_toArray, List.getElem_cons_succ, List.getElem_cons_zero, Act.put, List.setIfInBounds_toArray, List.set_cons_succ, List.set_cons_zero])) | (apply Ph.wpP_call_want RFresh.mono rfl rfl rfl; (focus (intro t w1 hR; have hc := RFresh.cell _ _ hR; (try simp only [List.getElem_toArray, List.getElem_cons_succ, List.getElem_cons_zero]); (try go_simp); (try exact And.intro rfl rfl); done)); (focus (intro t w1 hR; first | exact rotate_calls _ _ _)); (try simp only [List.getElem_toArray, List.getElem_cons_succ, List.getElem_cons_zero, Act.put, List.setIfInBounds_toArray, List.set_cons_succ, List.set_cons_zero]))))
    refine Ph.wpP_write_call rfl rfl rfl (f := 41) (args := #[.pointer (some ⟨bp, 0, none⟩), .int .i64 0]) ?_ ?_ ?_
    · intro w1 hR; simp only [List.getElem_toArray, List.getElem_cons_succ, List.getElem_cons_zero]; go_simp
    · intro w1 hR; exact (hfr w1 hR).mono fun e w' ⟨he, hp⟩ => ⟨_, he, rfl, hp⟩
    rintro u w1 ⟨rfl, hR1⟩
    clear hR1
    simp only [List.getElem_toArray, List.getElem_cons_succ, List.getElem_cons_zero, Act.put, List.setIfInBounds_toArray, List.set_cons_succ, List.set_cons_zero]
    (repeat (first | (refine Ph.wpP_pass rfl rfl rfl ?_; (try simp only [List.getElem_toArray, List.getElem_cons_succ, List.getElem_cons_zero, Act.put, List.setIfInBounds_toArray, List.set_cons_succ, List.set_cons_zero])) | (apply Ph.wpP_val rfl rfl rfl; (focus (intro t w1 hR; have hc := RFresh.cell _ _ hR; (try simp only [List.getElem_toArray, List.getElem_cons_succ, List.getElem_cons_zero]); (try go_simp); (try exact Eq.refl _); done)); (try simp only [List.getElem_toArray, List.getElem_cons_succ, List.getElem_cons_zero, Act.put, List.setIfInBounds_toArray, List.set_cons_succ, List.set_cons_zero])) | (apply Ph.wpP_call RFresh.mono rfl rfl rfl; (focus (intro t w1 hR; have hc := RFresh.cell _ _ hR; (try simp only [List.getElem_toArray, List.getElem_cons_succ, List.getElem_cons_zero]); (try go_simp); (try exact And.intro rfl rfl); done)); (focus (intro t w1 hR; first | exact rotate_calls _ _ _)); (try simp only [List.getElem_toArray, List.getElem_cons_succ, List.getElem_cons_zero, Act.put, List.setIfInBounds_toArray, List.set_cons_succ, List.set_cons_zero])) | (apply Ph.wpP_val_want rfl rfl rfl; (focus (intro t w1 hR; have hc := RFresh.cell _ _ hR; (try simp only [List.getElem_toArray, List.getElem_cons_succ, List.getElem_cons_zero]); (try go_simp); (try exact Eq.refl _); done)); (try simp only [List.getElem_toArray, List.getElem_cons_succ, List.getElem_cons_zero, Act.put, List.setIfInBounds_toArray, List.set_cons_succ, List.set_cons_zero])) | (apply Ph.wpP_call_want RFresh.mono rfl rfl rfl; (focus (intro t w1 hR; have hc := RFresh.cell _ _ hR; (try simp only [List.getElem_toArray, List.getElem_cons_succ, List.getElem_cons_zero]); (try go_simp); (try exact And.intro rfl rfl); done)); (focus (intro t w1 hR; first | exact rotate_calls _ _ _)); (try simp only [List.getElem_toArray, List.getElem_cons_succ, List.getElem_cons_zero, Act.put, List.setIfInBounds_toArray, List.set_cons_succ, List.set_cons_zero]))))
    refine Ph.wpP_nil ?_
    rintro w2 ⟨_, hR2⟩
    have hC := hR2.toC.put (pcells (⟨⟨Spec.rotate ga (Truth.fresh 0 (nu + 1)), true, xs⟩, ⟨gb, false, ys⟩, nx + 1, nu + 1, so, tk, hf⟩ : Truth.St) v0 v1)
    have hlt2 := hR2.lt
    rw [← wb_self hR2.blk]
    clear hR2
    go_wp2_with fail
    clear hfr h2
    refine Ph.wp_region_P (RA0 B bp w0 (pcells (⟨⟨Spec.rotate ga (Truth.fresh 0 (nu + 1)), true, xs⟩, ⟨gb, false, ys⟩, nx + 1, nu + 1, so, tk, hf⟩ : Truth.St) v0 v1) xs ys v0 v1 (nx + 1)) (fun i => i == 12 || i == 13) 16 [0, 1, 2, 3, 4, 5, 6, 7, 8, 9, 10, 11, 14, 15, 12, 13] (by kernel_rfl) (by kernel_rfl) (PSc.grow hC (Below.drew (Below.refl _ _))) ?_
    (repeat (first | (refine Ph.wpP_pass rfl rfl rfl ?_; (try simp only [List.getElem_toArray, List.getElem_cons_succ, List.getElem_cons_zero, Act.put, List.setIfInBounds_toArray, List.set_cons_succ, List.set_cons_zero])) | (apply Ph.wpP_val rfl rfl rfl; (focus (intro t w1 hR; have hc := RA0.cell _ _ hR; (try simp only [List.getElem_toArray, List.getElem_cons_succ, List.getElem_cons_zero]); (try go_simp); (try exact Eq.refl _); done)); (try simp only [List.getElem_toArray, List.getElem_cons_succ, List.getElem_cons_zero, Act.put, List.setIfInBounds_toArray, List.set_cons_succ, List.set_cons_zero])) | (apply Ph.wpP_call RA0.mono rfl rfl rfl; (focus (intro t w1 hR; have hc := RA0.cell _ _ hR; (try simp only [List.getElem_toArray, List.getElem_cons_succ, List.getElem_cons_zero]); (try go_simp); (try exact And.intro rfl rfl); done)); (focus (intro t w1 hR; first | fail)); (try simp only [List.getElem_toArray, List.getElem_cons_succ, List.getElem_cons_zero, Act.put, List.setIfInBounds_toArray, List.set_cons_succ, List.set_cons_zero])) | (apply Ph.wpP_val_want rfl rfl rfl; (focus (intro t w1 hR; have hc := RA0.cell _ _ hR; (try simp only [List.getElem_toArray, List.getElem_cons_succ, List.getElem_cons_zero]); (try go_simp); (try exact Eq.refl _); done)); (try simp only [List.getElem_toArray, List.getElem_cons_succ, List.getElem_cons_zero, Act.put, List.setIfInBounds_toArray, List.set_cons_succ, List.set_cons_zero])) | (apply Ph.wpP_call_want RA0.mono rfl rfl rfl; (focus (intro t w1 hR; have hc := RA0.cell _ _ hR; (try simp only [List.getElem_toArray, List.getElem_cons_succ, List.getElem_cons_zero]); (try go_simp); (try exact And.intro rfl rfl); done)); (focus (intro t w1 hR; first | fail)); (try simp only [List.getElem_toArray, List.getElem_cons_succ, List.getElem_cons_zero, Act.put, List.setIfInBounds_toArray, List.set_cons_succ, List.set_cons_zero]))))
    refine Ph.wpP_write rfl rfl rfl ?_ ?_
    · intro w1 hR
      refine ⟨.slice (some ⟨w1.heap.size, 0, none⟩) 1 1, w1.alloc (.cells #[.int .i64 (nx + 1)] 3), ?_, _, rfl, PSc.grow hR (below_alloc1 _ _), by simp, has_cell' (heap_new _ _ _ rfl) 0⟩
      simp only [List.getElem_toArray, List.getElem_cons_succ, List.getElem_cons_zero]
      go_simp
    rintro u w1 ⟨b, rfl, _⟩
    simp only [List.getElem_toArray, List.getElem_cons_succ, List.getElem_cons_zero, Act.put, List.setIfInBounds_toArray, List.set_cons_succ, List.set_cons_zero]
    refine Ph.wpP_write rfl rfl rfl ?_ ?_
    · rintro w1 ⟨b', e, hE, hl', hc⟩
      obtain rfl : b' = b := by injection e with e; injection e with e; injection e with e; exact e.symm
      obtain ⟨v', w', hrun, hE'⟩ := append_own hE hc hl
      exact ⟨v', w', run_append2 rfl rfl rfl rfl hrun, hE'⟩
    intro v w1 hE
    clear hE
    simp only [List.getElem_toArray, List.getElem_cons_succ, List.getElem_cons_zero, Act.put, List.setIfInBounds_toArray, List.set_cons_succ, List.set_cons_zero]
    refine Ph.wpP_nil ?_
    intro w2 hD
    have hD : PSc B bp w0 (pcells (⟨⟨Spec.rotate ga (Truth.fresh 0 (nu + 1)), true, xs⟩, ⟨gb, false, ys⟩, nx + 1, nu + 1, so, tk, hf⟩ : Truth.St) v0 v1) (xs ++ [nx + 1]) ys w2 v v1 := hD
    obtain ⟨pv, nv, cv, rfl⟩ : ∃ p n c, v = .slice p n c := by obtain ⟨p, c, e, _⟩ := hD.o0.form; exact ⟨p, _, c, e⟩
    have hP := hD.put (pcells (⟨⟨Spec.rotate ga (Truth.fresh 0 (nu + 1)), true, xs ++ [nx + 1]⟩, ⟨gb, false, ys⟩, nx + 1, nu + 1, so, tk, hf⟩ : Truth.St) (.slice pv nv cv) v1)
    have hlt3 := heap_lt hD.blk
    rw [← wb_self hD.blk]
    clear hD
    go_wp2_with fail
    go_ret
    exact ⟨rfl, _, _, PSc.toPS (s := (⟨⟨Spec.rotate ga (Truth.fresh 0 (nu + 1)), true, xs ++ [nx + 1]⟩, ⟨gb, false, ys⟩, nx + 1, nu + 1, so, tk, hf⟩ : Truth.St)) hP⟩

set_option maxRecDepth 100000 in
set_option maxHeartbeats 40000000 in
theorem take_alone_new1 {node : Int} (h : PS B bp w0 s w v0 v1) (ht : node.tmod 2 = 1 ∨ node.tmod 2 = -1) (hs : ¬ 0 ≤ s.source) (hw : s.b.whole = true) (hb : s.b.g.b = 0) (h0 : 0 ≤ s.number) (hx : s.number < 144115188075855872) (hx0 : 0 ≤ s.next) (hx1 : s.next < 144115188075855872) (hl : s.b.has.length + 1 ≤ 17592186044416) :
    Calls Try.prog 25 #[.pointer (some ⟨bp, 0, none⟩), deedV 1 node] w fun e w' => e = .returned (.bool true) ∧ ∃ v0' v1', PS B bp w0 (s.write 1 (Spec.rotate s.b.g (Truth.fresh 1 (s.number + 1))) s.b.whole (s.number + 1)) w' v0' v1' := by
  obtain ⟨⟨ga, wa, xs⟩, ⟨gb, wb, ys⟩, nx, nu, so, tk, hf⟩ := s
  simp only at hs hw hb hx0 hx1 hl h0 hx
  subst hw
  have hb' : (gb.b == 0) = true := by rw [hb]; rfl
  clear hb
  have hp := has_cell' h.blk
  have hlt := h.lt
  have hwr : IntKind.i64.wrap (nx + 1) = nx + 1 := IntWalk.i64_in _ ⟨by omega, by omega⟩
  have h2 := h.grow (below_alloc1 w (.cells #[.int .i64 1, .int .i64 node] 57))
  have hfr := fun w1 (hR : PS B bp w0 (⟨⟨ga, wa, xs⟩, ⟨gb, true, ys⟩, nx, nu, so, tk, hf⟩ : Truth.St) w1 v0 v1) => fresh_calls_p (n := 1) hR (by omega) h0 hx
  clear h hx0 hx1 h0 hx
  rcases ht with ht | ht
  all_goals
    go_enter Try.func25, Try.ntmps25
    go_wp2_with fail
    refine Ph.wp_region_P (RFresh B bp w0 (⟨⟨ga, wa, xs⟩, ⟨gb, true, ys⟩, nx, nu, so, tk, hf⟩ : Truth.St) v0 v1 (Truth.fresh 1 (nu + 1))) (fun i => i == 10) 14 [0, 1, 2, 3, 4, 5, 6, 7, 8, 9, 12, 13, 10, 11] (by kernel_rfl) (by kernel_rfl) (PS.grow h2 (Below.drew (Below.refl _ _))) ?_
    (repeat (first | (refine Ph.wpP_pass rfl rfl rfl ?_; (try simp only [List.getElem_toArray, List.getElem_cons_succ, List.getElem_cons_zero, Act.put, List.setIfInBounds_toArray, List.set_cons_succ, List.set_cons_zero])) | (apply Ph.wpP_val rfl rfl rfl; (focus (intro t w1 hR; have hc := RFresh.cell _ _ hR; (try simp only [List.getElem_toArray, List.getElem_cons_succ, List.getElem_cons_zero]); (try go_simp); (try exact Eq.refl _); done)); (try simp only [List.getElem_toArray, List.getElem_cons_succ, List.getElem_cons_zero, Act.put, List.setIfInBounds_toArray, List.set_cons_succ, List.set_cons_zero])) | (apply Ph.wpP_call RFresh.mono rfl rfl rfl; (focus (intro t w1 hR; have hc := RFresh.cell _ _ hR; (try simp only [List.getElem_toArray, List.getElem_cons_succ, List.getElem_cons_zero]); (try go_simp); (try exact And.intro rfl rfl); done)); (focus (intro t w1 hR; first | exact rotate_calls _ _ _)); (try simp only [List.getElem_toArray, List.getElem_cons_succ, List.getElem_cons_zero, Act.put, List.setIfInBounds_toArray, List.set_cons_succ, List.set_cons_zero])) | (apply Ph.wpP_val_want rfl rfl rfl; (focus (intro t w1 hR; have hc := RFresh.cell _ _ hR; (try simp only [List.getElem_toArray, List.getElem_cons_succ, List.getElem_cons_zero]); (try go_simp); (try exact Eq.refl _); done)); (try simp only [List.getElem_toArray, List.getElem_cons_succ, List.getElem_cons_zero, Act.put, List.setIfInBounds_toArray, List.set_cons_succ, List.set_cons_zero])) | (apply Ph.wpP_call_want RFresh.mono rfl rfl rfl; (focus (intro t w1 hR; have hc := RFresh.cell _ _ hR; (try simp only [List.getElem_toArray, List.getElem_cons_succ, List.getElem_cons_zero]); (try go_simp); (try exact And.intro rfl rfl); done)); (focus (intro t w1 hR; first | exact rotate_calls _ _ _)); (try simp only [List.getElem_toArray, List.getElem_cons_succ, List.getElem_cons_zero, Act.put, List.setIfInBounds_toArray, List.set_cons_succ, List.set_cons_zero]))))
    refine Ph.wpP_write_call rfl rfl rfl (f := 41) (args := #[.pointer (some ⟨bp, 0, none⟩), .int .i64 1]) ?_ ?_ ?_
    · intro w1 hR; simp only [List.getElem_toArray, List.getElem_cons_succ, List.getElem_cons_zero]; go_simp
    · intro w1 hR; exact (hfr w1 hR).mono fun e w' ⟨he, hp⟩ => ⟨_, he, rfl, hp⟩
    rintro u w1 ⟨rfl, hR1⟩
    clear hR1
    simp only [List.getElem_toArray, List.getElem_cons_succ, List.getElem_cons_zero, Act.put, List.setIfInBounds_toArray, List.set_cons_succ, List.set_cons_zero]
    (repeat (first | (refine Ph.wpP_pass rfl rfl rfl ?_; (try simp only [List.getElem_toArray, List.getElem_cons_succ, List.getElem_cons_zero, Act.put, List.setIfInBounds_toArray, List.set_cons_succ, List.set_cons_zero])) | (apply Ph.wpP_val rfl rfl rfl; (focus (intro t w1 hR; have hc := RFresh.cell _ _ hR; (try simp only [List.getElem_toArray, List.getElem_cons_succ, List.getElem_cons_zero]); (try go_simp); (try exact Eq.refl _); done)); (try simp only [List.getElem_toArray, List.getElem_cons_succ, List.getElem_cons_zero, Act.put, List.setIfInBounds_toArray, List.set_cons_succ, List.set_cons_zero])) | (apply Ph.wpP_call RFresh.mono rfl rfl rfl; (focus (intro t w1 hR; have hc := RFresh.cell _ _ hR; (try simp only [List.getElem_toArray, List.getElem_cons_succ, List.getElem_cons_zero]); (try go_simp); (try exact And.intro rfl rfl); done)); (focus (intro t w1 hR; first | exact rotate_calls _ _ _)); (try simp only [List.getElem_toArray, List.getElem_cons_succ, List.getElem_cons_zero, Act.put, List.setIfInBounds_toArray, List.set_cons_succ, List.set_cons_zero])) | (apply Ph.wpP_val_want rfl rfl rfl; (focus (intro t w1 hR; have hc := RFresh.cell _ _ hR; (try simp only [List.getElem_toArray, List.getElem_cons_succ, List.getElem_cons_zero]); (try go_simp); (try exact Eq.refl _); done)); (try simp only [List.getElem_toArray, List.getElem_cons_succ, List.getElem_cons_zero, Act.put, List.setIfInBounds_toArray, List.set_cons_succ, List.set_cons_zero])) | (apply Ph.wpP_call_want RFresh.mono rfl rfl rfl; (focus (intro t w1 hR; have hc := RFresh.cell _ _ hR; (try simp only [List.getElem_toArray, List.getElem_cons_succ, List.getElem_cons_zero]); (try go_simp); (try exact And.intro rfl rfl); done)); (focus (intro t w1 hR; first | exact rotate_calls _ _ _)); (try simp only [List.getElem_toArray, List.getElem_cons_succ, List.getElem_cons_zero, Act.put, List.setIfInBounds_toArray, List.set_cons_succ, List.set_cons_zero]))))
    refine Ph.wpP_nil ?_
    rintro w2 ⟨_, hR2⟩
    have hC := hR2.toC.put (pcells (⟨⟨ga, wa, xs⟩, ⟨Spec.rotate gb (Truth.fresh 1 (nu + 1)), true, ys⟩, nx + 1, nu + 1, so, tk, hf⟩ : Truth.St) v0 v1)
    have hlt2 := hR2.lt
    rw [← wb_self hR2.blk]
    clear hR2
    go_wp2_with fail
    clear hfr h2 hp
    refine Ph.wp_region_P (RA1 B bp w0 (pcells (⟨⟨ga, wa, xs⟩, ⟨Spec.rotate gb (Truth.fresh 1 (nu + 1)), true, ys⟩, nx + 1, nu + 1, so, tk, hf⟩ : Truth.St) v0 v1) xs ys v0 v1 (nx + 1)) (fun i => i == 12 || i == 13) 16 [0, 1, 2, 3, 4, 5, 6, 7, 8, 9, 10, 11, 14, 15, 12, 13] (by kernel_rfl) (by kernel_rfl) (PSc.grow hC (Below.drew (Below.refl _ _))) ?_
    (repeat (first | (refine Ph.wpP_pass rfl rfl rfl ?_; (try simp only [List.getElem_toArray, List.getElem_cons_succ, List.getElem_cons_zero, Act.put, List.setIfInBounds_toArray, List.set_cons_succ, List.set_cons_zero])) | (apply Ph.wpP_val rfl rfl rfl; (focus (intro t w1 hR; have hc := RA1.cell _ _ hR; (try simp only [List.getElem_toArray, List.getElem_cons_succ, List.getElem_cons_zero]); (try go_simp); (try exact Eq.refl _); done)); (try simp only [List.getElem_toArray, List.getElem_cons_succ, List.getElem_cons_zero, Act.put, List.setIfInBounds_toArray, List.set_cons_succ, List.set_cons_zero])) | (apply Ph.wpP_call RA1.mono rfl rfl rfl; (focus (intro t w1 hR; have hc := RA1.cell _ _ hR; (try simp only [List.getElem_toArray, List.getElem_cons_succ, List.getElem_cons_zero]); (try go_simp); (try exact And.intro rfl rfl); done)); (focus (intro t w1 hR; first | fail)); (try simp only [List.getElem_toArray, List.getElem_cons_succ, List.getElem_cons_zero, Act.put, List.setIfInBounds_toArray, List.set_cons_succ, List.set_cons_zero])) | (apply Ph.wpP_val_want rfl rfl rfl; (focus (intro t w1 hR; have hc := RA1.cell _ _ hR; (try simp only [List.getElem_toArray, List.getElem_cons_succ, List.getElem_cons_zero]); (try go_simp); (try exact Eq.refl _); done)); (try simp only [List.getElem_toArray, List.getElem_cons_succ, List.getElem_cons_zero, Act.put, List.setIfInBounds_toArray, List.set_cons_succ, List.set_cons_zero])) | (apply Ph.wpP_call_want RA1.mono rfl rfl rfl; (focus (intro t w1 hR; have hc := RA1.cell _ _ hR; (try simp only [List.getElem_toArray, List.getElem_cons_succ, List.getElem_cons_zero]); (try go_simp); (try exact And.intro rfl rfl); done)); (focus (intro t w1 hR; first | fail)); (try simp only [List.getElem_toArray, List.getElem_cons_succ, List.getElem_cons_zero, Act.put, List.setIfInBounds_toArray, List.set_cons_succ, List.set_cons_zero]))))
    refine Ph.wpP_write rfl rfl rfl ?_ ?_
    · intro w1 hR
      refine ⟨.slice (some ⟨w1.heap.size, 0, none⟩) 1 1, w1.alloc (.cells #[.int .i64 (nx + 1)] 3), ?_, _, rfl, PSc.grow hR (below_alloc1 _ _), by simp, has_cell' (heap_new _ _ _ rfl) 0⟩
      simp only [List.getElem_toArray, List.getElem_cons_succ, List.getElem_cons_zero]
      go_simp
    rintro u w1 ⟨b, rfl, _⟩
    simp only [List.getElem_toArray, List.getElem_cons_succ, List.getElem_cons_zero, Act.put, List.setIfInBounds_toArray, List.set_cons_succ, List.set_cons_zero]
    refine Ph.wpP_write rfl rfl rfl ?_ ?_
    · rintro w1 ⟨b', e, hE, hl', hc⟩
      obtain rfl : b' = b := by injection e with e; injection e with e; injection e with e; exact e.symm
      obtain ⟨v', w', hrun, hE'⟩ := append_own hE.swap hc hl
      exact ⟨v', w', run_append2 rfl rfl rfl rfl hrun, hE'.swap⟩
    intro v w1 hE
    clear hE
    simp only [List.getElem_toArray, List.getElem_cons_succ, List.getElem_cons_zero, Act.put, List.setIfInBounds_toArray, List.set_cons_succ, List.set_cons_zero]
    refine Ph.wpP_nil ?_
    intro w2 hD
    have hD : PSc B bp w0 (pcells (⟨⟨ga, wa, xs⟩, ⟨Spec.rotate gb (Truth.fresh 1 (nu + 1)), true, ys⟩, nx + 1, nu + 1, so, tk, hf⟩ : Truth.St) v0 v1) xs (ys ++ [nx + 1]) w2 v0 v := hD
    obtain ⟨pv, nv, cv, rfl⟩ : ∃ p n c, v = .slice p n c := by obtain ⟨p, c, e, _⟩ := hD.o1.form; exact ⟨p, _, c, e⟩
    have hP := hD.put (pcells (⟨⟨ga, wa, xs⟩, ⟨Spec.rotate gb (Truth.fresh 1 (nu + 1)), true, ys ++ [nx + 1]⟩, nx + 1, nu + 1, so, tk, hf⟩ : Truth.St) v0 (.slice pv nv cv))
    have hlt3 := heap_lt hD.blk
    rw [← wb_self hD.blk]
    clear hD
    go_wp2_with fail
    go_ret
    exact ⟨rfl, _, _, PSc.toPS (s := (⟨⟨ga, wa, xs⟩, ⟨Spec.rotate gb (Truth.fresh 1 (nu + 1)), true, ys ++ [nx + 1]⟩, nx + 1, nu + 1, so, tk, hf⟩ : Truth.St)) hP⟩

set_option maxRecDepth 100000 in
set_option maxHeartbeats 40000000 in
theorem take_force1 {node : Int} (h : PS B bp w0 s w v0 v1) (ht : node.tmod 2 = 1 ∨ node.tmod 2 = -1) (hs : s.source < 0) (hwa : s.a.whole = false) (hwb : s.b.whole = false) (h0 : 0 ≤ s.number) (hx : s.number < 144115188075855872) (hx0 : 0 ≤ s.next) (hx1 : s.next < 144115188075855872) (hl : s.b.has.length + 1 ≤ 17592186044416) :
    Calls Try.prog 25 #[.pointer (some ⟨bp, 0, none⟩), deedV 7 node] w fun e w' => e = .returned (.bool true) ∧ ∃ v0' v1', PS B bp w0 (s.force 1) w' v0' v1' := by
  obtain ⟨⟨ga, wa, xs⟩, ⟨gb, wb, ys⟩, nx, nu, so, tk, hf⟩ := s
  simp only at hs hwa hwb hx0 hx1 hl h0 hx
  subst hwa hwb
  have hlt := h.lt
  have hwr : IntKind.i64.wrap (nx + 1) = nx + 1 := IntWalk.i64_in _ ⟨by omega, by omega⟩
  have h2 := (h.set (s' := (⟨⟨ga, false, xs⟩, ⟨gb, true, ys⟩, nx, nu, so, tk, hf⟩ : Truth.St)) rfl rfl).grow (below_alloc1 _ (.cells #[.int .i64 7, .int .i64 node] 57))
  rw [alloc_wb h.lt] at h2
  have hne := Nat.ne_of_lt hlt
  have hne' := Ne.symm hne
  have hfr := fun w1 (hR : PS B bp w0 (⟨⟨ga, false, xs⟩, ⟨gb, true, ys⟩, nx, nu, so, tk, hf⟩ : Truth.St) w1 v0 v1) => fresh_calls_p (n := 1) hR (by omega) h0 hx
  rw [← wb_self h.blk]
  clear h hx0 hx1 h0 hx
  rcases ht with ht | ht
  all_goals
    go_enter Try.func25, Try.ntmps25
    go_wp2_with fail
    refine Ph.wp_region_P (RFresh B bp w0 (⟨⟨ga, false, xs⟩, ⟨gb, true, ys⟩, nx, nu, so, tk, hf⟩ : Truth.St) v0 v1 (Truth.fresh 1 (nu + 1))) (fun i => i == 10) 14 [0, 1, 2, 3, 4, 5, 6, 7, 8, 9, 12, 13, 10, 11] (by kernel_rfl) (by kernel_rfl) (PS.grow h2 (Below.drew (Below.refl _ _))) ?_
    (repeat (first | (refine Ph.wpP_pass rfl rfl rfl ?_; (try simp only [List.getElem_toArray, List.getElem_cons_succ, List.getElem_cons_zero, Act.put, List.setIfInBounds_toArray, List.set_cons_succ, List.set_cons_zero])) | (apply Ph.wpP_val rfl rfl rfl; (focus (intro t w1 hR; have hc := RFresh.cell _ _ hR; (try simp only [List.getElem_toArray, List.getElem_cons_succ, List.getElem_cons_zero]); (try go_simp); (try exact Eq.refl _); done)); (try simp only [List.getElem_toArray, List.getElem_cons_succ, List.getElem_cons_zero, Act.put, List.setIfInBounds_toArray, List.set_cons_succ, List.set_cons_zero])) | (apply Ph.wpP_call RFresh.mono rfl rfl rfl; (focus (intro t w1 hR; have hc := RFresh.cell _ _ hR; (try simp only [List.getElem_toArray, List.getElem_cons_succ, List.getElem_cons_zero]); (try go_simp); (try exact And.intro rfl rfl); done)); (focus (intro t w1 hR; first | exact rotate_calls _ _ _)); (try simp only [List.getElem_toArray, List.getElem_cons_succ, List.getElem_cons_zero, Act.put, List.setIfInBounds_toArray, List.set_cons_succ, List.set_cons_zero])) | (apply Ph.wpP_val_want rfl rfl rfl; (focus (intro t w1 hR; have hc := RFresh.cell _ _ hR; (try simp only [List.getElem_toArray, List.getElem_cons_succ, List.getElem_cons_zero]); (try go_simp); (try exact Eq.refl _); done)); (try simp only [List.getElem_toArray, List.getElem_cons_succ, List.getElem_cons_zero, Act.put, List.setIfInBounds_toArray, List.set_cons_succ, List.set_cons_zero])) | (apply Ph.wpP_call_want RFresh.mono rfl rfl rfl; (focus (intro t w1 hR; have hc := RFresh.cell _ _ hR; (try simp only [List.getElem_toArray, List.getElem_cons_succ, List.getElem_cons_zero]); (try go_simp); (try exact And.intro rfl rfl); done)); (focus (intro t w1 hR; first | exact rotate_calls _ _ _)); (try simp only [List.getElem_toArray, List.getElem_cons_succ, List.getElem_cons_zero, Act.put, List.setIfInBounds_toArray, List.set_cons_succ, List.set_cons_zero]))))
    refine Ph.wpP_write_call rfl rfl rfl (f := 41) (args := #[.pointer (some ⟨bp, 0, none⟩), .int .i64 1]) ?_ ?_ ?_
    · intro w1 hR; simp only [List.getElem_toArray, List.getElem_cons_succ, List.getElem_cons_zero]; go_simp
    · intro w1 hR; exact (hfr w1 hR).mono fun e w' ⟨he, hp⟩ => ⟨_, he, rfl, hp⟩
    rintro u w1 ⟨rfl, hR1⟩
    clear hR1
    simp only [List.getElem_toArray, List.getElem_cons_succ, List.getElem_cons_zero, Act.put, List.setIfInBounds_toArray, List.set_cons_succ, List.set_cons_zero]
    (repeat (first | (refine Ph.wpP_pass rfl rfl rfl ?_; (try simp only [List.getElem_toArray, List.getElem_cons_succ, List.getElem_cons_zero, Act.put, List.setIfInBounds_toArray, List.set_cons_succ, List.set_cons_zero])) | (apply Ph.wpP_val rfl rfl rfl; (focus (intro t w1 hR; have hc := RFresh.cell _ _ hR; (try simp only [List.getElem_toArray, List.getElem_cons_succ, List.getElem_cons_zero]); (try go_simp); (try exact Eq.refl _); done)); (try simp only [List.getElem_toArray, List.getElem_cons_succ, List.getElem_cons_zero, Act.put, List.setIfInBounds_toArray, List.set_cons_succ, List.set_cons_zero])) | (apply Ph.wpP_call RFresh.mono rfl rfl rfl; (focus (intro t w1 hR; have hc := RFresh.cell _ _ hR; (try simp only [List.getElem_toArray, List.getElem_cons_succ, List.getElem_cons_zero]); (try go_simp); (try exact And.intro rfl rfl); done)); (focus (intro t w1 hR; first | exact rotate_calls _ _ _)); (try simp only [List.getElem_toArray, List.getElem_cons_succ, List.getElem_cons_zero, Act.put, List.setIfInBounds_toArray, List.set_cons_succ, List.set_cons_zero])) | (apply Ph.wpP_val_want rfl rfl rfl; (focus (intro t w1 hR; have hc := RFresh.cell _ _ hR; (try simp only [List.getElem_toArray, List.getElem_cons_succ, List.getElem_cons_zero]); (try go_simp); (try exact Eq.refl _); done)); (try simp only [List.getElem_toArray, List.getElem_cons_succ, List.getElem_cons_zero, Act.put, List.setIfInBounds_toArray, List.set_cons_succ, List.set_cons_zero])) | (apply Ph.wpP_call_want RFresh.mono rfl rfl rfl; (focus (intro t w1 hR; have hc := RFresh.cell _ _ hR; (try simp only [List.getElem_toArray, List.getElem_cons_succ, List.getElem_cons_zero]); (try go_simp); (try exact And.intro rfl rfl); done)); (focus (intro t w1 hR; first | exact rotate_calls _ _ _)); (try simp only [List.getElem_toArray, List.getElem_cons_succ, List.getElem_cons_zero, Act.put, List.setIfInBounds_toArray, List.set_cons_succ, List.set_cons_zero]))))
    refine Ph.wpP_nil ?_
    rintro w2 ⟨_, hR2⟩
    have hC := hR2.toC.put (pcells (⟨⟨ga, false, xs⟩, ⟨Spec.rotate gb (Truth.fresh 1 (nu + 1)), true, ys⟩, nx + 1, nu + 1, so, tk, hf⟩ : Truth.St) v0 v1)
    have hlt2 := hR2.lt
    rw [← wb_self hR2.blk]
    clear hR2
    go_wp2_with fail
    clear hfr h2
    refine Ph.wp_region_P (RA1 B bp w0 (pcells (⟨⟨ga, false, xs⟩, ⟨Spec.rotate gb (Truth.fresh 1 (nu + 1)), true, ys⟩, nx + 1, nu + 1, so, tk, hf⟩ : Truth.St) v0 v1) xs ys v0 v1 (nx + 1)) (fun i => i == 12 || i == 13) 16 [0, 1, 2, 3, 4, 5, 6, 7, 8, 9, 10, 11, 14, 15, 12, 13] (by kernel_rfl) (by kernel_rfl) (PSc.grow hC (Below.drew (Below.refl _ _))) ?_
    (repeat (first | (refine Ph.wpP_pass rfl rfl rfl ?_; (try simp only [List.getElem_toArray, List.getElem_cons_succ, List.getElem_cons_zero, Act.put, List.setIfInBounds_toArray, List.set_cons_succ, List.set_cons_zero])) | (apply Ph.wpP_val rfl rfl rfl; (focus (intro t w1 hR; have hc := RA1.cell _ _ hR; (try simp only [List.getElem_toArray, List.getElem_cons_succ, List.getElem_cons_zero]); (try go_simp); (try exact Eq.refl _); done)); (try simp only [List.getElem_toArray, List.getElem_cons_succ, List.getElem_cons_zero, Act.put, List.setIfInBounds_toArray, List.set_cons_succ, List.set_cons_zero])) | (apply Ph.wpP_call RA1.mono rfl rfl rfl; (focus (intro t w1 hR; have hc := RA1.cell _ _ hR; (try simp only [List.getElem_toArray, List.getElem_cons_succ, List.getElem_cons_zero]); (try go_simp); (try exact And.intro rfl rfl); done)); (focus (intro t w1 hR; first | fail)); (try simp only [List.getElem_toArray, List.getElem_cons_succ, List.getElem_cons_zero, Act.put, List.setIfInBounds_toArray, List.set_cons_succ, List.set_cons_zero])) | (apply Ph.wpP_val_want rfl rfl rfl; (focus (intro t w1 hR; have hc := RA1.cell _ _ hR; (try simp only [List.getElem_toArray, List.getElem_cons_succ, List.getElem_cons_zero]); (try go_simp); (try exact Eq.refl _); done)); (try simp only [List.getElem_toArray, List.getElem_cons_succ, List.getElem_cons_zero, Act.put, List.setIfInBounds_toArray, List.set_cons_succ, List.set_cons_zero])) | (apply Ph.wpP_call_want RA1.mono rfl rfl rfl; (focus (intro t w1 hR; have hc := RA1.cell _ _ hR; (try simp only [List.getElem_toArray, List.getElem_cons_succ, List.getElem_cons_zero]); (try go_simp); (try exact And.intro rfl rfl); done)); (focus (intro t w1 hR; first | fail)); (try simp only [List.getElem_toArray, List.getElem_cons_succ, List.getElem_cons_zero, Act.put, List.setIfInBounds_toArray, List.set_cons_succ, List.set_cons_zero]))))
    refine Ph.wpP_write rfl rfl rfl ?_ ?_
    · intro w1 hR
      refine ⟨.slice (some ⟨w1.heap.size, 0, none⟩) 1 1, w1.alloc (.cells #[.int .i64 (nx + 1)] 3), ?_, _, rfl, PSc.grow hR (below_alloc1 _ _), by simp, has_cell' (heap_new _ _ _ rfl) 0⟩
      simp only [List.getElem_toArray, List.getElem_cons_succ, List.getElem_cons_zero]
      go_simp
    rintro u w1 ⟨b, rfl, _⟩
    simp only [List.getElem_toArray, List.getElem_cons_succ, List.getElem_cons_zero, Act.put, List.setIfInBounds_toArray, List.set_cons_succ, List.set_cons_zero]
    refine Ph.wpP_write rfl rfl rfl ?_ ?_
    · rintro w1 ⟨b', e, hE, hl', hc⟩
      obtain rfl : b' = b := by injection e with e; injection e with e; injection e with e; exact e.symm
      obtain ⟨v', w', hrun, hE'⟩ := append_own hE.swap hc hl
      exact ⟨v', w', run_append2 rfl rfl rfl rfl hrun, hE'.swap⟩
    intro v w1 hE
    clear hE
    simp only [List.getElem_toArray, List.getElem_cons_succ, List.getElem_cons_zero, Act.put, List.setIfInBounds_toArray, List.set_cons_succ, List.set_cons_zero]
    refine Ph.wpP_nil ?_
    intro w2 hD
    have hD : PSc B bp w0 (pcells (⟨⟨ga, false, xs⟩, ⟨Spec.rotate gb (Truth.fresh 1 (nu + 1)), true, ys⟩, nx + 1, nu + 1, so, tk, hf⟩ : Truth.St) v0 v1) xs (ys ++ [nx + 1]) w2 v0 v := hD
    obtain ⟨pv, nv, cv, rfl⟩ : ∃ p n c, v = .slice p n c := by obtain ⟨p, c, e, _⟩ := hD.o1.form; exact ⟨p, _, c, e⟩
    have hP := hD.put (pcells (⟨⟨ga, false, xs⟩, ⟨Spec.rotate gb (Truth.fresh 1 (nu + 1)), true, ys ++ [nx + 1]⟩, nx + 1, nu + 1, so, tk, hf⟩ : Truth.St) v0 (.slice pv nv cv))
    have hlt3 := heap_lt hD.blk
    rw [← wb_self hD.blk]
    clear hD
    go_wp2_with fail
    go_ret
    exact ⟨rfl, _, _, PSc.toPS (s := (⟨⟨ga, false, xs⟩, ⟨Spec.rotate gb (Truth.fresh 1 (nu + 1)), true, ys ++ [nx + 1]⟩, nx + 1, nu + 1, so, tk, hf⟩ : Truth.St)) hP⟩

set_option maxRecDepth 100000 in
set_option maxHeartbeats 16000000 in
theorem take_force_no {node : Int} (h : PS B bp w0 s w v0 v1) (hs : s.source < 0) (hw : s.a.whole = true ∨ (s.a.whole = false ∧ s.b.whole = true)) :
    Calls Try.prog 25 #[.pointer (some ⟨bp, 0, none⟩), deedV 7 node] w fun e w' => e = .returned (.bool true) ∧ PS B bp w0 s w' v0 v1 := by
  have hp := has_cell' h.blk
  have hlt := h.lt
  have h2 := h.grow (below_alloc1 w (.cells #[.int .i64 7, .int .i64 node] 57))
  rcases tmod_cases node with ht | ht | ht <;> rcases hw with hw | ⟨hw, hw2⟩
  all_goals
    go_enter Try.func25, Try.ntmps25
    go_wp2_with fail
    go_ret
    exact ⟨rfl, h2⟩
end Go.Proofs.Ytboanmhibbhceaa
