/- IdentTruth: the deeds that append. (Printed by wip/mktake.py.) -/
import Derived.Test.YtboanmhibbhceaaTruthWalk11
namespace Go.Proofs.Ytboanmhibbhceaa
open Go.RowKit
set_option linter.unusedVariables false
set_option linter.unusedSimpArgs false

variable {B bp : Nat} {w0 w w' : World} {c c' : Array Value} {xs ys : List Int} {v0 v1 : Value} {s : Truth.St}

set_option maxRecDepth 100000 in
set_option maxHeartbeats 16000000 in
theorem take_alone_no0 {node : Int} (h : PS B bp w0 s w v0 v1) (ht : node.tmod 2 = 0) (hs : ¬ 0 ≤ s.source) (hw : s.a.whole = false) :
    Calls Try.prog 25 #[.pointer (some ⟨bp, 0, none⟩), deedV 1 node] w fun e w' => e = .returned (.bool true) ∧ PS B bp w0 s w' v0 v1 := by
  have hp := has_cell' h.blk
  have hlt := h.lt
  have h2 := h.grow (below_alloc1 w (.cells #[.int .i64 1, .int .i64 node] 57))
  skip
  all_goals
    go_enter Try.func25, Try.ntmps25
    go_wp2_with fail
    go_ret
    exact ⟨rfl, h2⟩

set_option maxRecDepth 100000 in
set_option maxHeartbeats 40000000 in
theorem take_alone_more0 {node : Int} (h : PS B bp w0 s w v0 v1) (ht : node.tmod 2 = 0) (hs : ¬ 0 ≤ s.source) (hw : s.a.whole = true) (hb : (s.a.g.b == 0) = false) (hx0 : 0 ≤ s.next) (hx1 : s.next < 144115188075855872) (hl : s.a.has.length + 1 ≤ 17592186044416) :
    Calls Try.prog 25 #[.pointer (some ⟨bp, 0, none⟩), deedV 1 node] w fun e w' => e = .returned (.bool true) ∧ ∃ v0' v1', PS B bp w0 (s.write 0 s.a.g s.a.whole s.number) w' v0' v1' := by
  obtain ⟨⟨ga, wa, xs⟩, ⟨gb, wb, ys⟩, nx, nu, so, tk, hf⟩ := s
  simp only at hs hw hb hx0 hx1 hl
  subst hw
  have hlt := h.lt
  have hwr : IntKind.i64.wrap (nx + 1) = nx + 1 := IntWalk.i64_in _ ⟨by omega, by omega⟩
  have hC := (h.toC.put (pcells (⟨⟨ga, true, xs⟩, ⟨gb, wb, ys⟩, nx + 1, nu, so, tk, hf⟩ : Truth.St) v0 v1)).grow (below_alloc1 _ (.cells #[.int .i64 1, .int .i64 node] 57))
  rw [alloc_wb h.lt] at hC
  have hne := Nat.ne_of_lt hlt
  have hne' := Ne.symm hne
  rw [← wb_self h.blk]
  clear h hx0 hx1
  skip
  all_goals
    go_enter Try.func25, Try.ntmps25
    go_wp2_with fail
    refine Ph.wp_region_P (RA0 B bp w0 (pcells (⟨⟨ga, true, xs⟩, ⟨gb, wb, ys⟩, nx + 1, nu, so, tk, hf⟩ : Truth.St) v0 v1) xs ys v0 v1 (nx + 1)) (fun i => i == 12 || i == 13) 16 [0, 1, 2, 3, 4, 5, 6, 7, 8, 9, 10, 11, 14, 15, 12, 13] (by kernel_rfl) (by kernel_rfl) (PSc.grow hC (Below.drew (Below.refl _ _))) ?_
    (repeat (first | (refine Ph.wpP_pass rfl rfl rfl ?_; (try simp only [List.getElem_toArray, List.getElem_cons_succ, List.getElem_cons_zero, Act.put, List.setIfInBounds_toArray, List.set_cons_succ, List.set_cons_zero])) | (apply Ph.wpP_val rfl rfl rfl; (focus (intro t w1 hR; have hc := RA0.cell _ _ hR; (try simp only [List.getElem_toArray, List.getElem_cons_succ, List.getElem_cons_zero]); (try go_simp); (try exact Eq.refl _); done)); (try simp only [List.getElem_toArray, List.getElem_cons_succ, List.getElem_cons_zero, Act.put, List.setIfInBounds_toArray, List.set_cons_succ, List.set_cons_zero])) | (apply Ph.wpP_call RA0.mono rfl rfl rfl; (focus (intro t w1 hR; have hc := RA0.cell _ _ hR; (try simp only [List.getElem_toArray, List.getElem_cons_succ, List.getElem_cons_zero]); (try go_simp); (try exact And.intro rfl rfl); done)); (focus (intro t w1 hR; first | fail)); (try simp only [List.getElem_toArray, List.getElem_cons_succ, List.getElem_cons_zero, Act.put, List.setIfInBounds_toArray, List.set_cons_succ, List.set_cons_zero])) | (apply Ph.wpP_val_want rfl rfl rfl; (focus (intro t w1 hR; have hc := RA0.cell _ _ hR; (try simp only [List.getElem_toArray, List.getElem_cons_succ, List.getElem_cons_zero]); (try go_simp); (try exact Eq.refl _); done)); (try simp only [List.getElem_toArray, List.getElem_cons_succ, List.getElem_cons_zero, Act.put, List.setIfInBounds_toArray, List.set_cons_succ, List.set_cons_zero])) | (apply Ph.wpP_call_want RA0.mono rfl rfl rfl; (focus (intro t w1 hR; have hc := RA0.cell _ _ hR; (try simp only [List.getElem_toArray, List.getElem_cons_succ, List.getElem_cons_zero]); (try go_simp); (try exact And.intro rfl rfl); done)); (focus (intro t w1 hR; first | fail)); (try simp only [List.getElem_toArray, List.getElem_cons_succ, List.getElem_cons_zero, Act.put, List.setIfInBounds_toArray, List.set_cons_succ, List.set_cons_zero]))))
    refine Ph.wpP_write rfl rfl rfl ?_ ?_
    · intro w1 hR
      refine ⟨.slice (some ⟨w1.heap.size, 0, none⟩) 1 1, w1.alloc (.cells #[.int .i64 (nx + 1)] 3), ?_, _, rfl, PSc.grow hR (below_alloc1 _ _), by simp, has_cell' (heap_new _ _ _ rfl) 0⟩
      simp only [List.getElem_toArray, List.getElem_cons_succ, List.getElem_cons_zero]
      go_simp
    rintro u w1 ⟨b, rfl, _⟩
    simp only [List.getElem_toArray, List.getElem_cons_succ, List.getElem_cons_zero, Act.put, List.setIfInBounds_toArray, List.set_cons_succ, List.set_cons_zero]
    refine Ph.wpP_write rfl rfl rfl ?_ ?_
    · rintro w1 ⟨b', e, hE, hl', hc⟩
      obtain rfl : b' = b := by injection e with e; injection e with e; injection e with e; exact e.symm
      obtain ⟨v', w', hrun, hE'⟩ := append_own hE hc hl
      exact ⟨v', w', run_append2 rfl rfl rfl rfl hrun, hE'⟩
    intro v w1 hE
    clear hE
    simp only [List.getElem_toArray, List.getElem_cons_succ, List.getElem_cons_zero, Act.put, List.setIfInBounds_toArray, List.set_cons_succ, List.set_cons_zero]
    refine Ph.wpP_nil ?_
    intro w2 hD
    have hD : PSc B bp w0 (pcells (⟨⟨ga, true, xs⟩, ⟨gb, wb, ys⟩, nx + 1, nu, so, tk, hf⟩ : Truth.St) v0 v1) (xs ++ [nx + 1]) ys w2 v v1 := hD
    obtain ⟨pv, nv, cv, rfl⟩ : ∃ p n c, v = .slice p n c := by obtain ⟨p, c, e, _⟩ := hD.o0.form; exact ⟨p, _, c, e⟩
    have hP := hD.put (pcells (⟨⟨ga, true, xs ++ [nx + 1]⟩, ⟨gb, wb, ys⟩, nx + 1, nu, so, tk, hf⟩ : Truth.St) (.slice pv nv cv) v1)
    have hlt3 := heap_lt hD.blk
    rw [← wb_self hD.blk]
    clear hD
    go_wp2_with fail
    go_ret
    exact ⟨rfl, _, _, PSc.toPS (s := (⟨⟨ga, true, xs ++ [nx + 1]⟩, ⟨gb, wb, ys⟩, nx + 1, nu, so, tk, hf⟩ : Truth.St)) hP⟩

set_option maxRecDepth 100000 in
set_option maxHeartbeats 16000000 in
theorem take_alone_no1 {node : Int} (h : PS B bp w0 s w v0 v1) (ht : node.tmod 2 = 1 ∨ node.tmod 2 = -1) (hs : ¬ 0 ≤ s.source) (hw : s.b.whole = false) :
    Calls Try.prog 25 #[.pointer (some ⟨bp, 0, none⟩), deedV 1 node] w fun e w' => e = .returned (.bool true) ∧ PS B bp w0 s w' v0 v1 := by
  have hp := has_cell' h.blk
  have hlt := h.lt
  have h2 := h.grow (below_alloc1 w (.cells #[.int .i64 1, .int .i64 node] 57))
  rcases ht with ht | ht
  all_goals
    go_enter Try.func25, Try.ntmps25
    go_wp2_with fail
    go_ret
    exact ⟨rfl, h2⟩

set_option maxRecDepth 100000 in
set_option maxHeartbeats 40000000 in
theorem take_alone_more1 {node : Int} (h : PS B bp w0 s w v0 v1) (ht : node.tmod 2 = 1 ∨ node.tmod 2 = -1) (hs : ¬ 0 ≤ s.source) (hw : s.b.whole = true) (hb : (s.b.g.b == 0) = false) (hx0 : 0 ≤ s.next) (hx1 : s.next < 144115188075855872) (hl : s.b.has.length + 1 ≤ 17592186044416) :
    Calls Try.prog 25 #[.pointer (some ⟨bp, 0, none⟩), deedV 1 node] w fun e w' => e = .returned (.bool true) ∧ ∃ v0' v1', PS B bp w0 (s.write 1 s.b.g s.b.whole s.number) w' v0' v1' := by
  obtain ⟨⟨ga, wa, xs⟩, ⟨gb, wb, ys⟩, nx, nu, so, tk, hf⟩ := s
  simp only at hs hw hb hx0 hx1 hl
  subst hw
  have hlt := h.lt
  have hwr : IntKind.i64.wrap (nx + 1) = nx + 1 := IntWalk.i64_in _ ⟨by omega, by omega⟩
  have hC := (h.toC.put (pcells (⟨⟨ga, wa, xs⟩, ⟨gb, true, ys⟩, nx + 1, nu, so, tk, hf⟩ : Truth.St) v0 v1)).grow (below_alloc1 _ (.cells #[.int .i64 1, .int .i64 node] 57))
  rw [alloc_wb h.lt] at hC
  have hne := Nat.ne_of_lt hlt
  have hne' := Ne.symm hne
  rw [← wb_self h.blk]
  clear h hx0 hx1
  rcases ht with ht | ht
  all_goals
    go_enter Try.func25, Try.ntmps25
    go_wp2_with fail
    refine Ph.wp_region_P (RA1 B bp w0 (pcells (⟨⟨ga, wa, xs⟩, ⟨gb, true, ys⟩, nx + 1, nu, so, tk, hf⟩ : Truth.St) v0 v1) xs ys v0 v1 (nx + 1)) (fun i => i == 12 || i == 13) 16 [0, 1, 2, 3, 4, 5, 6, 7, 8, 9, 10, 11, 14, 15, 12, 13] (by kernel_rfl) (by kernel_rfl) (PSc.grow hC (Below.drew (Below.refl _ _))) ?_
    (repeat (first | (refine Ph.wpP_pass rfl rfl rfl ?_; (try simp only [List.getElem_toArray, List.getElem_cons_succ, List.getElem_cons_zero, Act.put, List.setIfInBounds_toArray, List.set_cons_succ, List.set_cons_zero])) | (apply Ph.wpP_val rfl rfl rfl; (focus (intro t w1 hR; have hc := RA1.cell _ _ hR; (try simp only [List.getElem_toArray, List.getElem_cons_succ, List.getElem_cons_zero]); (try go_simp); (try exact Eq.refl _); done)); (try simp only [List.getElem_toArray, List.getElem_cons_succ, List.getElem_cons_zero, Act.put, List.setIfInBounds_toArray, List.set_cons_succ, List.set_cons_zero])) | (apply Ph.wpP_call RA1.mono rfl rfl rfl; (focus (intro t w1 hR; have hc := RA1.cell _ _ hR; (try simp only [List.getElem_toArray, List.getElem_cons_succ, List.getElem_cons_zero]); (try go_simp); (try exact And.intro rfl rfl); done)); (focus (intro t w1 hR; first | fail)); (try simp only [List.getElem_toArray, List.getElem_cons_succ, List.getElem_cons_zero, Act.put, List.setIfInBounds_toArray, List.set_cons_succ, List.set_cons_zero])) | (apply Ph.wpP_val_want rfl rfl rfl; (focus (intro t w1 hR; have hc := RA1.cell _ _ hR; (try simp only [List.getElem_toArray, List.getElem_cons_succ, List.getElem_cons_zero]); (try go_simp); (try exact Eq.refl _); done)); (try simp only [List.getElem_toArray, List.getElem_cons_succ, List.getElem_cons_zero, Act.put, List.setIfInBounds_toArray, List.set_cons_succ, List.set_cons_zero])) | (apply Ph.wpP_call_want RA1.mono rfl rfl rfl; (focus (intro t w1 hR; have hc := RA1.cell _ _ hR; (try simp only [List.getElem_toArray, List.getElem_cons_succ, List.getElem_cons_zero]); (try go_simp); (try exact And.intro rfl rfl); done)); (focus (intro t w1 hR; first | fail)); (try simp only [List.getElem_toArray, List.getElem_cons_succ, List.getElem_cons_zero, Act.put, List.setIfInBounds_toArray, List.set_cons_succ, List.set_cons_zero]))))
    refine Ph.wpP_write rfl rfl rfl ?_ ?_
    · intro w1 hR
      refine ⟨.slice (some ⟨w1.heap.size, 0, none⟩) 1 1, w1.alloc (.cells #[.int .i64 (nx + 1)] 3), ?_, _, rfl, PSc.grow hR (below_alloc1 _ _), by simp, has_cell' (heap_new _ _ _ rfl) 0⟩
      simp only [List.getElem_toArray, List.getElem_cons_succ, List.getElem_cons_zero]
      go_simp
    rintro u w1 ⟨b, rfl, _⟩
    simp only [List.getElem_toArray, List.getElem_cons_succ, List.getElem_cons_zero, Act.put, List.setIfInBounds_toArray, List.set_cons_succ, List.set_cons_zero]
    refine Ph.wpP_write rfl rfl rfl ?_ ?_
    · rintro w1 ⟨b', e, hE, hl', hc⟩
      obtain rfl : b' = b := by injection e with e; injection e with e; injection e with e; exact e.symm
      obtain ⟨v', w', hrun, hE'⟩ := append_own hE.swap hc hl
      exact ⟨v', w', run_append2 rfl rfl rfl rfl hrun, hE'.swap⟩
    intro v w1 hE
    clear hE
    simp only [List.getElem_toArray, List.getElem_cons_succ, List.getElem_cons_zero, Act.put, List.setIfInBounds_toArray, List.set_cons_succ, List.set_cons_zero]
    refine Ph.wpP_nil ?_
    intro w2 hD
    have hD : PSc B bp w0 (pcells (⟨⟨ga, wa, xs⟩, ⟨gb, true, ys⟩, nx + 1, nu, so, tk, hf⟩ : Truth.St) v0 v1) xs (ys ++ [nx + 1]) w2 v0 v := hD
    obtain ⟨pv, nv, cv, rfl⟩ : ∃ p n c, v = .slice p n c := by obtain ⟨p, c, e, _⟩ := hD.o1.form; exact ⟨p, _, c, e⟩
    have hP := hD.put (pcells (⟨⟨ga, wa, xs⟩, ⟨gb, true, ys ++ [nx + 1]⟩, nx + 1, nu, so, tk, hf⟩ : Truth.St) v0 (.slice pv nv cv))
    have hlt3 := heap_lt hD.blk
    rw [← wb_self hD.blk]
    clear hD
    go_wp2_with fail
    go_ret
    exact ⟨rfl, _, _, PSc.toPS (s := (⟨⟨ga, wa, xs⟩, ⟨gb, true, ys ++ [nx + 1]⟩, nx + 1, nu, so, tk, hf⟩ : Truth.St)) hP⟩
end Go.Proofs.Ytboanmhibbhceaa
