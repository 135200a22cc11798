/- IdentTruth: all is brought over. (Printed by wip/mkends.py.) -/
import Derived.Test.YtboanmhibbhceaaTruthWalk9
namespace Go.Proofs.Ytboanmhibbhceaa
open Go.RowKit
set_option linter.unusedVariables false
set_option linter.unusedSimpArgs false
variable {B bp : Nat} {w0 w w' : World} {c c' : Array Value} {xs ys : List Int} {v0 v1 : Value} {s : Truth.St}

theorem PSc.nil1 (h : PSc B bp w0 c xs ys w v0 v1) : PSc B bp w0 c xs [] w v0 (.slice none 0 0) :=
  ⟨h.below, h.hB, h.sB, h.blk, h.o0, World.ownsRow_nil w B 3 1, h.d0, (fun e => by cases e), fun k _ e => by cases e⟩
theorem PSc.nil0 (h : PSc B bp w0 c xs ys w v0 v1) : PSc B bp w0 c [] ys w (.slice none 0 0) v1 := (h.swap.nil1).swap
theorem RA1.own {x : Int} : ∀ (g : List Value) (w : World), RA1 B bp w0 c xs ys v0 v1 x g w → Own B w v0 xs
  | [], w, h => PSc.o0 h
  | [u], w, ⟨_, _, h, _⟩ => h.o0
  | [u, v], w, h => PSc.o0 h
theorem RA0.own {x : Int} : ∀ (g : List Value) (w : World), RA0 B bp w0 c xs ys v0 v1 x g w → Own B w v1 ys
  | [], w, h => PSc.o1 h
  | [u], w, ⟨_, _, h, _⟩ => h.o1
  | [u, v], w, h => PSc.o1 h
theorem own_cell {n cp g i : Nat} {x : Int} (h : Own B w (.slice (some ⟨g, 0, none⟩) n cp) xs) (hx : xs[i]? = some x) : w.cell? ⟨g, i, none⟩ = some (.int .i64 x) := by
  obtain ⟨p, c, e, hL, _⟩ := h.form
  obtain ⟨g', e', _, hc⟩ := hL (fun e => by rw [e] at hx; cases hx)
  rw [e'] at e
  injection e with e1
  injection e1 with e1
  injection e1 with e1
  subst e1
  exact hc i x hx
theorem exU {t : Array Value} (F : (Nat → Value) → Act) (h : (⟨t, []⟩ : Act) = F (fun k => t.getD k undef)) : ∃ U, (⟨t, []⟩ : Act) = F U := ⟨_, h⟩
theorem take_next {i : Nat} {x : Int} (hx : xs[i]? = some x) : xs.take (i + 1) = xs.take i ++ [x] := by rw [List.take_add_one, hx]; rfl

set_option maxRecDepth 100000 in
set_option maxHeartbeats 40000000 in
theorem ends_half0 (h : PS B bp w0 s w v0 v1) (hs : s.source = 0) (ht : s.taken = true) (hh : s.half = false) (hl : (s.a.has.length : Int) ≤ 8796093022208) :
    Calls Try.prog 43 #[.pointer (some ⟨bp, 0, none⟩), .int .i64 4] w fun e w' => e = .returned (.tuple #[]) ∧ ∃ v0' v1', PS B bp w0 s.halved w' v0' v1' := by
  have hp := has_cell' h.blk
  obtain ⟨⟨ga, wa, xs⟩, ⟨gb, wb, ys⟩, nx, nu, so, tk, hf⟩ := s
  simp only at hs hh hp ht hl
  subst hs hh ht
  go_enter Try.func43, Try.ntmps43
  go_wp2_with fail
  refine Ph.wp_region_P (fun _ w => PS B bp w0 ⟨⟨ga, wa, xs⟩, ⟨gb, wb, ys⟩, nx, nu, 0, true, false⟩ w v0 v1) (fun i => false) 11 [0, 1, 2, 3, 4, 5, 6, 7, 8, 9, 10] (by kernel_rfl) (by kernel_rfl) (h.grow (Below.drew (Below.refl _ _))) ?_
  (repeat (first | (refine Ph.wpP_pass rfl rfl rfl ?_; (try simp only [List.getElem_toArray, List.getElem_cons_succ, List.getElem_cons_zero, Act.put, List.setIfInBounds_toArray, List.set_cons_succ, List.set_cons_zero])) | (apply Ph.wpP_val rfl rfl rfl; (focus (intro t w1 hR; have hc := has_cell' hR.blk; (try simp only [List.getElem_toArray, List.getElem_cons_succ, List.getElem_cons_zero]); (try go_simp); (try exact Eq.refl _); done)); (try simp only [List.getElem_toArray, List.getElem_cons_succ, List.getElem_cons_zero, Act.put, List.setIfInBounds_toArray, List.set_cons_succ, List.set_cons_zero])) | (apply Ph.wpP_call (fun _ _ _ hR hb => PS.grow hR hb) rfl rfl rfl; (focus (intro t w1 hR; have hc := has_cell' hR.blk; (try simp only [List.getElem_toArray, List.getElem_cons_succ, List.getElem_cons_zero]); (try go_simp); (try exact And.intro rfl rfl); done)); (focus (intro t w1 hR; first | exact endSource_calls _ _)); (try simp only [List.getElem_toArray, List.getElem_cons_succ, List.getElem_cons_zero, Act.put, List.setIfInBounds_toArray, List.set_cons_succ, List.set_cons_zero])) | (apply Ph.wpP_val_want rfl rfl rfl; (focus (intro t w1 hR; have hc := has_cell' hR.blk; (try simp only [List.getElem_toArray, List.getElem_cons_succ, List.getElem_cons_zero]); (try go_simp); (try exact Eq.refl _); done)); (try simp only [List.getElem_toArray, List.getElem_cons_succ, List.getElem_cons_zero, Act.put, List.setIfInBounds_toArray, List.set_cons_succ, List.set_cons_zero])) | (apply Ph.wpP_call_want (fun _ _ _ hR hb => PS.grow hR hb) rfl rfl rfl; (focus (intro t w1 hR; have hc := has_cell' hR.blk; (try simp only [List.getElem_toArray, List.getElem_cons_succ, List.getElem_cons_zero]); (try go_simp); (try exact And.intro rfl rfl); done)); (focus (intro t w1 hR; first | exact endSource_calls _ _)); (try simp only [List.getElem_toArray, List.getElem_cons_succ, List.getElem_cons_zero, Act.put, List.setIfInBounds_toArray, List.set_cons_succ, List.set_cons_zero]))))
  refine Ph.wpP_nil ?_
  rintro w2 hR2
  have hC : PSc B bp w0 _ xs ys w2 v0 v1 := hR2.toC
  have hlt := hR2.lt
  rw [← wb_self hR2.blk]
  clear hR2 h hp
  obtain ⟨p, cp, rfl, hL, hmx⟩ := hC.o0.form
  go_wp2_with fail
  refine wp_loop_count (fun i a w' => ∃ vt, (∃ U : Nat → Value, a = ⟨#[.pointer (some ⟨bp, 0, none⟩), .int .i64 4, U 2, U 3, .int .i64 0, .int .i64 1, .int .i64 i, U 7, U 8, U 9, U 10, U 11, U 12, U 13, U 14, U 15, U 16, U 17, U 18, U 19, U 20, U 21, U 22, U 23, U 24, U 25, U 26, U 27, U 28, U 29, U 30, U 31, U 32, U 33, U 34, U 35, U 36, U 37, U 38, U 39, U 40, U 41, U 42, U 43, U 44, U 45, U 46, U 47, U 48, U 49, U 50, U 51, U 52, U 53, U 54, U 55, U 56, U 57, U 58, U 59, U 60, U 61, U 62, U 63, U 64, U 65, U 66, U 67, U 68, U 69, U 70, U 71, U 72, U 73, U 74, U 75, U 76, U 77, U 78, U 79, U 80, U 81, U 82, U 83, U 84, U 85, U 86, U 87, U 88, U 89, U 90, U 91, U 92, U 93, U 94, U 95, U 96, U 97, U 98, U 99, U 100, U 101, U 102, U 103, U 104, U 105, U 106, U 107, U 108, U 109, U 110, U 111, U 112, U 113, U 114], []⟩) ∧ PSc B bp w0 (pcells (⟨⟨Spec.endSource ga, wa, xs⟩, ⟨gb, wb, ys⟩, nx, nu, 0, true, true⟩ : Truth.St) (.slice p xs.length cp) vt) xs (xs.take i) w' (.slice p xs.length cp) vt) xs.length ⟨.slice none 0 0, exU (fun U => ⟨#[.pointer (some ⟨bp, 0, none⟩), .int .i64 4, U 2, U 3, .int .i64 0, .int .i64 1, .int .i64 0, U 7, U 8, U 9, U 10, U 11, U 12, U 13, U 14, U 15, U 16, U 17, U 18, U 19, U 20, U 21, U 22, U 23, U 24, U 25, U 26, U 27, U 28, U 29, U 30, U 31, U 32, U 33, U 34, U 35, U 36, U 37, U 38, U 39, U 40, U 41, U 42, U 43, U 44, U 45, U 46, U 47, U 48, U 49, U 50, U 51, U 52, U 53, U 54, U 55, U 56, U 57, U 58, U 59, U 60, U 61, U 62, U 63, U 64, U 65, U 66, U 67, U 68, U 69, U 70, U 71, U 72, U 73, U 74, U 75, U 76, U 77, U 78, U 79, U 80, U 81, U 82, U 83, U 84, U 85, U 86, U 87, U 88, U 89, U 90, U 91, U 92, U 93, U 94, U 95, U 96, U 97, U 98, U 99, U 100, U 101, U 102, U 103, U 104, U 105, U 106, U 107, U 108, U 109, U 110, U 111, U 112, U 113, U 114], []⟩) rfl, (hC.nil1).put _⟩ ?_ ?_
  · clear hC hL hlt
    rintro i a w' hi ⟨vt, ⟨U, rfl⟩, hE⟩
    obtain ⟨x, hx⟩ : ∃ x, xs[i]? = some x := ⟨xs[i], List.getElem?_eq_getElem hi⟩
    have hlen : (xs.take i).length + 1 ≤ 17592186044416 := by rw [List.length_take]; omega
    have hi' : (i : Int) < (xs.length : Int) := by exact_mod_cast hi
    have hi0 : (0 : Int) ≤ (i : Int) := Int.natCast_nonneg i
    obtain ⟨p', cp', e, hL, _⟩ := hE.o0.form
    obtain ⟨g, rfl, _, _⟩ := hL (fun e => by rw [e] at hi; cases hi)
    obtain ⟨rfl, rfl⟩ : p = some ⟨g, 0, none⟩ ∧ cp = cp' := by injection e with e1 _ e3; exact ⟨e1, e3⟩
    clear e hL
    have Hx := Lib.hid hx
    have Htk := Lib.hid (take_next hx)
    clear hx
    have hpc := has_cell' hE.blk
    have hwr : IntKind.i64.wrap ((i : Int) + 1) = ((i + 1 : Nat) : Int) := by
      rw [IntWalk.i64_in _ ⟨by omega, by omega⟩]; rfl
    go_wp2_with fail
    refine Ph.wp_region_P (RA1 B bp w0 (pcells (⟨⟨Spec.endSource ga, wa, xs⟩, ⟨gb, wb, ys⟩, nx, nu, 0, true, true⟩ : Truth.St) (.slice (some ⟨g, 0, none⟩) xs.length cp) vt) xs (xs.take i) (.slice (some ⟨g, 0, none⟩) xs.length cp) vt x) (fun i => i == 17 || i == 18) 21 [0, 1, 2, 3, 4, 5, 6, 7, 8, 9, 10, 11, 12, 13, 14, 15, 16, 19, 20, 17, 18] (by kernel_rfl) (by kernel_rfl) (PSc.grow hE (Below.drew (Below.refl _ _))) ?_
    clear hpc
    (repeat (first | (refine Ph.wpP_pass rfl rfl rfl ?_; (try simp only [List.getElem_toArray, List.getElem_cons_succ, List.getElem_cons_zero, Act.put, List.setIfInBounds_toArray, List.set_cons_succ, List.set_cons_zero])) | (apply Ph.wpP_val rfl rfl rfl; (focus (intro t w1 hR; have hc := And.intro (RA1.cell _ _ hR) (own_cell (RA1.own _ _ hR) Hx.out); (try simp only [List.getElem_toArray, List.getElem_cons_succ, List.getElem_cons_zero]); (try go_simp); (try exact Eq.refl _); done)); (try simp only [List.getElem_toArray, List.getElem_cons_succ, List.getElem_cons_zero, Act.put, List.setIfInBounds_toArray, List.set_cons_succ, List.set_cons_zero])) | (apply Ph.wpP_call RA1.mono rfl rfl rfl; (focus (intro t w1 hR; have hc := And.intro (RA1.cell _ _ hR) (own_cell (RA1.own _ _ hR) Hx.out); (try simp only [List.getElem_toArray, List.getElem_cons_succ, List.getElem_cons_zero]); (try go_simp); (try exact And.intro rfl rfl); done)); (focus (intro t w1 hR; first | fail)); (try simp only [List.getElem_toArray, List.getElem_cons_succ, List.getElem_cons_zero, Act.put, List.setIfInBounds_toArray, List.set_cons_succ, List.set_cons_zero])) | (apply Ph.wpP_val_want rfl rfl rfl; (focus (intro t w1 hR; have hc := And.intro (RA1.cell _ _ hR) (own_cell (RA1.own _ _ hR) Hx.out); (try simp only [List.getElem_toArray, List.getElem_cons_succ, List.getElem_cons_zero]); (try go_simp); (try exact Eq.refl _); done)); (try simp only [List.getElem_toArray, List.getElem_cons_succ, List.getElem_cons_zero, Act.put, List.setIfInBounds_toArray, List.set_cons_succ, List.set_cons_zero])) | (apply Ph.wpP_call_want RA1.mono rfl rfl rfl; (focus (intro t w1 hR; have hc := And.intro (RA1.cell _ _ hR) (own_cell (RA1.own _ _ hR) Hx.out); (try simp only [List.getElem_toArray, List.getElem_cons_succ, List.getElem_cons_zero]); (try go_simp); (try exact And.intro rfl rfl); done)); (focus (intro t w1 hR; first | fail)); (try simp only [List.getElem_toArray, List.getElem_cons_succ, List.getElem_cons_zero, Act.put, List.setIfInBounds_toArray, List.set_cons_succ, List.set_cons_zero]))))
    refine Ph.wpP_write rfl rfl rfl ?_ ?_
    · intro w1 hR
      refine ⟨.slice (some ⟨w1.heap.size, 0, none⟩) 1 1, w1.alloc (.cells #[.int .i64 x] 3), ?_, _, rfl, PSc.grow hR (below_alloc1 _ _), by simp, has_cell' (heap_new _ _ _ rfl) 0⟩
      simp only [List.getElem_toArray, List.getElem_cons_succ, List.getElem_cons_zero]
      go_simp
    rintro u w1 ⟨b, rfl, _⟩
    simp only [List.getElem_toArray, List.getElem_cons_succ, List.getElem_cons_zero, Act.put, List.setIfInBounds_toArray, List.set_cons_succ, List.set_cons_zero]
    refine Ph.wpP_write rfl rfl rfl ?_ ?_
    · rintro w1 ⟨b', e, hE, hl', hc⟩
      obtain rfl : b' = b := by injection e with e; injection e with e; injection e with e; exact e.symm
      obtain ⟨v', w', hrun, hE'⟩ := append_own hE.swap hc hlen
      exact ⟨v', w', run_append2 rfl rfl rfl rfl hrun, hE'.swap⟩
    intro v w1 hE1
    clear hE1
    simp only [List.getElem_toArray, List.getElem_cons_succ, List.getElem_cons_zero, Act.put, List.setIfInBounds_toArray, List.set_cons_succ, List.set_cons_zero]
    refine Ph.wpP_nil ?_
    intro w2 hD
    have hD : PSc B bp w0 (pcells (⟨⟨Spec.endSource ga, wa, xs⟩, ⟨gb, wb, ys⟩, nx, nu, 0, true, true⟩ : Truth.St) (.slice (some ⟨g, 0, none⟩) xs.length cp) vt) xs (xs.take i ++ [x]) w2 (.slice (some ⟨g, 0, none⟩) xs.length cp) v := hD
    obtain ⟨pv, nv, cv, rfl⟩ : ∃ p n c, v = .slice p n c := by obtain ⟨p, c, e, _⟩ := hD.o1.form; exact ⟨p, _, c, e⟩
    have hP := hD.put (pcells (⟨⟨Spec.endSource ga, wa, xs⟩, ⟨gb, wb, ys⟩, nx, nu, 0, true, true⟩ : Truth.St) (.slice (some ⟨g, 0, none⟩) xs.length cp) (.slice pv nv cv))
    rw [← Htk.out] at hP
    have hlt3 := heap_lt hD.blk
    rw [← wb_self hD.blk]
    clear hD hE hlen
    go_wp2_with fail
    exact ⟨_, exU (fun U => ⟨#[.pointer (some ⟨bp, 0, none⟩), .int .i64 4, U 2, U 3, .int .i64 0, .int .i64 1, .int .i64 (i + 1 : Nat), U 7, U 8, U 9, U 10, U 11, U 12, U 13, U 14, U 15, U 16, U 17, U 18, U 19, U 20, U 21, U 22, U 23, U 24, U 25, U 26, U 27, U 28, U 29, U 30, U 31, U 32, U 33, U 34, U 35, U 36, U 37, U 38, U 39, U 40, U 41, U 42, U 43, U 44, U 45, U 46, U 47, U 48, U 49, U 50, U 51, U 52, U 53, U 54, U 55, U 56, U 57, U 58, U 59, U 60, U 61, U 62, U 63, U 64, U 65, U 66, U 67, U 68, U 69, U 70, U 71, U 72, U 73, U 74, U 75, U 76, U 77, U 78, U 79, U 80, U 81, U 82, U 83, U 84, U 85, U 86, U 87, U 88, U 89, U 90, U 91, U 92, U 93, U 94, U 95, U 96, U 97, U 98, U 99, U 100, U 101, U 102, U 103, U 104, U 105, U 106, U 107, U 108, U 109, U 110, U 111, U 112, U 113, U 114], []⟩) rfl, hP⟩
  · clear hC hL hlt
    rintro a w' ⟨vt, ⟨U, rfl⟩, hE⟩
    rw [List.take_length] at hE
    have hpc := has_cell' hE.blk
    go_wp2_with fail
    go_end0
    exact ⟨rfl, _, _, PSc.toPS hE⟩

set_option maxRecDepth 100000 in
set_option maxHeartbeats 40000000 in
theorem ends_half1 (h : PS B bp w0 s w v0 v1) (hs : s.source = 1) (ht : s.taken = true) (hh : s.half = false) (hl : (s.b.has.length : Int) ≤ 8796093022208) :
    Calls Try.prog 43 #[.pointer (some ⟨bp, 0, none⟩), .int .i64 4] w fun e w' => e = .returned (.tuple #[]) ∧ ∃ v0' v1', PS B bp w0 s.halved w' v0' v1' := by
  have hp := has_cell' h.blk
  obtain ⟨⟨ga, wa, xs⟩, ⟨gb, wb, ys⟩, nx, nu, so, tk, hf⟩ := s
  simp only at hs hh hp ht hl
  subst hs hh ht
  go_enter Try.func43, Try.ntmps43
  go_wp2_with fail
  refine Ph.wp_region_P (fun _ w => PS B bp w0 ⟨⟨ga, wa, xs⟩, ⟨gb, wb, ys⟩, nx, nu, 1, true, false⟩ w v0 v1) (fun i => false) 11 [0, 1, 2, 3, 4, 5, 6, 7, 8, 9, 10] (by kernel_rfl) (by kernel_rfl) (h.grow (Below.drew (Below.refl _ _))) ?_
  (repeat (first | (refine Ph.wpP_pass rfl rfl rfl ?_; (try simp only [List.getElem_toArray, List.getElem_cons_succ, List.getElem_cons_zero, Act.put, List.setIfInBounds_toArray, List.set_cons_succ, List.set_cons_zero])) | (apply Ph.wpP_val rfl rfl rfl; (focus (intro t w1 hR; have hc := has_cell' hR.blk; (try simp only [List.getElem_toArray, List.getElem_cons_succ, List.getElem_cons_zero]); (try go_simp); (try exact Eq.refl _); done)); (try simp only [List.getElem_toArray, List.getElem_cons_succ, List.getElem_cons_zero, Act.put, List.setIfInBounds_toArray, List.set_cons_succ, List.set_cons_zero])) | (apply Ph.wpP_call (fun _ _ _ hR hb => PS.grow hR hb) rfl rfl rfl; (focus (intro t w1 hR; have hc := has_cell' hR.blk; (try simp only [List.getElem_toArray, List.getElem_cons_succ, List.getElem_cons_zero]); (try go_simp); (try exact And.intro rfl rfl); done)); (focus (intro t w1 hR; first | exact endSource_calls _ _)); (try simp only [List.getElem_toArray, List.getElem_cons_succ, List.getElem_cons_zero, Act.put, List.setIfInBounds_toArray, List.set_cons_succ, List.set_cons_zero])) | (apply Ph.wpP_val_want rfl rfl rfl; (focus (intro t w1 hR; have hc := has_cell' hR.blk; (try simp only [List.getElem_toArray, List.getElem_cons_succ, List.getElem_cons_zero]); (try go_simp); (try exact Eq.refl _); done)); (try simp only [List.getElem_toArray, List.getElem_cons_succ, List.getElem_cons_zero, Act.put, List.setIfInBounds_toArray, List.set_cons_succ, List.set_cons_zero])) | (apply Ph.wpP_call_want (fun _ _ _ hR hb => PS.grow hR hb) rfl rfl rfl; (focus (intro t w1 hR; have hc := has_cell' hR.blk; (try simp only [List.getElem_toArray, List.getElem_cons_succ, List.getElem_cons_zero]); (try go_simp); (try exact And.intro rfl rfl); done)); (focus (intro t w1 hR; first | exact endSource_calls _ _)); (try simp only [List.getElem_toArray, List.getElem_cons_succ, List.getElem_cons_zero, Act.put, List.setIfInBounds_toArray, List.set_cons_succ, List.set_cons_zero]))))
  refine Ph.wpP_nil ?_
  rintro w2 hR2
  have hC : PSc B bp w0 _ xs ys w2 v0 v1 := hR2.toC
  have hlt := hR2.lt
  rw [← wb_self hR2.blk]
  clear hR2 h hp
  obtain ⟨p, cp, rfl, hL, hmx⟩ := hC.o1.form
  go_wp2_with fail
  refine wp_loop_count (fun i a w' => ∃ vt, (∃ U : Nat → Value, a = ⟨#[.pointer (some ⟨bp, 0, none⟩), .int .i64 4, U 2, U 3, .int .i64 1, .int .i64 0, .int .i64 i, U 7, U 8, U 9, U 10, U 11, U 12, U 13, U 14, U 15, U 16, U 17, U 18, U 19, U 20, U 21, U 22, U 23, U 24, U 25, U 26, U 27, U 28, U 29, U 30, U 31, U 32, U 33, U 34, U 35, U 36, U 37, U 38, U 39, U 40, U 41, U 42, U 43, U 44, U 45, U 46, U 47, U 48, U 49, U 50, U 51, U 52, U 53, U 54, U 55, U 56, U 57, U 58, U 59, U 60, U 61, U 62, U 63, U 64, U 65, U 66, U 67, U 68, U 69, U 70, U 71, U 72, U 73, U 74, U 75, U 76, U 77, U 78, U 79, U 80, U 81, U 82, U 83, U 84, U 85, U 86, U 87, U 88, U 89, U 90, U 91, U 92, U 93, U 94, U 95, U 96, U 97, U 98, U 99, U 100, U 101, U 102, U 103, U 104, U 105, U 106, U 107, U 108, U 109, U 110, U 111, U 112, U 113, U 114], []⟩) ∧ PSc B bp w0 (pcells (⟨⟨ga, wa, xs⟩, ⟨Spec.endSource gb, wb, ys⟩, nx, nu, 1, true, true⟩ : Truth.St) vt (.slice p ys.length cp)) (ys.take i) ys w' vt (.slice p ys.length cp)) ys.length ⟨.slice none 0 0, exU (fun U => ⟨#[.pointer (some ⟨bp, 0, none⟩), .int .i64 4, U 2, U 3, .int .i64 1, .int .i64 0, .int .i64 0, U 7, U 8, U 9, U 10, U 11, U 12, U 13, U 14, U 15, U 16, U 17, U 18, U 19, U 20, U 21, U 22, U 23, U 24, U 25, U 26, U 27, U 28, U 29, U 30, U 31, U 32, U 33, U 34, U 35, U 36, U 37, U 38, U 39, U 40, U 41, U 42, U 43, U 44, U 45, U 46, U 47, U 48, U 49, U 50, U 51, U 52, U 53, U 54, U 55, U 56, U 57, U 58, U 59, U 60, U 61, U 62, U 63, U 64, U 65, U 66, U 67, U 68, U 69, U 70, U 71, U 72, U 73, U 74, U 75, U 76, U 77, U 78, U 79, U 80, U 81, U 82, U 83, U 84, U 85, U 86, U 87, U 88, U 89, U 90, U 91, U 92, U 93, U 94, U 95, U 96, U 97, U 98, U 99, U 100, U 101, U 102, U 103, U 104, U 105, U 106, U 107, U 108, U 109, U 110, U 111, U 112, U 113, U 114], []⟩) rfl, (hC.nil0).put _⟩ ?_ ?_
  · clear hC hL hlt
    rintro i a w' hi ⟨vt, ⟨U, rfl⟩, hE⟩
    obtain ⟨x, hx⟩ : ∃ x, ys[i]? = some x := ⟨ys[i], List.getElem?_eq_getElem hi⟩
    have hlen : (ys.take i).length + 1 ≤ 17592186044416 := by rw [List.length_take]; omega
    have hi' : (i : Int) < (ys.length : Int) := by exact_mod_cast hi
    have hi0 : (0 : Int) ≤ (i : Int) := Int.natCast_nonneg i
    obtain ⟨p', cp', e, hL, _⟩ := hE.o1.form
    obtain ⟨g, rfl, _, _⟩ := hL (fun e => by rw [e] at hi; cases hi)
    obtain ⟨rfl, rfl⟩ : p = some ⟨g, 0, none⟩ ∧ cp = cp' := by injection e with e1 _ e3; exact ⟨e1, e3⟩
    clear e hL
    have Hx := Lib.hid hx
    have Htk := Lib.hid (take_next hx)
    clear hx
    have hpc := has_cell' hE.blk
    have hwr : IntKind.i64.wrap ((i : Int) + 1) = ((i + 1 : Nat) : Int) := by
      rw [IntWalk.i64_in _ ⟨by omega, by omega⟩]; rfl
    go_wp2_with fail
    refine Ph.wp_region_P (RA0 B bp w0 (pcells (⟨⟨ga, wa, xs⟩, ⟨Spec.endSource gb, wb, ys⟩, nx, nu, 1, true, true⟩ : Truth.St) vt (.slice (some ⟨g, 0, none⟩) ys.length cp)) (ys.take i) ys vt (.slice (some ⟨g, 0, none⟩) ys.length cp) x) (fun i => i == 17 || i == 18) 21 [0, 1, 2, 3, 4, 5, 6, 7, 8, 9, 10, 11, 12, 13, 14, 15, 16, 19, 20, 17, 18] (by kernel_rfl) (by kernel_rfl) (PSc.grow hE (Below.drew (Below.refl _ _))) ?_
    clear hpc
    (repeat (first | (refine Ph.wpP_pass rfl rfl rfl ?_; (try simp only [List.getElem_toArray, List.getElem_cons_succ, List.getElem_cons_zero, Act.put, List.setIfInBounds_toArray, List.set_cons_succ, List.set_cons_zero])) | (apply Ph.wpP_val rfl rfl rfl; (focus (intro t w1 hR; have hc := And.intro (RA0.cell _ _ hR) (own_cell (RA0.own _ _ hR) Hx.out); (try simp only [List.getElem_toArray, List.getElem_cons_succ, List.getElem_cons_zero]); (try go_simp); (try exact Eq.refl _); done)); (try simp only [List.getElem_toArray, List.getElem_cons_succ, List.getElem_cons_zero, Act.put, List.setIfInBounds_toArray, List.set_cons_succ, List.set_cons_zero])) | (apply Ph.wpP_call RA0.mono rfl rfl rfl; (focus (intro t w1 hR; have hc := And.intro (RA0.cell _ _ hR) (own_cell (RA0.own _ _ hR) Hx.out); (try simp only [List.getElem_toArray, List.getElem_cons_succ, List.getElem_cons_zero]); (try go_simp); (try exact And.intro rfl rfl); done)); (focus (intro t w1 hR; first | fail)); (try simp only [List.getElem_toArray, List.getElem_cons_succ, List.getElem_cons_zero, Act.put, List.setIfInBounds_toArray, List.set_cons_succ, List.set_cons_zero])) | (apply Ph.wpP_val_want rfl rfl rfl; (focus (intro t w1 hR; have hc := And.intro (RA0.cell _ _ hR) (own_cell (RA0.own _ _ hR) Hx.out); (try simp only [List.getElem_toArray, List.getElem_cons_succ, List.getElem_cons_zero]); (try go_simp); (try exact Eq.refl _); done)); (try simp only [List.getElem_toArray, List.getElem_cons_succ, List.getElem_cons_zero, Act.put, List.setIfInBounds_toArray, List.set_cons_succ, List.set_cons_zero])) | (apply Ph.wpP_call_want RA0.mono rfl rfl rfl; (focus (intro t w1 hR; have hc := And.intro (RA0.cell _ _ hR) (own_cell (RA0.own _ _ hR) Hx.out); (try simp only [List.getElem_toArray, List.getElem_cons_succ, List.getElem_cons_zero]); (try go_simp); (try exact And.intro rfl rfl); done)); (focus (intro t w1 hR; first | fail)); (try simp only [List.getElem_toArray, List.getElem_cons_succ, List.getElem_cons_zero, Act.put, List.setIfInBounds_toArray, List.set_cons_succ, List.set_cons_zero]))))
    refine Ph.wpP_write rfl rfl rfl ?_ ?_
    · intro w1 hR
      refine ⟨.slice (some ⟨w1.heap.size, 0, none⟩) 1 1, w1.alloc (.cells #[.int .i64 x] 3), ?_, _, rfl, PSc.grow hR (below_alloc1 _ _), by simp, has_cell' (heap_new _ _ _ rfl) 0⟩
      simp only [List.getElem_toArray, List.getElem_cons_succ, List.getElem_cons_zero]
      go_simp
    rintro u w1 ⟨b, rfl, _⟩
    simp only [List.getElem_toArray, List.getElem_cons_succ, List.getElem_cons_zero, Act.put, List.setIfInBounds_toArray, List.set_cons_succ, List.set_cons_zero]
    refine Ph.wpP_write rfl rfl rfl ?_ ?_
    · rintro w1 ⟨b', e, hE, hl', hc⟩
      obtain rfl : b' = b := by injection e with e; injection e with e; injection e with e; exact e.symm
      obtain ⟨v', w', hrun, hE'⟩ := append_own hE hc hlen
      exact ⟨v', w', run_append2 rfl rfl rfl rfl hrun, hE'⟩
    intro v w1 hE1
    clear hE1
    simp only [List.getElem_toArray, List.getElem_cons_succ, List.getElem_cons_zero, Act.put, List.setIfInBounds_toArray, List.set_cons_succ, List.set_cons_zero]
    refine Ph.wpP_nil ?_
    intro w2 hD
    have hD : PSc B bp w0 (pcells (⟨⟨ga, wa, xs⟩, ⟨Spec.endSource gb, wb, ys⟩, nx, nu, 1, true, true⟩ : Truth.St) vt (.slice (some ⟨g, 0, none⟩) ys.length cp)) (ys.take i ++ [x]) ys w2 v (.slice (some ⟨g, 0, none⟩) ys.length cp) := hD
    obtain ⟨pv, nv, cv, rfl⟩ : ∃ p n c, v = .slice p n c := by obtain ⟨p, c, e, _⟩ := hD.o0.form; exact ⟨p, _, c, e⟩
    have hP := hD.put (pcells (⟨⟨ga, wa, xs⟩, ⟨Spec.endSource gb, wb, ys⟩, nx, nu, 1, true, true⟩ : Truth.St) (.slice pv nv cv) (.slice (some ⟨g, 0, none⟩) ys.length cp))
    rw [← Htk.out] at hP
    have hlt3 := heap_lt hD.blk
    rw [← wb_self hD.blk]
    clear hD hE hlen
    go_wp2_with fail
    exact ⟨_, exU (fun U => ⟨#[.pointer (some ⟨bp, 0, none⟩), .int .i64 4, U 2, U 3, .int .i64 1, .int .i64 0, .int .i64 (i + 1 : Nat), U 7, U 8, U 9, U 10, U 11, U 12, U 13, U 14, U 15, U 16, U 17, U 18, U 19, U 20, U 21, U 22, U 23, U 24, U 25, U 26, U 27, U 28, U 29, U 30, U 31, U 32, U 33, U 34, U 35, U 36, U 37, U 38, U 39, U 40, U 41, U 42, U 43, U 44, U 45, U 46, U 47, U 48, U 49, U 50, U 51, U 52, U 53, U 54, U 55, U 56, U 57, U 58, U 59, U 60, U 61, U 62, U 63, U 64, U 65, U 66, U 67, U 68, U 69, U 70, U 71, U 72, U 73, U 74, U 75, U 76, U 77, U 78, U 79, U 80, U 81, U 82, U 83, U 84, U 85, U 86, U 87, U 88, U 89, U 90, U 91, U 92, U 93, U 94, U 95, U 96, U 97, U 98, U 99, U 100, U 101, U 102, U 103, U 104, U 105, U 106, U 107, U 108, U 109, U 110, U 111, U 112, U 113, U 114], []⟩) rfl, hP⟩
  · clear hC hL hlt
    rintro a w' ⟨vt, ⟨U, rfl⟩, hE⟩
    rw [List.take_length] at hE
    have hpc := has_cell' hE.blk
    go_wp2_with fail
    go_end0
    exact ⟨rfl, _, _, PSc.toPS hE⟩
end Go.Proofs.Ytboanmhibbhceaa
