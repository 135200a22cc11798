/- Mirror of the program (it reads the table 'turned') and of the document. -/
import Derived.Test.YtboanmhibbhceaaDoorGens
import Derived.LoopN
namespace Go.Proofs.YtboanmhibbhceaaDoor
open Go.RowKit
set_option linter.unusedVariables false
set_option linter.unusedSimpArgs false

namespace Spec
def mirror (k : Int) : Int := if k = 1 then 2 else if k = 2 then 1 else if k = 3 then 4 else if k = 4 then 3 else k
end Spec

/-- The table lies as its text says. -/
structure Turned (w : World) : Prop where
  size : 0 < w.heap.size
  c0 : w.cell? ⟨0, 0, none⟩ = some (.int .i64 1)
  c1 : w.cell? ⟨0, 1, none⟩ = some (.int .i64 2)
  c2 : w.cell? ⟨0, 2, none⟩ = some (.int .i64 2)
  c3 : w.cell? ⟨0, 3, none⟩ = some (.int .i64 1)
  c4 : w.cell? ⟨0, 4, none⟩ = some (.int .i64 3)
  c5 : w.cell? ⟨0, 5, none⟩ = some (.int .i64 4)
  c6 : w.cell? ⟨0, 6, none⟩ = some (.int .i64 4)
  c7 : w.cell? ⟨0, 7, none⟩ = some (.int .i64 3)

theorem Turned.below {w w' : World} (h : Turned w) (hb : Below w.heap.size w w') : Turned w' := by
  have hc := (bcell hb).1
  have hz := hb.size
  obtain ⟨h0, h1, h2, h3, h4, h5, h6, h7, h8⟩ := h
  exact ⟨by omega, (hc _ _ h0).trans h1, (hc _ _ h0).trans h2, (hc _ _ h0).trans h3, (hc _ _ h0).trans h4, (hc _ _ h0).trans h5, (hc _ _ h0).trans h6, (hc _ _ h0).trans h7, (hc _ _ h0).trans h8⟩

theorem Turned.belowB {W w' : World} {B : Nat} (h : Turned W) (hB : W.heap.size ≤ B) (hb : Below B W w') : Turned w' := h.below (hb.mono hB)

theorem mirror_cases (k : Int) : k = 0 ∨ k = 1 ∨ k = 2 ∨ k = 3 ∨ k = 4 ∨ k < 0 ∨ 5 ≤ k := by omega
theorem mirror_cases' (k : Int) : k = 1 ∨ k = 2 ∨ k = 3 ∨ k = 4 ∨ ((k == 1) = false ∧ (k == 2) = false ∧ (k == 3) = false ∧ (k == 4) = false) := by
  simp only [beq_eq_false_iff_ne, ne_eq]; omega

theorem mirror_else {k : Int} (e1 : (k == 1) = false) (e2 : (k == 2) = false) (e3 : (k == 3) = false) (e4 : (k == 4) = false) : Spec.mirror k = k := by
  simp only [beq_eq_false_iff_ne, ne_eq] at e1 e2 e3 e4
  unfold Spec.mirror
  rw [if_neg e1, if_neg e2, if_neg e3, if_neg e4]

set_option maxRecDepth 100000 in
set_option maxHeartbeats 4000000 in
theorem refMirror_calls (k r : Int) (w : World) : Pur Tryd.prog 10 #[.agg #[.int .i64 k, .int .i64 r]] w (.agg #[.int .i64 (Spec.mirror k), .int .i64 r]) := by
  unfold Pur
  rcases mirror_cases k with rfl | rfl | rfl | rfl | rfl | h | h
  all_goals
    go_enter Tryd.func10, Tryd.ntmps10
    go_wp2
    all_goals refine bodyPost_ret (v := .agg #[.int .i64 (Spec.mirror _), .int .i64 r]) ?_ rfl ⟨rfl, (by first | exact Below.refl _ _ | exact below_alloc1 _ _ | exact below_alloc2 _ _ _ | exact below_alloc3 _ _ _ _ | (repeat' (first | assumption | exact Below.refl _ _ | exact below_alloc1 _ _ | exact below_alloc2 _ _ _ | exact below_alloc3 _ _ _ _ | (refine Below.drew ?_) | (refine below_wb ?_ ?_) | (refine Below.alloc ?_ ?_ _) | omega | (simp; done) | (simp; omega))))⟩
    all_goals simp [results, Tryd.results10, go_sem, Spec.mirror]
    all_goals (try omega)
    all_goals ((repeat' split) <;> first | rfl | (simp; done) | omega | (simp_all; omega))

set_option maxRecDepth 100000 in
set_option maxHeartbeats 4000000 in
theorem mirror_calls (k r : Int) (w : World) (hT : Turned w) : Pur Tryd.prog 9 #[.agg #[.int .i64 k, .int .i64 r]] w (.agg #[.int .i64 (Spec.mirror k), .int .i64 r]) := by
  unfold Pur
  obtain ⟨hz, h0, h1, h2, h3, h4, h5, h6, h7⟩ := hT
  have hne := Nat.ne_of_lt hz
  have hne' := Ne.symm hne
  have i0 : ∀ w, (Instr.index 45 (.agg #[.int .i64 1, .int .i64 2, .int .i64 2, .int .i64 1, .int .i64 3, .int .i64 4, .int .i64 4, .int .i64 3]) (.int .i64 0)).run Tryd.prog w = .ok (.agg #[.int .i64 1, .int .i64 2]) w := fun _ => by kernel_rfl
  have i1 : ∀ w, (Instr.index 45 (.agg #[.int .i64 1, .int .i64 2, .int .i64 2, .int .i64 1, .int .i64 3, .int .i64 4, .int .i64 4, .int .i64 3]) (.int .i64 1)).run Tryd.prog w = .ok (.agg #[.int .i64 2, .int .i64 1]) w := fun _ => by kernel_rfl
  have i2 : ∀ w, (Instr.index 45 (.agg #[.int .i64 1, .int .i64 2, .int .i64 2, .int .i64 1, .int .i64 3, .int .i64 4, .int .i64 4, .int .i64 3]) (.int .i64 2)).run Tryd.prog w = .ok (.agg #[.int .i64 3, .int .i64 4]) w := fun _ => by kernel_rfl
  have i3 : ∀ w, (Instr.index 45 (.agg #[.int .i64 1, .int .i64 2, .int .i64 2, .int .i64 1, .int .i64 3, .int .i64 4, .int .i64 4, .int .i64 3]) (.int .i64 3)).run Tryd.prog w = .ok (.agg #[.int .i64 4, .int .i64 3]) w := fun _ => by kernel_rfl
  rcases mirror_cases' k with rfl | rfl | rfl | rfl | ⟨e1, e2, e3, e4⟩
  all_goals
    go_enter Tryd.func9, Tryd.ntmps9
    go_wp2
    refine wp_loop_rounds 5 ?_
    (repeat (rw [rounds_succ]; go_wp2))
  all_goals first
    | (refine bodyPost_ret (v := .agg #[.int .i64 (Spec.mirror _), .int .i64 r]) ?_ rfl ⟨rfl, (by first | exact Below.refl _ _ | exact below_alloc1 _ _ | exact below_alloc2 _ _ _ | exact below_alloc3 _ _ _ _ | (repeat' (first | assumption | exact Below.refl _ _ | exact below_alloc1 _ _ | exact below_alloc2 _ _ _ | exact below_alloc3 _ _ _ _ | (refine Below.drew ?_) | (refine below_wb ?_ ?_) | (refine Below.alloc ?_ ?_ _) | omega | (simp; done) | (simp; omega))))⟩; simp [results, Tryd.results9, go_sem, Spec.mirror]; done)
    | exact bodyPost_ret (v := .agg #[.int .i64 k, .int .i64 r]) (by simp [results, Tryd.results9, go_sem]) rfl ⟨by rw [mirror_else e1 e2 e3 e4], (by first | exact Below.refl _ _ | exact below_alloc1 _ _ | exact below_alloc2 _ _ _ | exact below_alloc3 _ _ _ _ | (repeat' (first | assumption | exact Below.refl _ _ | exact below_alloc1 _ _ | exact below_alloc2 _ _ _ | exact below_alloc3 _ _ _ _ | (refine Below.drew ?_) | (refine below_wb ?_ ?_) | (refine Below.alloc ?_ ?_ _) | omega | (simp; done) | (simp; omega))))⟩
end Go.Proofs.YtboanmhibbhceaaDoor
