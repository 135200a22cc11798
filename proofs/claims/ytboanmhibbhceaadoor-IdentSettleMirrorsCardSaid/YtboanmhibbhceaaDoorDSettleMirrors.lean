/- IdentSettleMirrors: its walks, case by case. -/
import Derived.Test.YtboanmhibbhceaaDoorDLawSettles
namespace Go.Proofs.YtboanmhibbhceaaDoor
open Go.RowKit
set_option linter.unusedVariables false
set_option linter.unusedSimpArgs false

/-! The plain law. -/
theorem settle_out {k r own peer : Int} (h : ¬ (0 ≤ k ∧ k ≤ 7 ∧ 0 ≤ own ∧ own ≤ 2 ∧ 0 ≤ peer ∧ peer ≤ 2)) : ∃ c, Spec.settle k r own peer = (0, 0, c) ∧ (c != 0) = true := by
  unfold Spec.settle
  by_cases h1 : k < 0 ∨ 7 < k
  · rw [if_pos h1]; exact ⟨1, rfl, rfl⟩
  · rw [if_neg h1, if_pos (by omega)]; exact ⟨61, rfl, rfl⟩

theorem settle_cases {k r own peer : Int} (hk0 : 0 ≤ k) (hk7 : k ≤ 7) (ho0 : 0 ≤ own) (ho2 : own ≤ 2) (hp0 : 0 ≤ peer) (hp2 : peer ≤ 2) :
    ∃ a b c, Spec.settle k r own peer = (a, b, c) ∧ Spec.settle (Spec.mirror k) r peer own = (Spec.mirror a, b, c) ∧
      (k = 7 → c = 0 ∧ a = 7 ∧ b = r) ∧
      (k ≠ 7 → own = 0 → peer ≠ 0 → c = 0 ∧ (a = 2 ∨ a = 4)) ∧
      (k ≠ 7 → c ≠ 0 → own = 0 ∧ peer = 0 ∧ a = 0 ∧ b = 0) ∧
      (k ≠ 7 → c = 0 → own ≠ 0 → peer = 0 → a = 1 ∨ a = 3) := by
  have hk : k = 0 ∨ k = 1 ∨ k = 2 ∨ k = 3 ∨ k = 4 ∨ k = 5 ∨ k = 6 ∨ k = 7 := by omega
  have ho : own = 0 ∨ own = 1 ∨ own = 2 := by omega
  have hp : peer = 0 ∨ peer = 1 ∨ peer = 2 := by omega
  clear hk0 hk7 ho0 ho2 hp0 hp2
  rcases hk with rfl | rfl | rfl | rfl | rfl | rfl | rfl | rfl <;> rcases ho with rfl | rfl | rfl <;> rcases hp with rfl | rfl | rfl <;>
    exact ⟨_, _, _, rfl, rfl, by simp [Spec.settle, Spec.full, Spec.mirror]⟩

/-! The walks. -/
set_option maxRecDepth 100000 in
set_option maxHeartbeats 4000000 in
theorem turned_calls (a b : Int) (w : World) : Pur Tryd.prog 12 #[verV a b, verV (Spec.mirror a) b] w (.bool true) := by
  unfold Pur
  rcases mirror_cases' a with rfl | rfl | rfl | rfl | ⟨e1, e2, e3, e4⟩
  · go_enter Tryd.func12, Tryd.ntmps12; go_wp2; all_goals go_ret; all_goals exact ⟨rfl, (by first | exact Below.refl _ _ | exact below_alloc1 _ _ | exact below_alloc2 _ _ _ | exact below_alloc3 _ _ _ _ | (repeat' (first | assumption | exact Below.refl _ _ | exact below_alloc1 _ _ | exact below_alloc2 _ _ _ | exact below_alloc3 _ _ _ _ | (refine Below.drew ?_) | (refine below_wb ?_ ?_) | (refine Below.alloc ?_ ?_ _) | omega | (simp; done) | (simp; omega))))⟩
  · go_enter Tryd.func12, Tryd.ntmps12; go_wp2; all_goals go_ret; all_goals exact ⟨rfl, (by first | exact Below.refl _ _ | exact below_alloc1 _ _ | exact below_alloc2 _ _ _ | exact below_alloc3 _ _ _ _ | (repeat' (first | assumption | exact Below.refl _ _ | exact below_alloc1 _ _ | exact below_alloc2 _ _ _ | exact below_alloc3 _ _ _ _ | (refine Below.drew ?_) | (refine below_wb ?_ ?_) | (refine Below.alloc ?_ ?_ _) | omega | (simp; done) | (simp; omega))))⟩
  · go_enter Tryd.func12, Tryd.ntmps12; go_wp2; all_goals go_ret; all_goals exact ⟨rfl, (by first | exact Below.refl _ _ | exact below_alloc1 _ _ | exact below_alloc2 _ _ _ | exact below_alloc3 _ _ _ _ | (repeat' (first | assumption | exact Below.refl _ _ | exact below_alloc1 _ _ | exact below_alloc2 _ _ _ | exact below_alloc3 _ _ _ _ | (refine Below.drew ?_) | (refine below_wb ?_ ?_) | (refine Below.alloc ?_ ?_ _) | omega | (simp; done) | (simp; omega))))⟩
  · go_enter Tryd.func12, Tryd.ntmps12; go_wp2; all_goals go_ret; all_goals exact ⟨rfl, (by first | exact Below.refl _ _ | exact below_alloc1 _ _ | exact below_alloc2 _ _ _ | exact below_alloc3 _ _ _ _ | (repeat' (first | assumption | exact Below.refl _ _ | exact below_alloc1 _ _ | exact below_alloc2 _ _ _ | exact below_alloc3 _ _ _ _ | (refine Below.drew ?_) | (refine below_wb ?_ ?_) | (refine Below.alloc ?_ ?_ _) | omega | (simp; done) | (simp; omega))))⟩
  · rw [mirror_else e1 e2 e3 e4]
    go_enter Tryd.func12, Tryd.ntmps12; go_wp2; all_goals go_ret; all_goals exact ⟨by first | rfl | (simp; done), (by first | exact Below.refl _ _ | exact below_alloc1 _ _ | exact below_alloc2 _ _ _ | exact below_alloc3 _ _ _ _ | (repeat' (first | assumption | exact Below.refl _ _ | exact below_alloc1 _ _ | exact below_alloc2 _ _ _ | exact below_alloc3 _ _ _ _ | (refine Below.drew ?_) | (refine below_wb ?_ ?_) | (refine Below.alloc ?_ ?_ _) | omega | (simp; done) | (simp; omega))))⟩

set_option maxRecDepth 100000 in
set_option maxHeartbeats 4000000 in
theorem settleMirrors_out (k r own peer c : Int) (w : World) (h : Spec.settle k r own peer = (0, 0, c)) (hc : (c != 0) = true) (hr : ¬ (0 ≤ k ∧ k ≤ 7 ∧ 0 ≤ own ∧ own ≤ 2 ∧ 0 ≤ peer ∧ peer ≤ 2)) :
    Pur Tryd.prog 4 #[verV k r, .int .i64 own, .int .i64 peer] w (.bool true) := by
  unfold Pur
  have H := Lib.hid h
  clear h
  have hs : k < 0 ∨ (0 ≤ k ∧ 7 < k) ∨ (0 ≤ k ∧ k ≤ 7 ∧ own < 0) ∨ (0 ≤ k ∧ k ≤ 7 ∧ 0 ≤ own ∧ 2 < own) ∨ (0 ≤ k ∧ k ≤ 7 ∧ 0 ≤ own ∧ own ≤ 2 ∧ peer < 0) ∨ (0 ≤ k ∧ k ≤ 7 ∧ 0 ≤ own ∧ own ≤ 2 ∧ 0 ≤ peer ∧ 2 < peer) := by omega
  clear hr
  rcases hs with h1 | ⟨h1, h2⟩ | ⟨h1, h2, h3⟩ | ⟨h1, h2, h3, h4⟩ | ⟨h1, h2, h3, h4, h5⟩ | ⟨h1, h2, h3, h4, h5, h6⟩
  all_goals
    go_enter Tryd.func4, Tryd.ntmps4
    go_wp2_with (first
      | (go_at_call 7; refine (settle_calls _ _ _ _ _).out.mono ?_; rw [H.out]; rintro e w1 ⟨rfl, hb1⟩; obtain ⟨w2, rfl, hb3, hz0⟩ := behind_alloc1 hb1; clear hb1; have hn0 := Nat.ne_of_lt hz0; have hn0s := Ne.symm hn0)
      | (go_at_call 11; go_in))
    all_goals go_ret
    all_goals exact ⟨by first | rfl | (simp; done), (by first | exact Below.refl _ _ | exact below_alloc1 _ _ | exact below_alloc2 _ _ _ | exact below_alloc3 _ _ _ _ | (repeat' (first | assumption | exact Below.refl _ _ | exact below_alloc1 _ _ | exact below_alloc2 _ _ _ | exact below_alloc3 _ _ _ _ | (refine Below.drew ?_) | (refine below_wb ?_ ?_) | (refine Below.alloc ?_ ?_ _) | omega | (simp; done) | (simp; omega))))⟩

set_option maxRecDepth 100000 in
set_option maxHeartbeats 4000000 in
theorem settleMirrors_in (k r own peer a b c : Int) (w : World) (hT : Turned w) (h1 : Spec.settle k r own peer = (a, b, c)) (h2 : Spec.settle (Spec.mirror k) r peer own = (Spec.mirror a, b, c))
    (hk0 : 0 ≤ k) (hk7 : k ≤ 7) (ho0 : 0 ≤ own) (ho2 : own ≤ 2) (hp0 : 0 ≤ peer) (hp2 : peer ≤ 2)
    (hx : ((k == 7) = true ∧ a = 7 ∧ b = r ∧ c = 0) ∨
      ((k == 7) = false ∧ own = 0 ∧ (peer != 0) = true ∧ a = 2 ∧ c = 0) ∨ ((k == 7) = false ∧ own = 0 ∧ (peer != 0) = true ∧ a = 4 ∧ c = 0) ∨
      ((k == 7) = false ∧ own = 0 ∧ peer = 0 ∧ a = 0 ∧ b = 0 ∧ (c != 0) = true) ∨
      ((k == 7) = false ∧ own = 0 ∧ peer = 0 ∧ c = 0) ∨
      ((k == 7) = false ∧ (own == 0) = false ∧ (peer != 0) = true ∧ c = 0) ∨
      ((k == 7) = false ∧ (own == 0) = false ∧ peer = 0 ∧ a = 1 ∧ c = 0) ∨ ((k == 7) = false ∧ (own == 0) = false ∧ peer = 0 ∧ a = 3 ∧ c = 0)) :
    Pur Tryd.prog 4 #[verV k r, .int .i64 own, .int .i64 peer] w (.bool true) := by
  unfold Pur
  have H1 := Lib.hid h1
  have H2 := Lib.hid h2
  clear h1 h2
  rcases hx with ⟨e1, rfl, rfl, rfl⟩ | ⟨e1, rfl, e3, rfl, rfl⟩ | ⟨e1, rfl, e3, rfl, rfl⟩ | ⟨e1, rfl, rfl, rfl, rfl, e4⟩ | ⟨e1, rfl, rfl, rfl⟩ | ⟨e1, e2, e3, rfl⟩ | ⟨e1, e2, rfl, rfl, rfl⟩ | ⟨e1, e2, rfl, rfl, rfl⟩
  all_goals
    go_enter Tryd.func4, Tryd.ntmps4
    go_wp2_with (first
      | (go_at_call 9; refine (mirror_calls _ _ _ (hT.below (below_alloc1 _ _))).out.mono ?_; rintro e w1 ⟨rfl, hb1⟩; obtain ⟨w2, rfl, hb3, hz0⟩ := behind_alloc1 hb1; clear hb1; have hn0 := Nat.ne_of_lt hz0; have hn0s := Ne.symm hn0)
      | (go_at_call 7; refine (settle_calls _ _ _ _ _).out.mono ?_; rw [H1.out]; rintro e w1 ⟨rfl, hb1⟩; obtain ⟨w4, rfl, hb4, hy0, hy1⟩ := behind_wb1_new (B := w.heap.size) hb1 hz0 (by omega); clear hb1; have hb5 := hb3.trans hb4; clear hb3 hb4; have hm0 := Nat.ne_of_lt hy0; have hm1 := Nat.ne_of_lt hy1; have hm0s := Ne.symm hm0; have hm1s := Ne.symm hm1)
      | (go_at_call 7; refine (settle_calls _ _ _ _ _).out.mono ?_; rw [H2.out]; rintro e w1 ⟨rfl, hb1⟩; obtain ⟨w6, rfl, hb6, hx0, hx1, hx2⟩ := behind_wb2_new (B := w.heap.size) hb1 hy1 hy0 (by omega) (by omega) (by omega); clear hb1; have hb7 := hb5.trans hb6; clear hb5 hb6; have hl0 := Nat.ne_of_lt hx0; have hl1 := Nat.ne_of_lt hx1; have hl2 := Nat.ne_of_lt hx2; have hl0s := Ne.symm hl0; have hl1s := Ne.symm hl1; have hl2s := Ne.symm hl2)
      | (go_at_call 12; refine (turned_calls _ _ _).out.mono ?_; rintro e w1 ⟨rfl, hb1⟩; obtain ⟨w8, rfl, hb8, hv0, hv1, hv2, hv3⟩ := behind_wb3_new (B := w.heap.size) hb1 hx1 hx2 hx0 (by omega) (by omega) (by omega) (by omega) (by omega) (by omega); clear hb1; have hb9 := hb7.trans hb8; clear hb7 hb8)
      | (go_at_call 11; go_in))
    all_goals go_ret
    all_goals exact ⟨by first | rfl | (simp; done) | (simp_all; done), (by first | exact Below.refl _ _ | exact below_alloc1 _ _ | exact below_alloc2 _ _ _ | exact below_alloc3 _ _ _ _ | (repeat' (first | assumption | exact Below.refl _ _ | exact below_alloc1 _ _ | exact below_alloc2 _ _ _ | exact below_alloc3 _ _ _ _ | (refine Below.drew ?_) | (refine below_wb ?_ ?_) | (refine Below.alloc ?_ ?_ _) | omega | (simp; done) | (simp; omega))))⟩
end Go.Proofs.YtboanmhibbhceaaDoor
