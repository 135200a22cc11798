/- Both sides' verdicts are each other's mirror, by the same rule of the fourteen. -/
import Derived.Test.YtboanmhibbhceaaDoorDLaid
import Derived.Test.YtboanmhibbhceaaDoorCompLaw
import Derived.Test.YtboanmhibbhceaaDoorComp2
import Derived.Test.YtboanmhibbhceaaDoorWb5
namespace Go.Proofs.YtboanmhibbhceaaDoor
open Go.RowKit
set_option linter.unusedVariables false
set_option linter.unusedSimpArgs false

theorem mirror_twice (k : Int) : Spec.mirror (Spec.mirror k) = k := by
  rcases mirror_cases' k with rfl | rfl | rfl | rfl | ⟨e1, e2, e3, e4⟩
  · rfl
  · rfl
  · rfl
  · rfl
  · rw [mirror_else e1 e2 e3 e4, mirror_else e1 e2 e3 e4]

theorem apart_range (g h : G) : 0 ≤ (Spec.apart g h).1 ∧ (Spec.apart g h).1 ≤ 7 ∧ 1 ≤ (Spec.apart g h).2 ∧ (Spec.apart g h).2 ≤ 14 := by
  unfold Spec.apart
  split
  · decide
  · split <;> decide

theorem first_range (g h : G) (gx hx : Bool) : 0 ≤ (Spec.first g gx h hx).1 ∧ (Spec.first g gx h hx).1 ≤ 7 ∧ 1 ≤ (Spec.first g gx h hx).2 ∧ (Spec.first g gx h hx).2 ≤ 14 := by
  unfold Spec.first
  split
  all_goals first | decide | exact apart_range g h

theorem both_sides (g h : G) (gx hx : Bool) : ∃ a b, Spec.compare ⟨(0 : Int) == 0, g, gx, h, hx⟩ = (a, b) ∧ Spec.compare ⟨(1 : Int) == 0, h, hx, g, gx⟩ = (Spec.mirror a, b) ∧ 0 ≤ a ∧ a ≤ 7 ∧ 1 ≤ b ∧ b ≤ 14 := by
  have h0 : ((0 : Int) == 0) = true := rfl
  have h1 : ((1 : Int) == 0) = false := rfl
  rw [h0, h1, cmp_own, cmp_peer]
  obtain ⟨r1, r2, r3, r4⟩ := first_range g h gx hx
  exact ⟨_, _, rfl, rfl, r1, r2, r3, r4⟩

set_option maxRecDepth 100000 in
set_option maxHeartbeats 8000000 in
theorem identMirrors_calls (own peer : Int) (g h : G) (w : World) (hT : Turned w) : Pur Tryd.prog 6 #[.agg (gc g), .int .u32 own, .agg (gc h), .int .u32 peer] w (.bool true) := by
  unfold Pur
  obtain ⟨a, b, e1, e2, ha0, ha7, hb01, hb14⟩ := both_sides g h (Go.bits .and .u32 own 8 != 0) (Go.bits .and .u32 peer 8 != 0)
  have H1 := Lib.hid e1
  have H2 := Lib.hid e2
  clear e1 e2
  have E0 : w.heap.size ≤ w.heap.size := Nat.le_refl _
  have E1 : w.heap.size ≤ w.heap.size + 1 := Nat.le_succ _
  have N01 : w.heap.size + 1 ≠ w.heap.size := Nat.succ_ne_self _
  have E0 : w.heap.size ≤ w.heap.size := Nat.le_refl _
  have E1 : w.heap.size ≤ w.heap.size + 1 := Nat.le_succ _
  have N01 : w.heap.size + 1 ≠ w.heap.size := Nat.succ_ne_self _
  have E0 : w.heap.size ≤ w.heap.size := Nat.le_refl _
  have E1 : w.heap.size ≤ w.heap.size + 1 := Nat.le_succ _
  have N01 : w.heap.size + 1 ≠ w.heap.size := Nat.succ_ne_self _
  go_enter Tryd.func6, Tryd.ntmps6
  go_wp2_with (first
      | (go_at_call 14; have hg := hd1; clear hg; refine (compare_calls _ _ _ _ _ _).out.mono ?_; rw [H2.out]; rintro e w1 ⟨rfl, hb1⟩; obtain ⟨u2, rfl, hcu2, Lu2_2, Lu2_0, Lu2_1⟩ := behind_wb2_new (B := w.heap.size) hb1 Lu1_0 Lu1_1 E0 E1 N01; clear hb1; have Eu2 : w.heap.size ≤ u2.heap.size := Nat.le_of_lt Lu2_0; have Nu2_0 : u2.heap.size ≠ w.heap.size := Nat.ne_of_gt Lu2_0; have Mu2_0 := Ne.symm Nu2_0; have Nu2_1 : u2.heap.size ≠ w.heap.size + 1 := Nat.ne_of_gt Lu2_1; have Mu2_1 := Ne.symm Nu2_1; have Nu2_2 : u2.heap.size ≠ u1.heap.size := Nat.ne_of_gt Lu2_2; have Mu2_2 := Ne.symm Nu2_2; have hd2 := hd1.trans hcu2)
      | (go_at_call 14; refine (compare_calls _ _ _ _ _ _).out.mono ?_; rw [H1.out]; rintro e w1 ⟨rfl, hb1⟩; obtain ⟨u1, rfl, hd1, Lu1_0, Lu1_1⟩ := behind_alloc2 hb1; clear hb1; have Eu1 : w.heap.size ≤ u1.heap.size := Nat.le_of_lt Lu1_0; have Nu1_0 : u1.heap.size ≠ w.heap.size := Nat.ne_of_gt Lu1_0; have Mu1_0 := Ne.symm Nu1_0; have Nu1_1 : u1.heap.size ≠ w.heap.size + 1 := Nat.ne_of_gt Lu1_1; have Mu1_1 := Ne.symm Nu1_1)
      | (go_at_call 9; have hg := hd3; clear hg; refine (mirror_calls _ _ _ (hT.below (below_wb (below_wb (below_wb (below_wb (Below.alloc hd3 Eu3 _) E0) E1) Eu1) Eu2))).out.mono ?_; rw [mirror_twice]; rintro e w1 ⟨rfl, hb1⟩; obtain ⟨u4, rfl, hcu4, Lu4_4, Lu4_0, Lu4_1, Lu4_2, Lu4_3⟩ := behind_wb4_new (B := w.heap.size) hb1 Lu3_0 Lu3_1 Lu3_2 Lu3_3 E0 E1 Eu1 Eu2 N01 Nu1_0 Nu2_0 Nu1_1 Nu2_1 Nu2_2; clear hb1; have Eu4 : w.heap.size ≤ u4.heap.size := Nat.le_of_lt Lu4_0; have Nu4_0 : u4.heap.size ≠ w.heap.size := Nat.ne_of_gt Lu4_0; have Mu4_0 := Ne.symm Nu4_0; have Nu4_1 : u4.heap.size ≠ w.heap.size + 1 := Nat.ne_of_gt Lu4_1; have Mu4_1 := Ne.symm Nu4_1; have Nu4_2 : u4.heap.size ≠ u1.heap.size := Nat.ne_of_gt Lu4_2; have Mu4_2 := Ne.symm Nu4_2; have Nu4_3 : u4.heap.size ≠ u2.heap.size := Nat.ne_of_gt Lu4_3; have Mu4_3 := Ne.symm Nu4_3; have Nu4_4 : u4.heap.size ≠ u3.heap.size := Nat.ne_of_gt Lu4_4; have Mu4_4 := Ne.symm Nu4_4; have hd4 := hd3.trans hcu4)
      | (go_at_call 9; refine (mirror_calls _ _ _ (hT.below (below_wb (below_wb (below_wb (Below.alloc hd2 Eu2 _) E0) E1) Eu1))).out.mono ?_; rintro e w1 ⟨rfl, hb1⟩; obtain ⟨u3, rfl, hcu3, Lu3_3, Lu3_0, Lu3_1, Lu3_2⟩ := behind_wb3_new (B := w.heap.size) hb1 Lu2_0 Lu2_1 Lu2_2 E0 E1 Eu1 N01 Nu1_0 Nu1_1; clear hb1; have Eu3 : w.heap.size ≤ u3.heap.size := Nat.le_of_lt Lu3_0; have Nu3_0 : u3.heap.size ≠ w.heap.size := Nat.ne_of_gt Lu3_0; have Mu3_0 := Ne.symm Nu3_0; have Nu3_1 : u3.heap.size ≠ w.heap.size + 1 := Nat.ne_of_gt Lu3_1; have Mu3_1 := Ne.symm Nu3_1; have Nu3_2 : u3.heap.size ≠ u1.heap.size := Nat.ne_of_gt Lu3_2; have Mu3_2 := Ne.symm Nu3_2; have Nu3_3 : u3.heap.size ≠ u2.heap.size := Nat.ne_of_gt Lu3_3; have Mu3_3 := Ne.symm Nu3_3; have hd3 := hd2.trans hcu3)
      | (go_at_call 12; refine (turned_calls a b _).out.mono ?_; rintro e w1 ⟨rfl, hb1⟩; obtain ⟨u5, rfl, hcu5, Lu5_5, Lu5_0, Lu5_1, Lu5_2, Lu5_3, Lu5_4⟩ := behind_wb5_new (B := w.heap.size) hb1 Lu4_0 Lu4_1 Lu4_2 Lu4_3 Lu4_4 E0 E1 Eu1 Eu2 Eu3 N01 Nu1_0 Nu2_0 Nu3_0 Nu1_1 Nu2_1 Nu3_1 Nu2_2 Nu3_2 Nu3_3; clear hb1; have Eu5 : w.heap.size ≤ u5.heap.size := Nat.le_of_lt Lu5_0; have Nu5_0 : u5.heap.size ≠ w.heap.size := Nat.ne_of_gt Lu5_0; have Mu5_0 := Ne.symm Nu5_0; have Nu5_1 : u5.heap.size ≠ w.heap.size + 1 := Nat.ne_of_gt Lu5_1; have Mu5_1 := Ne.symm Nu5_1; have Nu5_2 : u5.heap.size ≠ u1.heap.size := Nat.ne_of_gt Lu5_2; have Mu5_2 := Ne.symm Nu5_2; have Nu5_3 : u5.heap.size ≠ u2.heap.size := Nat.ne_of_gt Lu5_3; have Mu5_3 := Ne.symm Nu5_3; have Nu5_4 : u5.heap.size ≠ u3.heap.size := Nat.ne_of_gt Lu5_4; have Mu5_4 := Ne.symm Nu5_4; have Nu5_5 : u5.heap.size ≠ u4.heap.size := Nat.ne_of_gt Lu5_5; have Mu5_5 := Ne.symm Nu5_5; have hd5 := hd4.trans hcu5)
      | fail)
  all_goals go_ret
  all_goals exact ⟨by first | rfl | (simp; done), (below_wb (below_wb (below_wb (below_wb (below_wb (below_wb hd5 E0) E1) Eu1) Eu2) Eu3) Eu4)⟩
end Go.Proofs.YtboanmhibbhceaaDoor
