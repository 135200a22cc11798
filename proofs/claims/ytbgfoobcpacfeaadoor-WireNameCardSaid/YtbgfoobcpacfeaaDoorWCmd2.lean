/- A command of the table, by its number; the name. -/
import Derived.Test.YtbgfoobcpacfeaaDoorWCmd
namespace Go.Proofs.YtbgfoobcpacfeaaDoor
open Go.RowKit
set_option maxRecDepth 100000
set_option linter.unusedVariables false
set_option linter.unusedSimpArgs false

/-- A command of the table as a value. -/
abbrev cmdE (n : Nat → Nat) (i : Nat) (c : List UInt8 × List Fd) : Value := .agg #[.string ⟨c.1.toArray⟩, .slice (some ⟨n i, 0, none⟩) c.2.length c.2.length]
theorem cmd_some {i : Int} (h1 : 1 ≤ i) (h2 : i < 26) : ∃ k c, i = (k : Nat) ∧ 1 ≤ k ∧ cmdTab[k]? = some c := by
  have hk : i.toNat < cmdTab.length := by show i.toNat < 26; omega
  exact ⟨i.toNat, cmdTab[i.toNat], by omega, by omega, List.getElem?_eq_getElem hk⟩
theorem cmd_index (n : Nat → Nat) (w : World) (i : Nat) (c : List UInt8 × List Fd) (hi : 1 ≤ i) (hc : cmdTab[i]? = some c) :
    (Instr.index 75 (.agg (cmdCells n).toArray) (.int .i64 i)).run Tryd.prog w = .ok (cmdE n i c) w := by
  have hi26 : i < 26 := (List.getElem?_eq_some_iff.1 hc).1
  obtain ⟨s, fs⟩ := c
  have h : (Instr.index 75 (.agg (cmdCells n).toArray) (.int .i64 i)).run Tryd.prog w = .ok (cmdE n i (cmdTab.getD i ([], []))) w := by
    rcases (by omega : i = 1 ∨ i = 2 ∨ i = 3 ∨ i = 4 ∨ i = 5 ∨ i = 6 ∨ i = 7 ∨ i = 8 ∨ i = 9 ∨ i = 10 ∨ i = 11 ∨ i = 12 ∨ i = 13 ∨ i = 14 ∨ i = 15 ∨ i = 16 ∨ i = 17 ∨ i = 18 ∨ i = 19 ∨ i = 20 ∨ i = 21 ∨ i = 22 ∨ i = 23 ∨ i = 24 ∨ i = 25) with rfl | rfl | rfl | rfl | rfl | rfl | rfl | rfl | rfl | rfl | rfl | rfl | rfl | rfl | rfl | rfl | rfl | rfl | rfl | rfl | rfl | rfl | rfl | rfl | rfl
    all_goals kernel_rfl
  rw [h, List.getD_eq_getElem?_getD, hc]
  rfl

theorem cmd_f0 (w : World) (a b : Value) : (Instr.field 74 (.agg #[a, b]) 0).run Tryd.prog w = .ok a w := by kernel_rfl
theorem cmd_f1 (w : World) (a b : Value) : (Instr.field 74 (.agg #[a, b]) 1).run Tryd.prog w = .ok b w := by kernel_rfl

/-- Is the command's number known? -/
def knownB (c : Int) : Bool := decide (1 ≤ c) && decide (c < 26)
set_option maxHeartbeats 4000000 in
theorem known_calls (w : World) (c : Int) : Pur Tryd.prog 39 #[.int .i64 c] w (.bool (knownB c)) := by
  unfold Pur knownB
  cases h1 : decide (1 ≤ c) <;> cases h2 : decide (c < 26)
  all_goals (go_enter Tryd.func39, Tryd.ntmps39; go_wp2; all_goals go_ret; all_goals exact ⟨rfl, (by first | exact Below.refl _ _ | exact below_alloc1 _ _ | exact below_alloc2 _ _ _ | exact below_alloc3 _ _ _ _ | (repeat' (first | assumption | exact Below.refl _ _ | exact below_alloc1 _ _ | exact below_alloc2 _ _ _ | exact below_alloc3 _ _ _ _ | (refine Below.drew ?_) | (refine below_wb ?_ ?_) | (refine Below.alloc ?_ ?_ _) | omega | (simp; done) | (simp; omega))))⟩)

set_option maxHeartbeats 4000000 in
theorem name_calls (w : World) (c : Int) : Calls Tryd.prog 15 #[.int .i64 c] w fun e w' => e = .returned (.tuple (if knownB c then #[.string ⟨(cmdTab[c.toNat]?.getD ([], [])).1.toArray⟩, .int .i64 0] else #[.string ⟨#[]⟩, .int .i64 74])) ∧ Below w.heap.size w w' := by
  cases hk : knownB c
  · go_enter Tryd.func15, Tryd.ntmps15
    go_wp2_with fail
    refine (known_calls w c).out.mono ?_
    rintro e w1 ⟨rfl, hb⟩
    rw [hk]
    go_wp2_with fail
    go_ret2
    exact ⟨rfl, hb⟩
  · obtain ⟨h1, h2⟩ : 1 ≤ c ∧ c < 26 := by simpa [knownB] using hk
    obtain ⟨k, x, rfl, hk1, hx⟩ := cmd_some h1 h2
    have Hx := Lib.hid hx
    go_enter Tryd.func15, Tryd.ntmps15
    go_wp2_with fail
    refine (known_calls w _).out.mono ?_
    rintro e w1 ⟨rfl, hb⟩
    rw [hk]
    go_wp2_with fail
    refine (commands_calls w1).mono ?_
    rintro e w2 ⟨n, rfl, -, hb2⟩
    have hix : ∀ w, (Instr.index 75 (.agg (cmdCells n).toArray) (.int .i64 k)).run Tryd.prog w = .ok (.agg #[.string ⟨x.1.toArray⟩, .slice (some ⟨n k, 0, none⟩) x.2.length x.2.length]) w := fun w => cmd_index n w k x hk1 hx
    have hf0 := cmd_f0
    generalize (cmdCells n).toArray = cc at *
    clear hx
    go_wp2_with fail
    go_ret2
    refine ⟨?_, hb.trans (hb2.mono hb.size)⟩
    show _ = Ending.returned (Value.tuple #[.string ⟨(cmdTab[k]?.getD ([], [])).1.toArray⟩, .int .i64 0])
    rw [Hx.out]
    rfl
end Go.Proofs.YtbgfoobcpacfeaaDoor
