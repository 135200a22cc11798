/- What the laws of chapter 7 use: lists with marks behind them, comparing, turning. -/
import Derived.Test.YtbgfoobcpacfeaaDoorWPut
namespace Go.Proofs.YtbgfoobcpacfeaaDoor
open Go.RowKit
set_option linter.unusedVariables false
set_option linter.unusedSimpArgs false

namespace Wi
def marks : List UInt8 := (List.range 40).map fun i => UInt8.ofNat (165 ^^^ i)
theorem marks_length : marks.length = 40 := rfl
theorem marks_at {i : Nat} (h : i < 40) : marks[i]? = some (UInt8.ofNat (165 ^^^ i)) := by simp [marks, h]
end Wi

theorem num_calls (w : World) (e : Int) : Pur Tryd.prog 17 #[.int .i64 e] w (.int .i64 e) := by
  unfold Pur
  go_enter Tryd.func17, Tryd.ntmps17
  go_wp2
  go_ret
  exact ⟨rfl, Below.refl _ _⟩

theorem num_same (w : World) (e : Int) : Sam Tryd.prog 17 #[.int .i64 e] w (.int .i64 e) := by
  unfold Sam
  go_enter Tryd.func17, Tryd.ntmps17
  go_wp2
  go_ret
  exact ⟨rfl, rfl⟩

theorem frameKind_calls (w : World) (k : Int) : Pur Tryd.prog 49 #[.int .i64 k] w (.bool (Wi.kindOk k)) := by
  unfold Pur Wi.kindOk
  by_cases h1 : 1 ≤ k <;> by_cases h2 : k ≤ 4
  all_goals
    go_enter Tryd.func49, Tryd.ntmps49
    go_wp2
    all_goals go_ret
    all_goals exact ⟨ret_bool (by simp [h1, h2]), Below.refl _ _⟩

theorem carries_calls (w : World) (k : Int) (n : Nat) : Pur Tryd.prog 50 #[.int .i64 k, .int .i64 n] w (.bool (Wi.carries k n)) := by
  unfold Pur Wi.carries
  cases h2 : (k == 2) <;> by_cases h1 : 0 < n <;> by_cases h3 : n ≤ 2048
  all_goals
    have h1' : decide ((0 : Int) < (n : Int)) = decide (0 < n) := by simp
    have h3' : decide ((n : Int) ≤ 2048) = decide (n ≤ 2048) := by rw [decide_eq_decide]; omega
    go_enter Tryd.func50, Tryd.ntmps50
    go_wp2
    all_goals go_ret
    all_goals exact ⟨ret_bool (by simp [h1, h2, h3]), Below.refl _ _⟩


theorem trace_here : True := trivial
end Go.Proofs.YtbgfoobcpacfeaaDoor
