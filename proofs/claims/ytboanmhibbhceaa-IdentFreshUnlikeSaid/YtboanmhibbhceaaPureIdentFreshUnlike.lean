/- Identifiers that Fresh makes for nodes 0 and 1 out of numbers below 2^59 are never 0 or 4, and two are the same just if node and number are; of greater numbers nothing is said (the law answers true there). -/
import Derived.Test.YtboanmhibbhceaaPIdentFreshUnlikex1
import Derived.OpenShut
namespace Go.Proofs.Ytboanmhibbhceaa.Pure
open Go.RowKit Go.Proofs.Ytboanmhibbhceaa.PIdentFreshUnlike Go.Proofs.YtboanmhibbhceaaW.PrintWords Go.Proofs.YtboanmhibbhceaaW.PrintLast

theorem wrap_u64 (x : Int) : IntKind.u64.wrap x = x % 18446744073709551616 := by
  have h : (2 ^ IntKind.u64.bits : Int) = 18446744073709551616 := by decide
  simp [IntKind.wrap, IntKind.signed, h]

theorem fresh_of (n : Int) (hn : n = 0 ∨ n = 1) (a : Int) (h0 : 0 ≤ a) (h : a < 576460752303423488) : ident_Fresh.f n a = some (32 * a + 16 * n + 8) := by
  have hb : IntKind.u64.wrap (Go.bits .and .i64 n 1) = n := by
    rcases hn with rfl | rfl <;> decide
  unfold ident_Fresh.f
  rw [hb]
  congr 1
  simp only [wrap_u64]
  rcases hn with rfl | rfl <;> omega

theorem fresh_eq (a b : Int) (n m : Int) (hn : n = 0 ∨ n = 1) (hm : m = 0 ∨ m = 1) : ((32 * a + 16 * n + 8 : Int) == 32 * b + 16 * m + 8) = (n == m && a == b) := by
  rw [Bool.eq_iff_iff]
  simp only [beq_iff_eq, Bool.and_eq_true]
  omega

theorem IdentFreshUnlike : replicalaw06_IdentFreshUnlike.Pure := by
  intro a0 a1 a2 a3 w1 w3
  have b1 := (bounds_u64 w1).1
  have b3 := (bounds_u64 w3).1
  refine ⟨4, ?_⟩
  unfold replicalaw06_IdentFreshUnlike.f
  by_cases h1 : a1 ≥ 576460752303423488
  · rw [if_pos h1]; simp [replicalaw06_IdentFreshUnlike.j0]
  · rw [if_neg h1]
    by_cases h3 : a3 ≥ 576460752303423488
    · simp [replicalaw06_IdentFreshUnlike.j0, h3]
    · have f1 : ∀ n, n = 0 ∨ n = 1 → ident_Fresh.f n a1 = some (32 * a1 + 16 * n + 8) := fun n hn => fresh_of n hn a1 b1 (by omega)
      have f3 : ∀ n, n = 0 ∨ n = 1 → ident_Fresh.f n a3 = some (32 * a3 + 16 * n + 8) := fun n hn => fresh_of n hn a3 b3 (by omega)
      have g10 := f1 0 (.inl rfl)
      have g11 := f1 1 (.inr rfl)
      have g30 := f3 0 (.inl rfl)
      have g31 := f3 1 (.inr rfl)
      have e00 := fresh_eq a1 a3 0 0 (.inl rfl) (.inl rfl)
      have e01 := fresh_eq a1 a3 0 1 (.inl rfl) (.inr rfl)
      have e10 := fresh_eq a1 a3 1 0 (.inr rfl) (.inl rfl)
      have e11 := fresh_eq a1 a3 1 1 (.inr rfl) (.inr rfl)
      simp only [replicalaw06_IdentFreshUnlike.j0, decide_eq_true_eq, if_neg h3]
      cases a0 <;> cases a2 <;> simp only [replicalaw06_IdentFreshUnlike.j1, replicalaw06_IdentFreshUnlike.j2, g10, g11, g30, g31, Option.bind_some, if_true, if_false, Bool.false_eq_true] <;>
        (rw [if_neg (by omega), if_neg (by omega), if_neg (by omega), if_neg (by omega)])
      · rw [e00]; simp
      · rw [e01]; simp
      · rw [e10]; simp
      · rw [e11]; simp

end Go.Proofs.Ytboanmhibbhceaa.Pure
