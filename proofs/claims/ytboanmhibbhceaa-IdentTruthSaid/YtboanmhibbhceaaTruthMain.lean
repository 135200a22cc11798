/- IdentTruth holds in every play. (Printed by wip/mkends.py.) -/
import Derived.Test.YtboanmhibbhceaaTruthTake
namespace Go.Proofs.Ytboanmhibbhceaa
open Go.RowKit
set_option linter.unusedVariables false
set_option linter.unusedSimpArgs false

def sNew : Truth.St := ⟨⟨⟨4, 0, 0, 0⟩, false, []⟩, ⟨⟨4, 0, 0, 0⟩, false, []⟩, 0, 0, -1, false, false⟩
def sOne (x : Int) : Truth.St := ⟨⟨⟨x, 0, 0, 0⟩, true, []⟩, ⟨⟨x, 0, 0, 0⟩, true, []⟩, 0, 0, -1, false, false⟩
theorem inv_new : Inv2 0 sNew :=
  ⟨⟨.inr (.inr (.inr (.inr (.inr (.inr ⟨rfl, rfl, rfl, rfl, rfl, rfl⟩))))), .inl rfl, ⟨.inl (by decide), .inl (by decide), .inl (by decide), .inl (by decide)⟩, ⟨.inl (by decide), .inl (by decide), .inl (by decide), .inl (by decide)⟩, (fun x hx => by cases hx), (fun x hx => by cases hx)⟩, by decide, by decide, by decide, by decide, by decide, by decide⟩
theorem inv_one {x : Int} (h0 : x ≠ 0) (h16 : x % 16 = 0) : Inv2 0 (sOne x) := by
  have hk : Truth.known 0 x := .inl (by omega)
  have h4 : x ≠ 4 := by omega
  exact ⟨⟨.inl ⟨rfl, rfl, rfl, rfl, rfl, ⟨h0, h4⟩, fun _ => Iff.rfl⟩, .inl rfl, ⟨hk, Truth.known_zero, Truth.known_zero, Truth.known_zero⟩, ⟨hk, Truth.known_zero, Truth.known_zero, Truth.known_zero⟩, (fun x hx => by cases hx), (fun x hx => by cases hx)⟩, by show (0 : Int) ≤ 0; decide, by show (0 : Int) ≤ 0; decide, by show (0 : Int) ≤ 0; decide, by show (0 : Int) ≤ 0; decide, by show ((0 : Nat) : Int) ≤ 0; decide, by show ((0 : Nat) : Int) ≤ 0; decide⟩

theorem ps_first (w : World) (s : Truth.St) (ea : s.a.has = []) (eb : s.b.has = []) : PS w.heap.size w.heap.size w s (w.alloc (.cells (pcells s (.slice none 0 0) (.slice none 0 0)) 52)) (.slice none 0 0) (.slice none 0 0) :=
  ⟨below_alloc1 _ _, Nat.le_refl _, by simp, heap_new _ _ _ rfl, by rw [ea]; exact World.ownsRow_nil _ _ _ _, by rw [eb]; exact World.ownsRow_nil _ _ _ _, (fun e => by cases e), (fun e => by cases e), fun k e => by cases e⟩

/-- The play's deeds lie in memory. -/
def Deeds (w : World) (pa : Option Addr) (n : Nat) : Prop := ∀ i, i < n → ∃ g off, pa = some ⟨g, off, none⟩ ∧ g < w.heap.size ∧ ∃ kd nd, w.cell? ⟨g, off + i * 2, none⟩ = some (.int .i64 kd) ∧ w.cell? ⟨g, off + i * 2 + 1, none⟩ = some (.int .i64 nd)

set_option maxRecDepth 100000 in
set_option maxHeartbeats 40000000 in
theorem identTruth_new (first : Int) (pa : Option Addr) (n cp : Nat) (w : World) (hn : n ≤ 8796093022208) (hD : Deeds w pa n) : Pur Try.prog 7 #[.bool true, .int .u64 first, .slice pa n cp] w (.bool true) := by
  unfold Pur
  have h := ps_first w sNew rfl rfl
  have hv : Truth.verdict sNew.a sNew.b = (0, 1, 0) := rfl
  have hi := inv_new
  go_enter Try.func7, Try.ntmps7
  go_wp2_with (first
      | (go_at_call 24; refine (verdict_calls_p h hv (by decide)).out.mono ?_; rintro e w1 ⟨rfl, hb1⟩; have h1 := h.grow hb1; have h2 := h1.grow (below_alloc1 w1 (.cells (verC 0 1) 34)))
      | fail)
  refine wp_loop_count (fun i a w' => (∃ U : Nat → Value, a = ⟨#[.bool true, .int .u64 first, .slice pa n cp, U 3, U 4, U 5, .bool false, .pointer (some ⟨w.heap.size, 0, none⟩), U 8, U 9, .int .i64 i, U 11, U 12, U 13, U 14, U 15, U 16, U 17, U 18, U 19, U 20, U 21, U 22, U 23, U 24, U 25, U 26, U 27, U 28, U 29, U 30, U 31, U 32, U 33, U 34, U 35, U 36, U 37, U 38, U 39, U 40, U 41, U 42, U 43, U 44, U 45, U 46, U 47, U 48, U 49, U 50, U 51, U 52, U 53, U 54, U 55, U 56, U 57, U 58, U 59, U 60, U 61, U 62, U 63, U 64, U 65, U 66, U 67, U 68, U 69, U 70, U 71, U 72, U 73, U 74, U 75, U 76, U 77, U 78, U 79, U 80, U 81, U 82, U 83], []⟩) ∧ Goes w.heap.size w.heap.size w i w') n ⟨exU (fun U => ⟨#[.bool true, .int .u64 first, .slice pa n cp, U 3, U 4, U 5, .bool false, .pointer (some ⟨w.heap.size, 0, none⟩), U 8, U 9, .int .i64 0, U 11, U 12, U 13, U 14, U 15, U 16, U 17, U 18, U 19, U 20, U 21, U 22, U 23, U 24, U 25, U 26, U 27, U 28, U 29, U 30, U 31, U 32, U 33, U 34, U 35, U 36, U 37, U 38, U 39, U 40, U 41, U 42, U 43, U 44, U 45, U 46, U 47, U 48, U 49, U 50, U 51, U 52, U 53, U 54, U 55, U 56, U 57, U 58, U 59, U 60, U 61, U 62, U 63, U 64, U 65, U 66, U 67, U 68, U 69, U 70, U 71, U 72, U 73, U 74, U 75, U 76, U 77, U 78, U 79, U 80, U 81, U 82, U 83], []⟩) rfl, _, _, _, hi, h2⟩ ?_ ?_
  · rintro i a w' hlt ⟨⟨U, rfl⟩, s, v0, v1, i2, hp⟩
    obtain ⟨g, off, rfl, hg, kd, nd, hk, hd⟩ := hD i hlt
    have hbel := hp.below
    have hk' := ((bcell hbel).1 _ _ hg).trans hk
    have hd' := ((bcell hbel).1 _ _ hg).trans hd
    have hi' : (i : Int) < (n : Int) := by exact_mod_cast hlt
    have hi0 : (0 : Int) ≤ (i : Int) := Int.natCast_nonneg i
    have hwr : IntKind.i64.wrap ((i : Int) + 1) = ((i + 1 : Nat) : Int) := by
      rw [IntWalk.i64_in _ ⟨by omega, by omega⟩]; rfl
    clear hk hd hbel
    go_wp2_with (first
      | (go_at_call 25; refine (deed_all i2 (by omega) hp).mono ?_; rintro e w1 ⟨rfl, s', v0', v1', i3, hp3⟩)
      | (go_at_call 26; refine (apart_calls_p hp3 i3.inv.shape).out.mono ?_; rintro e w2 ⟨rfl, hb2⟩; have hp4 := hp3.grow hb2)
      | fail)
    exact ⟨exU (fun U => ⟨#[.bool true, .int .u64 first, .slice (some ⟨g, off, none⟩) n cp, U 3, U 4, U 5, .bool false, .pointer (some ⟨w.heap.size, 0, none⟩), U 8, U 9, .int .i64 (i + 1 : Nat), U 11, U 12, U 13, U 14, U 15, U 16, U 17, U 18, U 19, U 20, U 21, U 22, U 23, U 24, U 25, U 26, U 27, U 28, U 29, U 30, U 31, U 32, U 33, U 34, U 35, U 36, U 37, U 38, U 39, U 40, U 41, U 42, U 43, U 44, U 45, U 46, U 47, U 48, U 49, U 50, U 51, U 52, U 53, U 54, U 55, U 56, U 57, U 58, U 59, U 60, U 61, U 62, U 63, U 64, U 65, U 66, U 67, U 68, U 69, U 70, U 71, U 72, U 73, U 74, U 75, U 76, U 77, U 78, U 79, U 80, U 81, U 82, U 83], []⟩) rfl, _, _, _, (show Inv2 (((i + 1 : Nat)) : Int) s' from i3), hp4⟩
  · rintro a w' ⟨⟨U, rfl⟩, s, v0, v1, i2, hp⟩
    go_wp2_with fail
    go_ret
    exact ⟨rfl, hp.below⟩
set_option maxRecDepth 100000 in
set_option maxHeartbeats 40000000 in
theorem identTruth_one (first : Int) (e0 : (first == 0) = false) (e16 : (first.tmod 16 != 0) = false) (hx : 0 ≤ first) (pa : Option Addr) (n cp : Nat) (w : World) (hn : n ≤ 8796093022208) (hD : Deeds w pa n) : Pur Try.prog 7 #[.bool false, .int .u64 first, .slice pa n cp] w (.bool true) := by
  unfold Pur
  have h0 : first ≠ 0 := by simpa using e0
  have h16 : first % 16 = 0 := by simp only [bne_eq_false_iff_eq] at e16; rw [Int.tmod_eq_emod_of_nonneg hx] at e16; exact e16
  have hok : Truth.ok first := ⟨h0, by omega⟩
  have h := ps_first w (sOne first) rfl rfl
  have hv : Truth.verdict (sOne first).a (sOne first).b = (0, 6, 0) := Truth.Synced.verdict ⟨rfl, rfl, rfl, rfl, rfl, hok, fun _ => Iff.rfl⟩
  have hi := inv_one h0 h16
  go_enter Try.func7, Try.ntmps7
  go_wp2_with (first
      | (go_at_call 24; refine (verdict_calls_p h hv (by decide)).out.mono ?_; rintro e w1 ⟨rfl, hb1⟩; have h1 := h.grow hb1; have h2 := h1.grow (below_alloc1 w1 (.cells (verC 0 6) 34)))
      | fail)
  refine wp_loop_count (fun i a w' => (∃ U : Nat → Value, a = ⟨#[.bool false, .int .u64 first, .slice pa n cp, U 3, U 4, U 5, .bool false, .pointer (some ⟨w.heap.size, 0, none⟩), U 8, U 9, .int .i64 i, U 11, U 12, U 13, U 14, U 15, U 16, U 17, U 18, U 19, U 20, U 21, U 22, U 23, U 24, U 25, U 26, U 27, U 28, U 29, U 30, U 31, U 32, U 33, U 34, U 35, U 36, U 37, U 38, U 39, U 40, U 41, U 42, U 43, U 44, U 45, U 46, U 47, U 48, U 49, U 50, U 51, U 52, U 53, U 54, U 55, U 56, U 57, U 58, U 59, U 60, U 61, U 62, U 63, U 64, U 65, U 66, U 67, U 68, U 69, U 70, U 71, U 72, U 73, U 74, U 75, U 76, U 77, U 78, U 79, U 80, U 81, U 82, U 83], []⟩) ∧ Goes w.heap.size w.heap.size w i w') n ⟨exU (fun U => ⟨#[.bool false, .int .u64 first, .slice pa n cp, U 3, U 4, U 5, .bool false, .pointer (some ⟨w.heap.size, 0, none⟩), U 8, U 9, .int .i64 0, U 11, U 12, U 13, U 14, U 15, U 16, U 17, U 18, U 19, U 20, U 21, U 22, U 23, U 24, U 25, U 26, U 27, U 28, U 29, U 30, U 31, U 32, U 33, U 34, U 35, U 36, U 37, U 38, U 39, U 40, U 41, U 42, U 43, U 44, U 45, U 46, U 47, U 48, U 49, U 50, U 51, U 52, U 53, U 54, U 55, U 56, U 57, U 58, U 59, U 60, U 61, U 62, U 63, U 64, U 65, U 66, U 67, U 68, U 69, U 70, U 71, U 72, U 73, U 74, U 75, U 76, U 77, U 78, U 79, U 80, U 81, U 82, U 83], []⟩) rfl, _, _, _, hi, h2⟩ ?_ ?_
  · rintro i a w' hlt ⟨⟨U, rfl⟩, s, v0, v1, i2, hp⟩
    obtain ⟨g, off, rfl, hg, kd, nd, hk, hd⟩ := hD i hlt
    have hbel := hp.below
    have hk' := ((bcell hbel).1 _ _ hg).trans hk
    have hd' := ((bcell hbel).1 _ _ hg).trans hd
    have hi' : (i : Int) < (n : Int) := by exact_mod_cast hlt
    have hi0 : (0 : Int) ≤ (i : Int) := Int.natCast_nonneg i
    have hwr : IntKind.i64.wrap ((i : Int) + 1) = ((i + 1 : Nat) : Int) := by
      rw [IntWalk.i64_in _ ⟨by omega, by omega⟩]; rfl
    clear hk hd hbel
    go_wp2_with (first
      | (go_at_call 25; refine (deed_all i2 (by omega) hp).mono ?_; rintro e w1 ⟨rfl, s', v0', v1', i3, hp3⟩)
      | (go_at_call 26; refine (apart_calls_p hp3 i3.inv.shape).out.mono ?_; rintro e w2 ⟨rfl, hb2⟩; have hp4 := hp3.grow hb2)
      | fail)
    exact ⟨exU (fun U => ⟨#[.bool false, .int .u64 first, .slice (some ⟨g, off, none⟩) n cp, U 3, U 4, U 5, .bool false, .pointer (some ⟨w.heap.size, 0, none⟩), U 8, U 9, .int .i64 (i + 1 : Nat), U 11, U 12, U 13, U 14, U 15, U 16, U 17, U 18, U 19, U 20, U 21, U 22, U 23, U 24, U 25, U 26, U 27, U 28, U 29, U 30, U 31, U 32, U 33, U 34, U 35, U 36, U 37, U 38, U 39, U 40, U 41, U 42, U 43, U 44, U 45, U 46, U 47, U 48, U 49, U 50, U 51, U 52, U 53, U 54, U 55, U 56, U 57, U 58, U 59, U 60, U 61, U 62, U 63, U 64, U 65, U 66, U 67, U 68, U 69, U 70, U 71, U 72, U 73, U 74, U 75, U 76, U 77, U 78, U 79, U 80, U 81, U 82, U 83], []⟩) rfl, _, _, _, (show Inv2 (((i + 1 : Nat)) : Int) s' from i3), hp4⟩
  · rintro a w' ⟨⟨U, rfl⟩, s, v0, v1, i2, hp⟩
    go_wp2_with fail
    go_ret
    exact ⟨rfl, hp.below⟩
end Go.Proofs.Ytboanmhibbhceaa
