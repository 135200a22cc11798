/- Numbers behind bytes, of both. -/
import Derived.Test.YtbgfoobcpacfeaaDoorBy
import Derived.Test.YtbgfoobcpacfeaaDoorWSpec
import Derived.Laws.BitsAllLaws
namespace Go.Proofs.YtbgfoobcpacfeaaDoor
open Go.RowKit
set_option linter.unusedVariables false
set_option linter.unusedSimpArgs false

/-- v' is v, grown: of what lay at w only v's own block may have turned; v' lies there or in a new block. -/
structure After (w w' : World) (v v' : Value) : Prop where
  grown : w.grownBy w' v.ownBlock
  at_ : v'.ownBlock = v.ownBlock ∨ ∃ g, v'.ownBlock = some g ∧ w.heap.size ≤ g
theorem After.refl (w : World) (v : Value) : After w w v v := ⟨World.grownBy.refl w _, .inl rfl⟩
theorem After.trans {w w1 w2 : World} {v v1 v2 : Value} (h : After w w1 v v1) (k : After w1 w2 v1 v2) : After w w2 v v2 := by
  have hs := h.grown.size
  refine ⟨⟨k.grown.os.trans h.grown.os, k.grown.tape.trans h.grown.tape, k.grown.output.trans h.grown.output, Nat.le_trans hs k.grown.size, fun i hi hne => ?_⟩, ?_⟩
  · refine (k.grown.block i (by omega) ?_).trans (h.grown.block i hi hne)
    intro e
    rcases h.at_ with e1 | ⟨g, e1, hg⟩
    · exact hne (e.trans e1)
    · rw [e1] at e; injection e with e; omega
  · rcases k.at_ with e2 | ⟨g, e2, hg⟩
    · rw [e2]; exact h.at_
    · exact .inr ⟨g, e2, by omega⟩
theorem After.of {w w' : World} {v v' : Value} (hg : w.grownBy w' v.ownBlock) (ha : v'.ownBlock = v.ownBlock ∨ v'.ownBlock = some w.heap.size) : After w w' v v' :=
  ⟨hg, ha.imp id fun e => ⟨_, e, Nat.le_refl _⟩⟩
theorem After.alloc (w : World) (v : Value) (o : Obj) : After w (w.alloc o) v v := ⟨World.grownBy_alloc w o _, .inl rfl⟩
theorem After.below {w w' : World} (v : Value) (h : Below w.heap.size w w') : After w w' v v := ⟨below_grown h, .inl rfl⟩
/-- Of what lies below B nothing has turned, if v lies from B on. -/
theorem After.belowB {B : Nat} {w w' : World} {v v' : Value} (h : After w w' v v') (hv : ∀ k, v.ownBlock = some k → B ≤ k) (hB : B ≤ w.heap.size) : Below B w w' :=
  (Below.refl B w).grown h.grown hB hv

theorem bv_of (x : Nat) : bv (UInt8.ofNat x) = .int .u8 ((x : Int) % 256) := by
  show Value.int .u8 ((UInt8.ofNat x).toNat : Int) = _
  rw [UInt8.toNat_ofNat']; rfl

theorem be_next (k j x : Nat) : (Wi.be (k + 1 + j) x).take (k + 1) = (Wi.be (k + 1 + j) x).take k ++ [UInt8.ofNat (x >>> (8 * j))] := by
  induction k generalizing j with
  | zero =>
    rw [show 0 + 1 + j = j + 1 by omega]
    simp [Wi.be]
  | succ k ih =>
    have h : k + 1 + 1 + j = (k + 1 + j) + 1 := by omega
    rw [h]
    simp only [Wi.be, List.take_succ_cons, List.cons_append]
    rw [ih]

set_option maxRecDepth 100000 in
set_option maxHeartbeats 4000000 in
theorem put_calls {w : World} {B : Nat} {v : Value} {l : List UInt8} (n x : Nat) (h : OB B w v l) (hB : B ≤ w.heap.size) (hn : n ≤ 8) (hx : x < 18446744073709551616) (hl : l.length + n ≤ 140737488355328) :
    Calls Tryd.prog 51 #[v, .int .i64 n, .int .u64 x] w fun e w' => ∃ v', e = .returned v' ∧ OB B w' v' (l ++ Wi.be n x) ∧ After w w' v v' := by
  go_enter Tryd.func51, Tryd.ntmps51
  go_wp2_with fail
  refine wp_loop_count (fun k a w' => ∃ v' z, z = (n : Int) - 1 - (k : Nat) ∧ (∃ U : Nat → Value, a = ⟨#[v', .int .i64 n, .int .u64 x, U 3, U 4, U 5, .slice none 0 0, .int .i64 z, U 8, U 9, U 10, U 11, U 12, U 13, U 14, U 15, U 16, U 17, U 18, U 19, U 20, U 21, U 22], []⟩) ∧ OB B w' v' (l ++ (Wi.be n x).take k) ∧ After w w' v v') n ⟨v, _, by omega, exU (fun U => ⟨#[v, .int .i64 n, .int .u64 x, U 3, U 4, U 5, .slice none 0 0, .int .i64 ((n : Int) - 1), U 8, U 9, U 10, U 11, U 12, U 13, U 14, U 15, U 16, U 17, U 18, U 19, U 20, U 21, U 22], []⟩) rfl, by simpa using h, After.refl w v⟩ ?_ ?_
  · rintro k a w' hk ⟨v', z, hz, ⟨U, rfl⟩, ho, haf⟩
    obtain ⟨j, rfl⟩ : ∃ j, n = k + 1 + j := ⟨n - (k + 1), by omega⟩
    obtain rfl : z = (j : Int) := by omega
    have Hb := Lib.hid (be_next k j x)
    have hj : (j : Int) < 8 := by omega
    have hj0 : (0 : Int) ≤ (j : Int) := Int.natCast_nonneg j
    have hx0 : (0 : Int) ≤ (x : Int) := Int.natCast_nonneg x
    clear hz
    have Hl : Hid (#[Value.int .u8 ((x : Int) / 2 ^ (8 * j) % 256)] = ([UInt8.ofNat (x >>> (8 * j))].map bv).toArray) := by
      show _ = #[bv _]
      rw [bv_of, Nat.shiftRight_eq_div_pow, Int.natCast_ediv, Int.natCast_pow]; rfl
    have hlen : (l ++ (Wi.be (k + 1 + j) x).take k).length + 1 ≤ 140737488355328 := by
      have := List.length_take_le k (Wi.be (k + 1 + j) x)
      rw [List.length_append]; omega
    have hsz : B ≤ w'.heap.size := Nat.le_trans hB haf.grown.size
    go_wp2_with (first
      | (at_builtin
         refine wpList_append_OB (v := v') rfl (.tmp 14) (.tmp 20) rfl rfl rfl rfl (ho.below (below_alloc1 _ _)) (RB.lit _ _ [UInt8.ofNat (x >>> (8 * j))] 1 Hl.out rfl (by simp)) hlen (by simp; omega) ?_
         intro v1 w1 ho1 hg1 hat1)
      | fail)
    rw [List.append_assoc, ← Hb.out] at ho1
    exact ⟨v1, _, by omega, exU (fun U => ⟨#[v1, .int .i64 (k + 1 + j : Nat), .int .u64 x, U 3, U 4, U 5, .slice none 0 0, .int .i64 ((j : Int) - 1), U 8, U 9, U 10, U 11, U 12, U 13, U 14, U 15, U 16, U 17, U 18, U 19, U 20, U 21, U 22], []⟩) rfl, ho1, (haf.trans (After.alloc _ _ _)).trans (After.of hg1 (by simpa using hat1))⟩
  · rintro a w' ⟨v', z, hz, ⟨U, rfl⟩, ho, haf⟩
    obtain rfl : z = -1 := by omega
    clear hz
    rw [List.take_of_length_le (by rw [Wi.be_length]; exact Nat.le_refl _)] at ho
    go_wp2_with fail
    go_ret
    exact ⟨v', rfl, ho, haf⟩

set_option maxRecDepth 100000 in
set_option maxHeartbeats 4000000 in
theorem refPut_calls {w : World} {B : Nat} {v : Value} {l : List UInt8} (n x : Nat) (h : OB B w v l) (hB : B ≤ w.heap.size) (hn : n ≤ 8) (hx : x < 18446744073709551616) (hl : l.length + n ≤ 140737488355328) :
    Calls Tryd.prog 45 #[v, .int .u64 x, .int .i64 n] w fun e w' => ∃ v', e = .returned v' ∧ OB B w' v' (l ++ Wi.be n x) ∧ After w w' v v' := by
  go_enter Tryd.func45, Tryd.ntmps45
  go_wp2_with fail
  refine wp_loop_count (fun k a w' => ∃ v' z, z = (n : Int) - 1 - (k : Nat) ∧ (∃ U : Nat → Value, a = ⟨#[v', .int .u64 x, .int .i64 n, U 3, U 4, U 5, .slice none 0 0, .int .i64 z, U 8, U 9, U 10, U 11, U 12, U 13, U 14, U 15, U 16, U 17, U 18, U 19, U 20, U 21, U 22, U 23], []⟩) ∧ OB B w' v' (l ++ (Wi.be n x).take k) ∧ After w w' v v') n ⟨v, _, by omega, exU (fun U => ⟨#[v, .int .u64 x, .int .i64 n, U 3, U 4, U 5, .slice none 0 0, .int .i64 ((n : Int) - 1), U 8, U 9, U 10, U 11, U 12, U 13, U 14, U 15, U 16, U 17, U 18, U 19, U 20, U 21, U 22, U 23], []⟩) rfl, by simpa using h, After.refl w v⟩ ?_ ?_
  · rintro k a w' hk ⟨v', z, hz, ⟨U, rfl⟩, ho, haf⟩
    obtain ⟨j, rfl⟩ : ∃ j, n = k + 1 + j := ⟨n - (k + 1), by omega⟩
    obtain rfl : z = (j : Int) := by omega
    have Hb := Lib.hid (be_next k j x)
    have hj : (j : Int) < 8 := by omega
    have hj0 : (0 : Int) ≤ (j : Int) := Int.natCast_nonneg j
    have hx0 : (0 : Int) ≤ (x : Int) := Int.natCast_nonneg x
    clear hz
    have Hl : Hid (#[Value.int .u8 ((x : Int) / 2 ^ (8 * j) % 256)] = ([UInt8.ofNat (x >>> (8 * j))].map bv).toArray) := by
      show _ = #[bv _]
      rw [bv_of, Nat.shiftRight_eq_div_pow, Int.natCast_ediv, Int.natCast_pow]; rfl
    have hlen : (l ++ (Wi.be (k + 1 + j) x).take k).length + 1 ≤ 140737488355328 := by
      have := List.length_take_le k (Wi.be (k + 1 + j) x)
      rw [List.length_append]; omega
    have hsz : B ≤ w'.heap.size := Nat.le_trans hB haf.grown.size
    go_wp2_with (first
      | (at_builtin
         refine wpList_append_OB (v := v') rfl (.tmp 14) (.tmp 21) rfl rfl rfl rfl (ho.below (below_alloc1 _ _)) (RB.lit _ _ [UInt8.ofNat (x >>> (8 * j))] 1 Hl.out rfl (by simp)) hlen (by simp; omega) ?_
         intro v1 w1 ho1 hg1 hat1)
      | fail)
    rw [List.append_assoc, ← Hb.out] at ho1
    exact ⟨v1, _, by omega, exU (fun U => ⟨#[v1, .int .u64 x, .int .i64 (k + 1 + j : Nat), U 3, U 4, U 5, .slice none 0 0, .int .i64 ((j : Int) - 1), U 8, U 9, U 10, U 11, U 12, U 13, U 14, U 15, U 16, U 17, U 18, U 19, U 20, U 21, U 22, U 23], []⟩) rfl, ho1, (haf.trans (After.alloc _ _ _)).trans (After.of hg1 (by simpa using hat1))⟩
  · rintro a w' ⟨v', z, hz, ⟨U, rfl⟩, ho, haf⟩
    obtain rfl : z = -1 := by omega
    clear hz
    rw [List.take_of_length_le (by rw [Wi.be_length]; exact Nat.le_refl _)] at ho
    go_wp2_with fail
    go_ret
    exact ⟨v', rfl, ho, haf⟩
end Go.Proofs.YtbgfoobcpacfeaaDoor
