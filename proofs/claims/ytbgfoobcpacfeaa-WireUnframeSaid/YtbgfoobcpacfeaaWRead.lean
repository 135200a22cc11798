/- Numbers read out of bytes, of both. -/
import Derived.Test.YtbgfoobcpacfeaaWPut
namespace Go.Proofs.Ytbgfoobcpacfeaa
open Go.RowKit
set_option linter.unusedVariables false
set_option linter.unusedSimpArgs false

theorem or_byte64 {v : Nat} (b : UInt8) (hv : v * 256 < 18446744073709551616) : bits .or .u64 ((v : Int) * 256) (b.toNat : Int) = ((v * 256 + b.toNat : Nat) : Int) := by
  rw [← Wi.or_byte]
  exact u64_or_nat (v * 256) b.toNat hv (by have := b.toNat_lt; omega)
theorem or_byte32 {v : Nat} (b : UInt8) (hv : v * 256 < 4294967296) : bits .or .u32 ((v : Int) * 256) (b.toNat : Int) = ((v * 256 + b.toNat : Nat) : Int) := by
  rw [← Wi.or_byte]
  exact u32_or_nat (v * 256) b.toNat hv (by have := b.toNat_lt; omega)

set_option maxRecDepth 100000 in
set_option maxHeartbeats 4000000 in
theorem big_calls {w : World} {v : Value} {l : List UInt8} (h : RB w v l) (hl : l.length ≤ 8) : Pur Try.prog 23 #[v] w (.int .u64 (Wi.unbe l : Nat)) := by
  unfold Pur
  obtain ⟨p, c, rfl, h1, h2, h3, hr⟩ := h
  go_enter Try.func23, Try.ntmps23
  go_wp2_with fail
  refine wp_loop_count (fun i a w' => (∃ U : Nat → Value, a = ⟨#[.slice p l.length c, U 1, .int .u64 0, .int .u64 (Wi.unbe (l.take i) : Nat), U 4, U 5, .slice p l.length c, .int .i64 l.length, .int .i64 i, U 9, U 10, U 11, U 12, U 13, U 14, U 15, U 16, U 17, U 18], []⟩) ∧ w' = w) l.length ⟨exU (fun U => ⟨#[.slice p l.length c, U 1, .int .u64 0, .int .u64 0, U 4, U 5, .slice p l.length c, .int .i64 l.length, .int .i64 0, U 9, U 10, U 11, U 12, U 13, U 14, U 15, U 16, U 17, U 18], []⟩) rfl, rfl⟩ ?_ ?_
  · rintro i a w' hi ⟨⟨U, rfl⟩, rfl⟩
    obtain ⟨b, hb⟩ : ∃ b, l[i]? = some b := ⟨l[i], List.getElem?_eq_getElem hi⟩
    obtain ⟨g, o, rfl, hg, hcell⟩ := hr i b hb
    have hi' : (i : Int) < (l.length : Int) := by exact_mod_cast hi
    have hi0 : (0 : Int) ≤ (i : Int) := Int.natCast_nonneg i
    have hv := Wi.unbe_take_lt l i
    have hv8 : (256 : Nat) ^ i ≤ 256 ^ 7 := Nat.pow_le_pow_right (by decide) (by omega)
    have Hn := Lib.hid (show Wi.unbe (l.take (i + 1)) = Wi.unbe (l.take i) * 256 + b.toNat by rw [Wi.take_next hb, Wi.unbe_snoc])
    generalize Wi.unbe (l.take i) = x at *
    have hx : x * 256 < 18446744073709551616 := by omega
    have hxI : (x : Int) * 256 < 18446744073709551616 := by omega
    have hx0 : (0 : Int) ≤ (x : Int) := Int.natCast_nonneg x
    have hb8 := b.toNat_lt
    have hor := or_byte64 b hx
    clear hr hb hv hv8
    go_wp2_with fail
    rw [Hn.out]
    exact ⟨exU (fun U => ⟨#[.slice (some ⟨g, o, none⟩) l.length c, U 1, .int .u64 0, .int .u64 (x * 256 + b.toNat : Nat), U 4, U 5, .slice (some ⟨g, o, none⟩) l.length c, .int .i64 l.length, .int .i64 (i + 1 : Nat), U 9, U 10, U 11, U 12, U 13, U 14, U 15, U 16, U 17, U 18], []⟩) rfl, trivial⟩
  · rintro a w' ⟨⟨U, rfl⟩, rfl⟩
    rw [List.take_length]
    go_wp2_with fail
    go_ret
    exact ⟨rfl, Below.refl _ _⟩

set_option maxRecDepth 100000 in
set_option maxHeartbeats 4000000 in
theorem four_calls {w : World} {v : Value} {l : List UInt8} (at_ : Nat) (h : RB w v l) (hl : at_ + 4 ≤ l.length) : Pur Try.prog 26 #[v, .int .i64 at_] w (.int .u32 (Wi.unbe ((l.drop at_).take 4) : Nat)) := by
  unfold Pur
  obtain ⟨p, c, rfl, h1, h2, h3, hr⟩ := h
  go_enter Try.func26, Try.ntmps26
  go_wp2_with fail
  refine wp_loop_count (fun i a w' => (∃ U : Nat → Value, a = ⟨#[.slice p l.length c, .int .i64 at_, U 2, U 3, .int .u32 0, .int .u32 (Wi.unbe ((l.drop at_).take i) : Nat), .int .i64 i, U 7, U 8, U 9, U 10, U 11, U 12, U 13, U 14, U 15, U 16, U 17, U 18, U 19, U 20, U 21], []⟩) ∧ w' = w) 4 ⟨exU (fun U => ⟨#[.slice p l.length c, .int .i64 at_, U 2, U 3, .int .u32 0, .int .u32 0, .int .i64 0, U 7, U 8, U 9, U 10, U 11, U 12, U 13, U 14, U 15, U 16, U 17, U 18, U 19, U 20, U 21], []⟩) rfl, rfl⟩ ?_ ?_
  · rintro i a w' hi ⟨⟨U, rfl⟩, rfl⟩
    obtain ⟨b, hb⟩ : ∃ b, l[at_ + i]? = some b := ⟨l[at_ + i], List.getElem?_eq_getElem (by omega)⟩
    obtain ⟨g, o, rfl, hg, hcell⟩ := hr _ b hb
    have hb2 : (l.drop at_)[i]? = some b := by rw [List.getElem?_drop]; exact hb
    have hi' : (i : Int) < 4 := by exact_mod_cast hi
    have hi0 : (0 : Int) ≤ (i : Int) := Int.natCast_nonneg i
    have hat : (at_ : Int) + (i : Int) < (l.length : Int) := by omega
    have hat0 : (0 : Int) ≤ (at_ : Int) := Int.natCast_nonneg at_
    have hv := Wi.unbe_take_lt (l.drop at_) i
    have hv8 : (256 : Nat) ^ i ≤ 256 ^ 3 := Nat.pow_le_pow_right (by decide) (by omega)
    have Hn := Lib.hid (show Wi.unbe ((l.drop at_).take (i + 1)) = Wi.unbe ((l.drop at_).take i) * 256 + b.toNat by rw [Wi.take_next hb2, Wi.unbe_snoc])
    generalize Wi.unbe ((l.drop at_).take i) = x at *
    have hx : x * 256 < 4294967296 := by omega
    have hxI : (x : Int) * 256 < 4294967296 := by omega
    have hx0 : (0 : Int) ≤ (x : Int) := Int.natCast_nonneg x
    have hb8 := b.toNat_lt
    have hor := or_byte32 b hx
    clear hr hb hb2 hv hv8
    go_wp2_with fail
    rw [Hn.out]
    exact ⟨exU (fun U => ⟨#[.slice (some ⟨g, o, none⟩) l.length c, .int .i64 at_, U 2, U 3, .int .u32 0, .int .u32 (x * 256 + b.toNat : Nat), .int .i64 (i + 1 : Nat), U 7, U 8, U 9, U 10, U 11, U 12, U 13, U 14, U 15, U 16, U 17, U 18, U 19, U 20, U 21], []⟩) rfl, trivial⟩
  · rintro a w' ⟨⟨U, rfl⟩, rfl⟩
    go_wp2_with fail
    go_ret
    exact ⟨rfl, Below.refl _ _⟩
end Go.Proofs.Ytbgfoobcpacfeaa
