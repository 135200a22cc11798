/- The sum of bytes, of both. -/
import Derived.Test.YtbgfoobcpacfeaaBy
import Derived.Test.YtbgfoobcpacfeaaWSpec
import Derived.Laws.BitsAllLaws
namespace Go.Proofs.Ytbgfoobcpacfeaa
open Go.RowKit
set_option linter.unusedVariables false
set_option linter.unusedSimpArgs false

theorem not32 (c : Nat) (hc : c < 4294967296) : bits .xor .u32 IntKind.u32.max (c : Int) = ((4294967295 - c : Nat) : Int) := by
  have h := u32_xor_nat 4294967295 c (by omega) hc
  have e : (IntKind.u32.max) = ((4294967295 : Nat) : Int) := by decide
  rw [e, h]
  have h2 : 4294967295 ^^^ c = 4294967295 - c := by
    apply Nat.eq_of_testBit_eq
    intro i
    rw [Nat.testBit_xor, show (4294967295 : Nat) = 2 ^ 32 - 1 by rfl, Nat.testBit_two_pow_sub_one, show 2 ^ 32 - 1 - c = 2 ^ 32 - (c + 1) by omega, Nat.testBit_two_pow_sub_succ (by omega)]
    by_cases hi : i < 32 <;> simp [hi]
    exact Nat.testBit_lt_two_pow (Nat.lt_of_lt_of_le (show c < 2 ^ 32 from hc) (Nat.pow_le_pow_right (by decide) (by omega)))
  rw [h2]
theorem not32' (c : Nat) (hc : c < 4294967296) : bits .xor .u32 (c : Int) 4294967295 = ((4294967295 - c : Nat) : Int) := by
  have h := not32 c hc
  have h1 := u32_xor_nat 4294967295 c (by omega) hc
  have h2 := u32_xor_nat c 4294967295 hc (by omega)
  rw [Nat.xor_comm] at h2
  have e : (IntKind.u32.max) = ((4294967295 : Nat) : Int) := by decide
  rw [e, h1] at h
  exact h2.trans h
theorem and1_32 (x : Nat) (hx : x < 4294967296) : bits .and .u32 (x : Int) 1 = ((x % 2 : Nat) : Int) := by
  have h := u32_and_nat x 1 hx (by omega)
  rw [Nat.and_one_is_mod] at h
  exact h

set_option maxRecDepth 100000 in
set_option maxHeartbeats 4000000 in
theorem crcMore_calls {w : World} {v : Value} {l : List UInt8} (c : Nat) (hc : c < 4294967296) (h : RB w v l) : Pur Try.prog 27 #[.int .u32 c, v] w (.int .u32 (Wi.crcMore c l : Nat)) := by
  unfold Pur
  obtain ⟨p, cp, rfl, h1, h2, h3, hr⟩ := h
  have hsg : IntKind.u32.signed = false := rfl
  have hn := not32 c hc
  go_enter Try.func27, Try.ntmps27
  go_wp2_with fail
  refine wp_loop_count (fun i a w' => (∃ U : Nat → Value, a = ⟨#[.int .u32 c, .slice p l.length cp, U 2, U 3, .int .u32 0, .int .u32 (Wi.crcFold (4294967295 - c) (l.take i) : Nat), U 6, U 7, U 8, U 9, .slice p l.length cp, .int .i64 l.length, .int .i64 i, U 13, U 14, U 15, U 16, U 17, U 18, U 19, U 20, U 21, U 22, U 23, U 24, U 25, U 26, U 27, U 28, U 29, U 30, U 31, U 32, U 33], []⟩) ∧ w' = w) l.length ⟨exU (fun U => ⟨#[.int .u32 c, .slice p l.length cp, U 2, U 3, .int .u32 0, .int .u32 (4294967295 - c : Nat), U 6, U 7, U 8, U 9, .slice p l.length cp, .int .i64 l.length, .int .i64 0, U 13, U 14, U 15, U 16, U 17, U 18, U 19, U 20, U 21, U 22, U 23, U 24, U 25, U 26, U 27, U 28, U 29, U 30, U 31, U 32, U 33], []⟩) rfl, rfl⟩ ?_ ?_
  · rintro i a w' hi ⟨⟨U, rfl⟩, rfl⟩
    obtain ⟨b, hb⟩ : ∃ b, l[i]? = some b := ⟨l[i], List.getElem?_eq_getElem hi⟩
    obtain ⟨g, o, rfl, hg, hcell⟩ := hr i b hb
    have hx := Wi.crcFold_lt (x := 4294967295 - c) (by omega) (l.take i)
    have hnext : Wi.crcFold (4294967295 - c) (l.take (i + 1)) = Wi.crcByte (Wi.crcFold (4294967295 - c) (l.take i)) b := by rw [Wi.take_next hb, Wi.crcFold_snoc]
    have Hn := Lib.hid hnext
    clear hnext hb hr hn
    generalize Wi.crcFold (4294967295 - c) (l.take i) = x at *
    have hb8 := b.toNat_lt
    have hxor := u32_xor_nat x b.toNat hx (by omega)
    have hi' : (i : Int) < (l.length : Int) := by exact_mod_cast hi
    have hi0 : (0 : Int) ≤ (i : Int) := Int.natCast_nonneg i
    go_wp2_with fail
    have hy : x ^^^ b.toNat < 4294967296 := Nat.xor_lt_two_pow (n := 32) (by omega) (by omega)
    have Hb : Hid (Wi.crcByte x b = Wi.crcBits 8 (x ^^^ b.toNat)) := rfl
    clear hxor
    generalize x ^^^ b.toNat = y at *
    refine wp_loop_count (fun k a w1 => (∃ U : Nat → Value, a = ⟨#[.int .u32 c, .slice (some ⟨g, o, none⟩) l.length cp, U 2, U 3, .int .u32 0, .int .u32 (Wi.crcBits k y : Nat), U 6, U 7, U 8, U 9, .slice (some ⟨g, o, none⟩) l.length cp, .int .i64 l.length, .int .i64 i, U 13, U 14, U 15, U 16, U 17, U 18, U 19, .int .i64 k, U 21, U 22, U 23, U 24, U 25, U 26, U 27, U 28, U 29, U 30, U 31, U 32, U 33], []⟩) ∧ w1 = w') 8 ⟨exU (fun U => ⟨#[.int .u32 c, .slice (some ⟨g, o, none⟩) l.length cp, U 2, U 3, .int .u32 0, .int .u32 (Wi.crcBits 0 y : Nat), U 6, U 7, U 8, U 9, .slice (some ⟨g, o, none⟩) l.length cp, .int .i64 l.length, .int .i64 i, U 13, U 14, U 15, U 16, U 17, U 18, U 19, .int .i64 0, U 21, U 22, U 23, U 24, U 25, U 26, U 27, U 28, U 29, U 30, U 31, U 32, U 33], []⟩) rfl, rfl⟩ ?_ ?_
    · rintro k a w1 hk ⟨⟨U, rfl⟩, rfl⟩
      have hz := Wi.crcBits_lt hy k
      have Hz : Hid (Wi.crcBits (k + 1) y = Wi.crcBit (Wi.crcBits k y)) := rfl
      generalize Wi.crcBits k y = z at *
      have hk' : (k : Int) < 8 := by exact_mod_cast hk
      have hk0 : (0 : Int) ≤ (k : Int) := Int.natCast_nonneg k
      have ha := and1_32 z hz
      rcases Nat.mod_two_eq_zero_or_one z with e | e
      · have h3 : ((z : Int) % 2 == 1) = false := by rw [show (z : Int) % 2 = ((z % 2 : Nat) : Int) from rfl, e]; rfl
        have Hc : Hid (Wi.crcBit z = z / 2) := by show _ = _; unfold Wi.crcBit; rw [if_neg (by omega)]
        clear e
        go_wp2_with fail
        rw [Hz.out, Hc.out]
        exact ⟨exU (fun U => ⟨#[.int .u32 c, .slice (some ⟨g, o, none⟩) l.length cp, U 2, U 3, .int .u32 0, .int .u32 (z / 2 : Nat), U 6, U 7, U 8, U 9, .slice (some ⟨g, o, none⟩) l.length cp, .int .i64 l.length, .int .i64 (i), U 13, U 14, U 15, U 16, U 17, U 18, U 19, .int .i64 (k + 1 : Nat), U 21, U 22, U 23, U 24, U 25, U 26, U 27, U 28, U 29, U 30, U 31, U 32, U 33], []⟩) rfl, trivial⟩
      · have h3 : ((z : Int) % 2 == 1) = true := by rw [show (z : Int) % 2 = ((z % 2 : Nat) : Int) from rfl, e]; rfl
        have Hc : Hid (Wi.crcBit z = (z / 2) ^^^ 2197175160) := by show _ = _; unfold Wi.crcBit; rw [if_pos e]
        have hx2 : bits .xor .u32 ((z : Int) / 2) 2197175160 = ((z / 2 ^^^ 2197175160 : Nat) : Int) := u32_xor_nat (z / 2) 2197175160 (by omega) (by omega)
        clear e
        go_wp2_with fail
        rw [Hz.out, Hc.out]
        exact ⟨exU (fun U => ⟨#[.int .u32 c, .slice (some ⟨g, o, none⟩) l.length cp, U 2, U 3, .int .u32 0, .int .u32 (z / 2 ^^^ 2197175160 : Nat), U 6, U 7, U 8, U 9, .slice (some ⟨g, o, none⟩) l.length cp, .int .i64 l.length, .int .i64 (i), U 13, U 14, U 15, U 16, U 17, U 18, U 19, .int .i64 (k + 1 : Nat), U 21, U 22, U 23, U 24, U 25, U 26, U 27, U 28, U 29, U 30, U 31, U 32, U 33], []⟩) rfl, trivial⟩
    · rintro a w1 ⟨⟨U, rfl⟩, rfl⟩
      go_wp2_with fail
      rw [Hn.out, Hb.out]
      exact ⟨exU (fun U => ⟨#[.int .u32 c, .slice (some ⟨g, o, none⟩) l.length cp, U 2, U 3, .int .u32 0, .int .u32 (Wi.crcBits 8 y : Nat), U 6, U 7, U 8, U 9, .slice (some ⟨g, o, none⟩) l.length cp, .int .i64 l.length, .int .i64 (i + 1 : Nat), U 13, U 14, U 15, U 16, U 17, U 18, U 19, U 20, U 21, U 22, U 23, U 24, U 25, U 26, U 27, U 28, U 29, U 30, U 31, U 32, U 33], []⟩) rfl, trivial⟩
  · rintro a w' ⟨⟨U, rfl⟩, rfl⟩
    rw [List.take_length]
    have hx := Wi.crcFold_lt (x := 4294967295 - c) (by omega) l
    have hm := not32 _ hx
    clear hn
    go_wp2_with fail
    go_ret
    exact ⟨ret_int (by unfold Wi.crcMore; rfl), Below.refl _ _⟩

set_option maxRecDepth 100000 in
set_option maxHeartbeats 4000000 in
theorem crc_calls {w : World} {v : Value} {l : List UInt8} (h : RB w v l) : Pur Try.prog 19 #[v] w (.int .u32 (Wi.crcMore 0 l : Nat)) := by
  unfold Pur
  have hc := crcMore_calls 0 (by decide) h
  obtain ⟨p, cp, rfl, h1, h2, h3, hr⟩ := h
  go_enter Try.func19, Try.ntmps19
  go_wp2_with (first | (go_at_call 27; refine hc.out.mono ?_; rintro e w1 ⟨rfl, hb1⟩) | fail)
  go_ret
  exact ⟨rfl, hb1⟩

set_option maxRecDepth 100000 in
set_option maxHeartbeats 4000000 in
theorem refCrcMore_calls {w : World} {v : Value} {l : List UInt8} (c : Nat) (hc : c < 4294967296) (h : RB w v l) : Pur Try.prog 28 #[.int .u32 c, v] w (.int .u32 (Wi.crcMore c l : Nat)) := by
  unfold Pur
  obtain ⟨p, cp, rfl, h1, h2, h3, hr⟩ := h
  have hsg : IntKind.u32.signed = false := rfl
  have hn := not32' c hc
  go_enter Try.func28, Try.ntmps28
  go_wp2_with fail
  refine wp_loop_count (fun i a w' => (∃ U : Nat → Value, a = ⟨#[.int .u32 c, .slice p l.length cp, U 2, U 3, .int .u32 0, .int .u32 (Wi.crcFold (4294967295 - c) (l.take i) : Nat), .int .i64 i, U 7, U 8, U 9, U 10, U 11, U 12, U 13, U 14, U 15, U 16, U 17, U 18, U 19, U 20, U 21, U 22, U 23, U 24, U 25, U 26, U 27, U 28, U 29, U 30, U 31, U 32, U 33, U 34, U 35, U 36], []⟩) ∧ w' = w) l.length ⟨exU (fun U => ⟨#[.int .u32 c, .slice p l.length cp, U 2, U 3, .int .u32 0, .int .u32 (4294967295 - c : Nat), .int .i64 0, U 7, U 8, U 9, U 10, U 11, U 12, U 13, U 14, U 15, U 16, U 17, U 18, U 19, U 20, U 21, U 22, U 23, U 24, U 25, U 26, U 27, U 28, U 29, U 30, U 31, U 32, U 33, U 34, U 35, U 36], []⟩) rfl, rfl⟩ ?_ ?_
  · rintro i a w' hi ⟨⟨U, rfl⟩, rfl⟩
    obtain ⟨b, hb⟩ : ∃ b, l[i]? = some b := ⟨l[i], List.getElem?_eq_getElem hi⟩
    obtain ⟨g, o, rfl, hg, hcell⟩ := hr i b hb
    have hx := Wi.crcFold_lt (x := 4294967295 - c) (by omega) (l.take i)
    have hnext : Wi.crcFold (4294967295 - c) (l.take (i + 1)) = Wi.crcByte (Wi.crcFold (4294967295 - c) (l.take i)) b := by rw [Wi.take_next hb, Wi.crcFold_snoc]
    have Hn := Lib.hid hnext
    clear hnext hb hr hn
    generalize Wi.crcFold (4294967295 - c) (l.take i) = x at *
    have hb8 := b.toNat_lt
    have hxor := u32_xor_nat x b.toNat hx (by omega)
    have hi' : (i : Int) < (l.length : Int) := by exact_mod_cast hi
    have hi0 : (0 : Int) ≤ (i : Int) := Int.natCast_nonneg i
    go_wp2_with fail
    have hy : x ^^^ b.toNat < 4294967296 := Nat.xor_lt_two_pow (n := 32) (by omega) (by omega)
    have Hb : Hid (Wi.crcByte x b = Wi.crcBits 8 (x ^^^ b.toNat)) := rfl
    clear hxor
    generalize x ^^^ b.toNat = y at *
    refine wp_loop_count (fun k a w1 => (∃ U : Nat → Value, a = ⟨#[.int .u32 c, .slice (some ⟨g, o, none⟩) l.length cp, U 2, U 3, .int .u32 0, .int .u32 (Wi.crcBits k y : Nat), .int .i64 i, .int .i64 k, U 8, U 9, U 10, U 11, U 12, U 13, U 14, U 15, U 16, U 17, U 18, U 19, U 20, U 21, U 22, U 23, U 24, U 25, U 26, U 27, U 28, U 29, U 30, U 31, U 32, U 33, U 34, U 35, U 36], []⟩) ∧ w1 = w') 8 ⟨exU (fun U => ⟨#[.int .u32 c, .slice (some ⟨g, o, none⟩) l.length cp, U 2, U 3, .int .u32 0, .int .u32 (Wi.crcBits 0 y : Nat), .int .i64 i, .int .i64 0, U 8, U 9, U 10, U 11, U 12, U 13, U 14, U 15, U 16, U 17, U 18, U 19, U 20, U 21, U 22, U 23, U 24, U 25, U 26, U 27, U 28, U 29, U 30, U 31, U 32, U 33, U 34, U 35, U 36], []⟩) rfl, rfl⟩ ?_ ?_
    · rintro k a w1 hk ⟨⟨U, rfl⟩, rfl⟩
      have hz := Wi.crcBits_lt hy k
      have Hz : Hid (Wi.crcBits (k + 1) y = Wi.crcBit (Wi.crcBits k y)) := rfl
      generalize Wi.crcBits k y = z at *
      have hk' : (k : Int) < 8 := by exact_mod_cast hk
      have hk0 : (0 : Int) ≤ (k : Int) := Int.natCast_nonneg k
      have ha := and1_32 z hz
      rcases Nat.mod_two_eq_zero_or_one z with e | e
      · have h3 : ((z : Int) % 2 == 1) = false := by rw [show (z : Int) % 2 = ((z % 2 : Nat) : Int) from rfl, e]; rfl
        have Hc : Hid (Wi.crcBit z = z / 2) := by show _ = _; unfold Wi.crcBit; rw [if_neg (by omega)]
        clear e
        go_wp2_with fail
        rw [Hz.out, Hc.out]
        exact ⟨exU (fun U => ⟨#[.int .u32 c, .slice (some ⟨g, o, none⟩) l.length cp, U 2, U 3, .int .u32 0, .int .u32 (z / 2 : Nat), .int .i64 i, .int .i64 (k + 1 : Nat), U 8, U 9, U 10, U 11, U 12, U 13, U 14, U 15, U 16, U 17, U 18, U 19, U 20, U 21, U 22, U 23, U 24, U 25, U 26, U 27, U 28, U 29, U 30, U 31, U 32, U 33, U 34, U 35, U 36], []⟩) rfl, trivial⟩
      · have h3 : ((z : Int) % 2 == 1) = true := by rw [show (z : Int) % 2 = ((z % 2 : Nat) : Int) from rfl, e]; rfl
        have Hc : Hid (Wi.crcBit z = (z / 2) ^^^ 2197175160) := by show _ = _; unfold Wi.crcBit; rw [if_pos e]
        have hx2 : bits .xor .u32 ((z : Int) / 2) 2197175160 = ((z / 2 ^^^ 2197175160 : Nat) : Int) := u32_xor_nat (z / 2) 2197175160 (by omega) (by omega)
        clear e
        go_wp2_with fail
        rw [Hz.out, Hc.out]
        exact ⟨exU (fun U => ⟨#[.int .u32 c, .slice (some ⟨g, o, none⟩) l.length cp, U 2, U 3, .int .u32 0, .int .u32 (z / 2 ^^^ 2197175160 : Nat), .int .i64 i, .int .i64 (k + 1 : Nat), U 8, U 9, U 10, U 11, U 12, U 13, U 14, U 15, U 16, U 17, U 18, U 19, U 20, U 21, U 22, U 23, U 24, U 25, U 26, U 27, U 28, U 29, U 30, U 31, U 32, U 33, U 34, U 35, U 36], []⟩) rfl, trivial⟩
    · rintro a w1 ⟨⟨U, rfl⟩, rfl⟩
      go_wp2_with fail
      rw [Hn.out, Hb.out]
      exact ⟨exU (fun U => ⟨#[.int .u32 c, .slice (some ⟨g, o, none⟩) l.length cp, U 2, U 3, .int .u32 0, .int .u32 (Wi.crcBits 8 y : Nat), .int .i64 (i + 1 : Nat), U 7, U 8, U 9, U 10, U 11, U 12, U 13, U 14, U 15, U 16, U 17, U 18, U 19, U 20, U 21, U 22, U 23, U 24, U 25, U 26, U 27, U 28, U 29, U 30, U 31, U 32, U 33, U 34, U 35, U 36], []⟩) rfl, trivial⟩
  · rintro a w' ⟨⟨U, rfl⟩, rfl⟩
    rw [List.take_length]
    have hx := Wi.crcFold_lt (x := 4294967295 - c) (by omega) l
    have hm := not32' _ hx
    clear hn
    go_wp2_with fail
    go_ret
    exact ⟨ret_int (by unfold Wi.crcMore; rfl), Below.refl _ _⟩

set_option maxRecDepth 100000 in
set_option maxHeartbeats 4000000 in
theorem refCrc_calls {w : World} {v : Value} {l : List UInt8} (h : RB w v l) : Pur Try.prog 21 #[v] w (.int .u32 (Wi.crcMore 0 l : Nat)) := by
  unfold Pur
  have hc := refCrcMore_calls 0 (by decide) h
  obtain ⟨p, cp, rfl, h1, h2, h3, hr⟩ := h
  go_enter Try.func21, Try.ntmps21
  go_wp2_with (first | (go_at_call 28; refine hc.out.mono ?_; rintro e w1 ⟨rfl, hb1⟩) | fail)
  go_ret
  exact ⟨rfl, hb1⟩
end Go.Proofs.Ytbgfoobcpacfeaa
