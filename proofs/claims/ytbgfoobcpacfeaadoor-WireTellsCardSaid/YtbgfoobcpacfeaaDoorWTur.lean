/- turned: bits turned in a copy. -/
import Derived.Test.YtbgfoobcpacfeaaDoorPk8
import Derived.Test.YtbgfoobcpacfeaaDoorWPt
namespace Go.Proofs.YtbgfoobcpacfeaaDoor
open Go.RowKit
set_option maxRecDepth 100000
set_option linter.unusedVariables false
set_option linter.unusedSimpArgs false

theorem u32_and_one (x : Nat) (hx : x < 4294967296) : bits .and .u32 (x : Int) 1 = ((x % 2 : Nat) : Int) := by
  show IntKind.u32.wrap ((BitVec.ofInt 32 (x : Int) &&& BitVec.ofInt 32 ((1 : Nat) : Int)).toNat : Int) = _
  rw [BitVec.toNat_and, BitVec.ofInt_natCast, BitVec.ofInt_natCast, BitVec.toNat_ofNat, BitVec.toNat_ofNat, Nat.mod_eq_of_lt (by omega : x < 2 ^ 32), show 1 % 2 ^ 32 = 1 by decide, Nat.and_one_is_mod]
  simp only [IntKind.wrap, IntKind.bits, IntKind.signed]
  simp
  omega

/-- The loop of 'turned', behind j places. -/
def TurI (w1 : World) (A at_ mask lo hi g n cap : Nat) (b : List UInt8) (j : Nat) (a : Act) (w' : World) : Prop := (∃ U : Nat → Value, a = ⟨#[U 0, .int .i64 at_, .int .u32 mask, .int .i64 lo, .int .i64 hi, U 5, U 6, U 7, U 8, U 9, .slice none 0 0, .int .i64 0, .slice (some ⟨g, 0, none⟩) n cap, .int .i64 ((Wi.tur b at_ mask lo hi j).2.1 : Nat), .int .i64 (j : Nat), U 15, U 16, U 17, U 18, U 19, U 20, U 21, U 22, U 23, U 24, U 25, U 26, U 27, U 28, U 29, U 30, U 31, U 32, U 33, U 34, U 35, U 36, U 37, U 38, U 39, U 40, U 41, U 42, U 43, U 44, U 45, U 46, U 47, U 48, U 49, U 50, U 51, U 52, U 53, U 54, U 55, U 56, U 57, U 58, U 59, U 60, U 61, U 62, U 63, U 64, U 65], []⟩) ∧ OB A w' (.slice (some ⟨g, 0, none⟩) n cap) (Wi.tur b at_ mask lo hi j).1 ∧ w1.grownBy w' (some g)

set_option maxHeartbeats 8000000 in
theorem turned_calls {w : World} {v : Value} {b : List UInt8} (at_ mask lo hi : Nat) (hr : RB w v b) (hb0 : b ≠ []) (hat : at_ < 9223372036854775808) (hmask : mask < 4294967296) (hlh : lo ≤ hi) (hhi : hi ≤ b.length) :
    Calls Tryd.prog 35 #[v, .int .i64 at_, .int .u32 mask, .int .i64 lo, .int .i64 hi] w fun e w' => ∃ qv, e = .returned (.tuple #[qv, .int .i64 ((Wi.tur b at_ mask lo hi 32).2.1 : Nat)]) ∧ OB w.heap.size w' qv (Wi.tur b at_ mask lo hi 32).1 ∧ Below w.heap.size w w' := by
  have hlen := hr.len
  go_enter Tryd.func35, Tryd.ntmps35
  go_wp2_with fail
  refine (copied_calls hr).mono ?_
  rintro e w1 ⟨cv, rfl, hcv, hb1⟩
  obtain ⟨g, cap, hvf, hgB, hgl, hcap, hcm, -, -⟩ := hcv.form hb0
  obtain ⟨n, hn⟩ : ∃ n, n = b.length := ⟨_, rfl⟩
  rw [← hn] at hvf hcap hlen
  have Hn := Lib.hid hn
  generalize hA : w.heap.size = A at *
  subst hvf
  have hhin : hi ≤ n := by omega
  clear hn hr
  go_wp2_with fail
  refine wp_loop_count (TurI w1 A at_ mask lo hi g n cap b) 32 ?_ ?_ ?_
  · exact ⟨exU (fun U => ⟨#[U 0, .int .i64 at_, .int .u32 mask, .int .i64 lo, .int .i64 hi, U 5, U 6, U 7, U 8, U 9, .slice none 0 0, .int .i64 0, .slice (some ⟨g, 0, none⟩) n cap, .int .i64 (0 : Nat), .int .i64 (0 : Nat), U 15, U 16, U 17, U 18, U 19, U 20, U 21, U 22, U 23, U 24, U 25, U 26, U 27, U 28, U 29, U 30, U 31, U 32, U 33, U 34, U 35, U 36, U 37, U 38, U 39, U 40, U 41, U 42, U 43, U 44, U 45, U 46, U 47, U 48, U 49, U 50, U 51, U 52, U 53, U 54, U 55, U 56, U 57, U 58, U 59, U 60, U 61, U 62, U 63, U 64, U 65], []⟩) rfl, hcv, World.grownBy.refl w1 _⟩
  · rintro j a w' hj ⟨⟨U, rfl⟩, ho, hg⟩
    obtain ⟨h1, -, -, -, h6, -⟩ := Wi.tur_inv b (at_ := at_) (mask := mask) (lo := lo) (by omega : hi ≤ b.length) j
    have hj0 : (0 : Int) ≤ (j : Int) := Int.natCast_nonneg j
    have hj32 : (j : Int) < 32 := by omega
    have Ho := Lib.hid ho
    have Hg := Lib.hid hg
    have H1 := Lib.hid h1
    have Hj := Lib.hid hj
    clear ho hg h1 hj
    have w8 : IntKind.i64.wrap (8 * (hi : Int)) = 8 * (hi : Int) := IntWalk.i64_in _ ⟨by omega, by omega⟩
    have w81 : IntKind.i64.wrap (8 * (hi : Int) - 1) = 8 * (hi : Int) - 1 := IntWalk.i64_in _ ⟨by omega, by omega⟩
    have w8j : IntKind.i64.wrap (8 * (hi : Int) - 1 - (j : Int)) = 8 * (hi : Int) - 1 - (j : Int) := IntWalk.i64_in _ ⟨by omega, by omega⟩
    have w8l : IntKind.i64.wrap (8 * (lo : Int)) = 8 * (lo : Int) := IntWalk.i64_in _ ⟨by omega, by omega⟩
    have wjc : IntKind.u64.wrap (j : Int) = (j : Int) := by simp only [IntKind.wrap, IntKind.bits, IntKind.signed]; simp; omega
    have wj1 : IntKind.i64.wrap ((j : Int) + 1) = (j : Int) + 1 := IntWalk.i64_in _ ⟨by omega, by omega⟩
    have hand : bits .and .u32 ((mask : Int) / 2 ^ j) 1 = ((mask / 2 ^ j % 2 : Nat) : Int) := by
      have h := u32_and_one (mask / 2 ^ j) (Nat.lt_of_le_of_lt (Nat.div_le_self _ _) hmask)
      rw [← h]
      simp
    have htb : mask.testBit j = decide (mask / 2 ^ j % 2 = 1) := by rw [Nat.testBit_eq_decide_div_mod_eq]
    have hsel0 : Wi.sel at_ mask lo hi j = (mask.testBit j && decide (at_ + j < 8 * hi) && decide (8 * lo ≤ at_ + j)) := rfl
    by_cases hm : mask / 2 ^ j % 2 = 1
    · rw [hm] at hand
      have hm1 : bits .and .u32 ((mask : Int) / 2 ^ j) 1 = 1 := hand
      by_cases ha : (at_ : Int) ≤ 8 * (hi : Int) - 1 - (j : Int)
      · obtain ⟨i, hi'⟩ : ∃ i, i = at_ + j := ⟨_, rfl⟩
        have waj : IntKind.i64.wrap ((at_ : Int) + (j : Int)) = (i : Int) := by rw [IntWalk.i64_in _ ⟨by omega, by omega⟩, hi']; push_cast; rfl
        by_cases hl : 8 * (lo : Int) ≤ (i : Int)
        · have hs : Wi.sel at_ mask lo hi j = true := by
            rw [hsel0, htb, hm]
            simp
            omega
          clear hand hm htb hsel0
          obtain ⟨q8, hq8⟩ : ∃ q8, q8 = i / 8 := ⟨_, rfl⟩
          obtain ⟨r8, hr8⟩ : ∃ r8, r8 = i % 8 := ⟨_, rfl⟩
          have wq : IntKind.i64.wrap ((i : Int).tdiv 8) = (q8 : Int) := by
            rw [Int.tdiv_eq_ediv_of_nonneg (by omega), IntWalk.i64_in _ ⟨by omega, by omega⟩]; omega
          have wr : IntKind.i64.wrap ((i : Int).tmod 8) = (r8 : Int) := by
            rw [Int.tmod_eq_emod_of_nonneg (by omega), IntWalk.i64_in _ ⟨by omega, by omega⟩]; omega
          have wq' : IntKind.i64.wrap ((i : Int) / 8) = (q8 : Int) := by rw [IntWalk.i64_in _ ⟨by omega, by omega⟩]; omega
          have wr' : IntKind.i64.wrap ((i : Int) % 8) = (r8 : Int) := by rw [IntWalk.i64_in _ ⟨by omega, by omega⟩]; omega
          have wrc : IntKind.u64.wrap (r8 : Int) = (r8 : Int) := by simp only [IntKind.wrap, IntKind.bits, IntKind.signed]; simp; omega
          have hq0 : (0 : Int) ≤ (q8 : Int) := Int.natCast_nonneg q8
          have hr0 : (0 : Int) ≤ (r8 : Int) := Int.natCast_nonneg r8
          have hqn : (q8 : Int) < (n : Int) := by have := Hn.out; omega
          have hr7 : (r8 : Int) < 8 := by omega
          have hl1 := H1.out
          obtain ⟨c, hc⟩ : ∃ c, (Wi.tur b at_ mask lo hi j).1[q8]? = some c := ⟨(Wi.tur b at_ mask lo hi j).1[q8]'(by have := Hn.out; omega), List.getElem?_eq_getElem _⟩
          obtain ⟨g', cap', e, _, hg1, _, _, hcell, hfr⟩ := Ho.out.form (by intro e; rw [e] at hl1; have := Hn.out; simp at hl1; omega)
          simp only [Value.slice.injEq, Option.some.injEq, Addr.mk.injEq, and_true, true_and] at e
          obtain ⟨e1, -, e3⟩ := e
          subst e1 e3
          have hcl := hcell q8 c hc
          have hfz := hfr q8
          have hp8 : 2 ^ r8 < 256 := Nat.lt_of_le_of_lt (Nat.pow_le_pow_right (by decide) (show r8 ≤ 7 by omega)) (by decide)
          obtain ⟨m, hmm⟩ : ∃ m, m = 2 ^ r8 := ⟨_, rfl⟩
          have wsh : IntKind.u8.wrap (1 * 2 ^ r8) = (m : Int) := by
            have : (1 : Int) * 2 ^ r8 = (m : Int) := by rw [hmm]; simp
            rw [this]
            simp only [IntKind.wrap, IntKind.bits, IntKind.signed]; simp; omega
          have wsh' : IntKind.u8.wrap (2 ^ r8) = (m : Int) := by simpa using wsh
          have hxor : bits .xor .u8 (c.toNat : Int) (m : Int) = (((c ^^^ UInt8.ofNat m : UInt8).toNat : Nat) : Int) := by
            rw [UInt8.toNat_xor, UInt8.toNat_ofNat', Nat.mod_eq_of_lt (by omega : m < 2 ^ 8)]
            exact u8_xor_nat c.toNat m (by have := c.toNat_lt; omega) (by omega)
          have hst := Ho.out.store q8 (c ^^^ UInt8.ofNat m)
          have Hst := Lib.hid hst
          have wn1 : IntKind.i64.wrap (((Wi.tur b at_ mask lo hi j).2.1 : Int) + 1) = ((Wi.tur b at_ mask lo hi j).2.1 : Int) + 1 := IntWalk.i64_in _ ⟨by omega, by omega⟩
          have Hc := Lib.hid hc
          have Hi := Lib.hid hi'
          have Hq := Lib.hid hq8
          have Hr := Lib.hid hr8
          have Hm := Lib.hid hmm
          clear hcell hfr hst hc hp8 hi' hq8 hr8 hmm hl1
          go_wp2_with fail
          have hmI : (2 : Int) ^ (i % 8) % 256 = (m : Int) := by
            rw [Hm.out, Hr.out]
            have hp : 2 ^ (i % 8) < 256 := Nat.lt_of_le_of_lt (Nat.pow_le_pow_right (by decide) (show i % 8 ≤ 7 by omega)) (by decide)
            exact_mod_cast congrArg (fun x : Nat => (x : Int)) (Nat.mod_eq_of_lt hp)
          rw [hmI, hxor]
          have hfl : Wi.flip (Wi.tur b at_ mask lo hi j).1 (at_ + j) = (Wi.tur b at_ mask lo hi j).1.set q8 (c ^^^ UInt8.ofNat m) := by
            unfold Wi.flip
            rw [← Hi.out, ← Hq.out, ← Hr.out, ← Hm.out, List.getD_eq_getElem?_getD, Hc.out]
            rfl
          unfold TurI
          rw [Wi.tur, if_pos hs, hfl]
          exact ⟨exU (fun U => ⟨#[U 0, .int .i64 at_, .int .u32 mask, .int .i64 lo, .int .i64 hi, U 5, U 6, U 7, U 8, U 9, .slice none 0 0, .int .i64 0, .slice (some ⟨g, 0, none⟩) n cap, .int .i64 ((Wi.tur b at_ mask lo hi j).2.1 + 1 : Nat), .int .i64 (j + 1 : Nat), U 15, U 16, U 17, U 18, U 19, U 20, U 21, U 22, U 23, U 24, U 25, U 26, U 27, U 28, U 29, U 30, U 31, U 32, U 33, U 34, U 35, U 36, U 37, U 38, U 39, U 40, U 41, U 42, U 43, U 44, U 45, U 46, U 47, U 48, U 49, U 50, U 51, U 52, U 53, U 54, U 55, U 56, U 57, U 58, U 59, U 60, U 61, U 62, U 63, U 64, U 65], []⟩) rfl, Hst.out.1, Hg.out.trans Hst.out.2⟩
        · have hs : Wi.sel at_ mask lo hi j = false := by
            rw [hsel0, htb, hm]
            simp
            omega
          clear hand hm htb hsel0
          go_wp2_with fail
          unfold TurI; rw [Wi.tur, if_neg (by rw [hs]; decide)]
          exact ⟨exU (fun U => ⟨#[U 0, .int .i64 at_, .int .u32 mask, .int .i64 lo, .int .i64 hi, U 5, U 6, U 7, U 8, U 9, .slice none 0 0, .int .i64 0, .slice (some ⟨g, 0, none⟩) n cap, .int .i64 ((Wi.tur b at_ mask lo hi j).2.1 : Nat), .int .i64 (j + 1 : Nat), U 15, U 16, U 17, U 18, U 19, U 20, U 21, U 22, U 23, U 24, U 25, U 26, U 27, U 28, U 29, U 30, U 31, U 32, U 33, U 34, U 35, U 36, U 37, U 38, U 39, U 40, U 41, U 42, U 43, U 44, U 45, U 46, U 47, U 48, U 49, U 50, U 51, U 52, U 53, U 54, U 55, U 56, U 57, U 58, U 59, U 60, U 61, U 62, U 63, U 64, U 65], []⟩) rfl, Ho.out, Hg.out⟩
      · have hs : Wi.sel at_ mask lo hi j = false := by
          rw [hsel0, htb, hm]
          simp
          omega
        clear hand hm htb hsel0
        go_wp2_with fail
        unfold TurI; rw [Wi.tur, if_neg (by rw [hs]; decide)]
        exact ⟨exU (fun U => ⟨#[U 0, .int .i64 at_, .int .u32 mask, .int .i64 lo, .int .i64 hi, U 5, U 6, U 7, U 8, U 9, .slice none 0 0, .int .i64 0, .slice (some ⟨g, 0, none⟩) n cap, .int .i64 ((Wi.tur b at_ mask lo hi j).2.1 : Nat), .int .i64 (j + 1 : Nat), U 15, U 16, U 17, U 18, U 19, U 20, U 21, U 22, U 23, U 24, U 25, U 26, U 27, U 28, U 29, U 30, U 31, U 32, U 33, U 34, U 35, U 36, U 37, U 38, U 39, U 40, U 41, U 42, U 43, U 44, U 45, U 46, U 47, U 48, U 49, U 50, U 51, U 52, U 53, U 54, U 55, U 56, U 57, U 58, U 59, U 60, U 61, U 62, U 63, U 64, U 65], []⟩) rfl, Ho.out, Hg.out⟩
    · have hm0 : mask / 2 ^ j % 2 = 0 := by omega
      rw [hm0] at hand
      have hm1 : bits .and .u32 ((mask : Int) / 2 ^ j) 1 = 0 := hand
      have hs : Wi.sel at_ mask lo hi j = false := by
        rw [hsel0, htb, hm0]
        rfl
      clear hand hm htb hsel0 hm0
      go_wp2_with fail
      unfold TurI; rw [Wi.tur, if_neg (by rw [hs]; decide)]
      exact ⟨exU (fun U => ⟨#[U 0, .int .i64 at_, .int .u32 mask, .int .i64 lo, .int .i64 hi, U 5, U 6, U 7, U 8, U 9, .slice none 0 0, .int .i64 0, .slice (some ⟨g, 0, none⟩) n cap, .int .i64 ((Wi.tur b at_ mask lo hi j).2.1 : Nat), .int .i64 (j + 1 : Nat), U 15, U 16, U 17, U 18, U 19, U 20, U 21, U 22, U 23, U 24, U 25, U 26, U 27, U 28, U 29, U 30, U 31, U 32, U 33, U 34, U 35, U 36, U 37, U 38, U 39, U 40, U 41, U 42, U 43, U 44, U 45, U 46, U 47, U 48, U 49, U 50, U 51, U 52, U 53, U 54, U 55, U 56, U 57, U 58, U 59, U 60, U 61, U 62, U 63, U 64, U 65], []⟩) rfl, Ho.out, Hg.out⟩
  · rintro a w' ⟨⟨U, rfl⟩, ho, hg⟩
    have Ho := Lib.hid ho
    have Hg := Lib.hid hg
    clear ho hg
    go_wp2_with fail
    go_ret2
    refine ⟨_, rfl, by first | exact Ho.out | (rw [hA]; exact Ho.out), ?_⟩
    first
      | exact hb1.grown Hg.out (by have := hb1.size; omega) (fun k hk => by injection hk with hk; omega)
      | (rw [hA]; exact hb1.grown Hg.out (by have := hb1.size; omega) (fun k hk => by injection hk with hk; omega))
end Go.Proofs.YtbgfoobcpacfeaaDoor
