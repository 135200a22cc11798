/- OnesCount64, room, valid. -/
import Derived.Test.YtckbckdaffdjmaaDoorBmLib
namespace Go.Proofs.YtckbckdaffdjmaaDoor
open Go.RowKit
set_option maxRecDepth 100000
set_option linter.unusedVariables false
set_option linter.unusedSimpArgs false

set_option maxHeartbeats 4000000 in
theorem room_calls {w : World} {n : Nat} (hn : n < 9223372036854775744) : Pur Tryd.prog 93 #[.int .i64 n] w (.int .i64 (Bm.room n : Nat)) := by
  unfold Pur
  go_enter Tryd.func93, Tryd.ntmps93
  go_wp2_with fail
  go_ret
  refine ⟨ret_int ?_, Below.refl _ _⟩
  unfold Bm.room; omega
theorem wrap_nat {z : Nat} (h : z < 18446744073709551616) : IntKind.u64.wrap (z : Int) = (z : Int) := by
  rw [show IntKind.u64.wrap (z : Int) = (z : Int) % 18446744073709551616 by simp [IntKind.wrap, IntKind.bits, IntKind.signed]]; omega
theorem and_le_r (a b : Nat) : a &&& b ≤ b := Nat.and_le_right
theorem one_step (x M d : Nat) (hx : x < 18446744073709551616) (hd : d = 2 ∨ d = 4) (hM : M ≤ 6148914691236517205) : IntKind.u64.wrap (bits .and .u64 ((x : Int) / (d : Nat)) (M : Nat) + bits .and .u64 (x : Int) (M : Nat)) = (((x / d &&& M) + (x &&& M) : Nat) : Int) := by
  have h1 : ((x : Int) / (d : Nat)) = ((x / d : Nat) : Int) := (Int.natCast_ediv x d).symm
  have h2 : x / d < 18446744073709551616 := Nat.lt_of_le_of_lt (Nat.div_le_self _ _) hx
  rw [h1, u64_and_nat _ _ h2 (by omega), u64_and_nat _ _ hx (by omega), ← Int.natCast_add]
  have := and_le_r (x / d) M
  have := and_le_r x M
  exact wrap_nat (by omega)
theorem one_fold (z d : Nat) (hd : d ≠ 0) (hz : z < 9223372036854775808) : IntKind.u64.wrap ((z : Int) + (z : Int) / (d : Nat)) = ((z + z / d : Nat) : Int) := by
  have h1 : ((z : Int) / (d : Nat)) = ((z / d : Nat) : Int) := (Int.natCast_ediv z d).symm
  rw [h1, ← Int.natCast_add]
  have := Nat.div_le_self z d
  exact wrap_nat (by omega)
set_option maxHeartbeats 4000000 in
theorem onescount_calls {w : World} {x : UInt64} : Pur Tryd.prog 76 #[uv x] w (.int .i64 (Bm.pop 64 x.toNat : Nat)) := by
  unfold Pur
  have hx := x.toNat_lt
  rw [← Bm.ones_pop]
  unfold uv
  generalize x.toNat = x at *
  obtain ⟨z1, hz1⟩ : ∃ z, z = Bm.y1 8 x := ⟨_, rfl⟩
  obtain ⟨z2, hz2⟩ : ∃ z, z = Bm.y2 8 z1 := ⟨_, rfl⟩
  obtain ⟨z3, hz3⟩ : ∃ z, z = Bm.y3 8 z2 := ⟨_, rfl⟩
  obtain ⟨z4, hz4⟩ : ∃ z, z = z3 + z3 / 256 := ⟨_, rfl⟩
  obtain ⟨z5, hz5⟩ : ∃ z, z = z4 + z4 / 65536 := ⟨_, rfl⟩
  obtain ⟨z6, hz6⟩ : ∃ z, z = z5 + z5 / 4294967296 := ⟨_, rfl⟩
  have hres : Bm.ones x = z6 % 128 := by unfold Bm.ones; simp only [hz6, hz5, hz4, hz3, hz2, hz1]
  rw [hres]
  have hA : IntKind.u64.wrap (bits .and .u64 ((x : Int) / 2) 6148914691236517205 + bits .and .u64 (x : Int) 6148914691236517205) = (z1 : Int) := by
    rw [hz1]; exact one_step x 6148914691236517205 2 hx (.inl rfl) (by decide)
  have b1 : z1 ≤ 12297829382473034410 := by
    have h1 := and_le_r (x / 2) 6148914691236517205; have h2 := and_le_r x 6148914691236517205
    rw [hz1]; unfold Bm.y1; rw [show Bm.rep 85 8 = 6148914691236517205 by decide]; omega
  have hB : IntKind.u64.wrap (bits .and .u64 ((z1 : Int) / 4) 3689348814741910323 + bits .and .u64 (z1 : Int) 3689348814741910323) = (z2 : Int) := by
    rw [hz2]; exact one_step z1 3689348814741910323 4 (by omega) (.inr rfl) (by decide)
  have b2 : z2 ≤ 7378697629483820646 := by
    have h1 := and_le_r (z1 / 4) 3689348814741910323; have h2 := and_le_r z1 3689348814741910323
    rw [hz2]; unfold Bm.y2; rw [show Bm.rep 51 8 = 3689348814741910323 by decide]; omega
  have hC : bits .and .u64 (IntKind.u64.wrap ((z2 : Int) / 16 + (z2 : Int))) 1085102592571150095 = (z3 : Int) := by
    rw [Int.add_comm, show (16 : Int) = ((16 : Nat) : Int) from rfl, one_fold z2 16 (by decide) (by omega), hz3]
    have := u64_and_nat (z2 + z2 / 16) 1085102592571150095 (by omega) (by decide)
    rw [Nat.add_comm] at this ⊢
    exact this
  have b3 : z3 ≤ 1085102592571150095 := by
    have h1 := and_le_r (z2 / 16 + z2) 1085102592571150095
    rw [hz3]; unfold Bm.y3; rw [show Bm.rep 15 8 = 1085102592571150095 by decide]; exact h1
  have hD : IntKind.u64.wrap ((z3 : Int) + (z3 : Int) / 256) = (z4 : Int) := by rw [hz4]; exact one_fold z3 256 (by decide) (by omega)
  have b4 : z4 ≤ 2170205185142300190 := by omega
  have hE : IntKind.u64.wrap ((z4 : Int) + (z4 : Int) / 65536) = (z5 : Int) := by rw [hz5]; exact one_fold z4 65536 (by decide) (by omega)
  have b5 : z5 ≤ 4340410370284600380 := by omega
  have hF : IntKind.u64.wrap ((z5 : Int) + (z5 : Int) / 4294967296) = (z6 : Int) := by rw [hz6]; exact one_fold z5 4294967296 (by decide) (by omega)
  have b6 : z6 ≤ 8680820740569200760 := by omega
  have hG := i64_and127 (z6 : Int)
  have hH : wrap64 (z6 : Int) = (z6 : Int) := by unfold wrap64; omega
  clear hz1 hz2 hz3 hz4 hz5 hz6 hres b1 b2 b3 b4 b5 b6
  go_enter Tryd.func76, Tryd.ntmps76
  go_wp2_with fail
  go_ret
  exact ⟨ret_int (by omega), Below.refl _ _⟩
set_option maxHeartbeats 4000000 in
theorem valid_calls {w : World} {v : Value} {W : List UInt64} {n : Nat} (h1 : 1 ≤ n) (h2 : n ≤ 65536) (h : RU w v W) : Pur Tryd.prog 82 #[.int .i64 n, v] w (.int .i64 (Bm.validE n W : Nat)) := by
  unfold Pur
  have hrc := room_calls (w := w) (n := n) (by omega)
  obtain ⟨p, cp, rfl, k1, k2, k3, hr⟩ := h
  have hrm : Bm.room n = (n + 63) / 64 := rfl
  go_enter Tryd.func82, Tryd.ntmps82
  obtain ⟨L, hL⟩ : ∃ L, L = W.length := ⟨_, rfl⟩
  rw [← hL] at k1 k3 ⊢
  by_cases e1 : L = Bm.room n
  · obtain ⟨x, hx⟩ : ∃ x, W[L - 1]? = some x := ⟨W[L - 1], List.getElem?_eq_getElem (by omega)⟩
    obtain ⟨g, o, rfl, hg, hc⟩ := hr _ _ hx
    have hx' : W.getD (W.length - 1) 0 = x := by rw [List.getD_eq_getElem?_getD, ← hL, hx]; rfl
    have hv : Bm.validE n W = if n % 64 ≠ 0 ∧ x.toNat / 2 ^ (n % 64) ≠ 0 then 2 else 0 := by unfold Bm.validE; rw [if_neg (by omega), hx']
    rw [hv]
    rw [← e1] at hrc hrm
    have hxl := x.toNat_lt
    clear hv hx' hx hr hL
    have hl1 : (L : Int) - 1 = ((L - 1 : Nat) : Int) := by omega
    have hl2 : ((L - 1 : Nat) : Int) < (L : Int) := by omega
    have hl3 : (0 : Int) ≤ ((L - 1 : Nat) : Int) := by omega
    by_cases e2 : n % 64 = 0
    · rw [if_neg (by simp [e2])]
      have hm : (n : Int) % 64 = 0 := by omega
      clear hrm e1
      go_wp2_with (first | (go_at_call 93; refine hrc.out.mono ?_; rintro e w1 ⟨rfl, hb⟩) | fail)
      go_ret
      exact ⟨rfl, hb⟩
    · have hm : ((n : Int) % 64 != 0) = true := by simp; omega
      have hd : (x.toNat : Int) / 2 ^ (n % 64) = ((x.toNat / 2 ^ (n % 64) : Nat) : Int) := by rw [Int.natCast_ediv]; simp
      clear hrm e1
      by_cases e3 : x.toNat / 2 ^ (n % 64) = 0
      · rw [if_neg (by simp [e3])]
        have hq : ((x.toNat : Int) / 2 ^ (n % 64) != 0) = false := by rw [hd, e3]; rfl
        clear hd
        go_wp2_with (first | (go_at_call 93; refine hrc.out.mono ?_; rintro e w1 ⟨rfl, hb⟩; have hc1 := ((bcell hb).1 _ _ hg).trans hc) | fail)
        go_ret
        exact ⟨rfl, hb⟩
      · rw [if_pos ⟨e2, e3⟩]
        have hq : ((x.toNat : Int) / 2 ^ (n % 64) != 0) = true := by rw [hd]; exact bne_iff_ne.2 (fun e => e3 (Int.ofNat_inj.1 e))
        clear hd
        go_wp2_with (first | (go_at_call 93; refine hrc.out.mono ?_; rintro e w1 ⟨rfl, hb⟩; have hc1 := ((bcell hb).1 _ _ hg).trans hc) | fail)
        go_ret
        exact ⟨rfl, hb⟩
  · have hv : Bm.validE n W = 3 := by unfold Bm.validE; rw [if_pos (by omega)]
    have hb1 : ((L : Int) == ((Bm.room n : Nat) : Int)) = false := by simp; omega
    rw [hv]
    clear hrm hv
    go_wp2_with (first | (go_at_call 93; refine hrc.out.mono ?_; rintro e w1 ⟨rfl, hb⟩) | fail)
    go_ret
    exact ⟨rfl, hb⟩
end Go.Proofs.YtckbckdaffdjmaaDoor
