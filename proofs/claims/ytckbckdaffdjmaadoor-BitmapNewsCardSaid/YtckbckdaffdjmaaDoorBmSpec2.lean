/- How many bits are set; the upper level: plain. -/
import Derived.Test.YtckbckdaffdjmaaDoorBmSpec
namespace Go.Proofs.YtckbckdaffdjmaaDoor
set_option linter.unusedVariables false
set_option linter.unusedSimpArgs false
namespace Bm
/-- How many of m from a on are so. -/
def cnt (f : Nat → Bool) (a : Nat) : Nat → Nat
  | 0 => 0
  | m + 1 => cnt f a m + (if f (a + m) = true then 1 else 0)
theorem cnt_le (f : Nat → Bool) (a : Nat) : ∀ m, cnt f a m ≤ m
  | 0 => Nat.le_refl _
  | m + 1 => by have := cnt_le f a m; rw [cnt]; split <;> omega
theorem cnt_add (f : Nat → Bool) (a m : Nat) : ∀ k, cnt f a (m + k) = cnt f a m + cnt f (a + m) k
  | 0 => by simp [cnt]
  | k + 1 => by rw [show m + (k + 1) = (m + k) + 1 by omega, cnt, cnt, cnt_add f a m k, Nat.add_assoc a m k]; omega
theorem cnt_congr {f g : Nat → Bool} {a b : Nat} : ∀ m, (∀ t, t < m → f (a + t) = g (b + t)) → cnt f a m = cnt g b m
  | 0, _ => rfl
  | m + 1, h => by rw [cnt, cnt, cnt_congr m (fun t ht => h t (by omega)), h m (by omega)]
theorem cnt_none {f : Nat → Bool} {a : Nat} : ∀ m, (∀ t, t < m → f (a + t) = false) → cnt f a m = 0
  | 0, _ => rfl
  | m + 1, h => by rw [cnt, cnt_none m (fun t ht => h t (by omega)), h m (by omega)]; rfl
theorem cnt_succ (f : Nat → Bool) (a m : Nat) : cnt f a (m + 1) = (if f a = true then 1 else 0) + cnt f (a + 1) m := by
  rw [Nat.add_comm m 1, cnt_add]; rw [show cnt f a 1 = (if f a = true then 1 else 0) by simp [cnt]]
theorem pop_cnt : ∀ (k x : Nat), pop k x = cnt x.testBit 0 k
  | 0, x => rfl
  | k + 1, x => by
    rw [pop, cnt_succ, pop_cnt k (x / 2)]
    have h1 : cnt x.testBit (0 + 1) k = cnt (x / 2).testBit 0 k := cnt_congr k fun t _ => by rw [Nat.zero_add, Nat.zero_add, Nat.add_comm 1 t, Nat.testBit_succ]
    rw [h1]
    have h2 : (if x.testBit 0 = true then 1 else 0) = x % 2 := by
      rw [Nat.testBit_zero]
      rcases Nat.mod_two_eq_zero_or_one x with e | e <;> simp [e]
    rw [h2]
/-- How many bits are set. -/
def ones' : List UInt64 → Nat
  | [] => 0
  | x :: r => pop 64 x.toNat + ones' r
theorem ones_set : ∀ {W : List UInt64} {k : Nat} {x y : UInt64}, W[k]? = some x → ones' (W.set k y) + pop 64 x.toNat = ones' W + pop 64 y.toNat
  | [], k, x, y, h => by simp at h
  | z :: r, 0, x, y, h => by
    simp only [List.getElem?_cons_zero, Option.some.injEq] at h
    subst h
    simp only [List.set_cons_zero, ones']; omega
  | z :: r, k + 1, x, y, h => by
    have := ones_set (W := r) (k := k) (y := y) (by simpa using h)
    simp only [List.set_cons_succ, ones']; omega
theorem ones_le : ∀ (W : List UInt64), ones' W ≤ 64 * W.length
  | [] => Nat.le_refl _
  | x :: r => by have := ones_le r; have := pop_le 64 x.toNat; simp only [ones', List.length_cons]; omega
theorem pop_le_ones : ∀ {W : List UInt64} {k : Nat} {x : UInt64}, W[k]? = some x → pop 64 x.toNat ≤ ones' W
  | [], k, x, h => by simp at h
  | z :: r, 0, x, h => by
    simp only [List.getElem?_cons_zero, Option.some.injEq] at h
    subst h; simp only [ones']; omega
  | z :: r, k + 1, x, h => by
    have := pop_le_ones (W := r) (k := k) (by simpa using h)
    simp only [ones']; omega
theorem bit_cons (x : UInt64) (r : List UInt64) (i : Nat) : bit (x :: r) (64 + i) = bit r i := by
  unfold bit
  rw [show (64 + i) / 64 = i / 64 + 1 by omega, show (64 + i) % 64 = i % 64 by omega]
  rfl
theorem bit_head (x : UInt64) (r : List UInt64) {i : Nat} (h : i < 64) : bit (x :: r) i = x.toNat.testBit i := by
  unfold bit
  rw [show i / 64 = 0 by omega, show i % 64 = i by omega]
  rfl
theorem ones_cnt : ∀ (W : List UInt64), ones' W = cnt (bit W) 0 (64 * W.length)
  | [] => rfl
  | x :: r => by
    rw [ones', List.length_cons, Nat.mul_succ, Nat.add_comm (64 * r.length) 64, cnt_add, pop_cnt]
    have h1 : cnt x.toNat.testBit 0 64 = cnt (bit (x :: r)) 0 64 := cnt_congr 64 fun t ht => by rw [Nat.zero_add, bit_head x r ht]
    have h2 : cnt (bit (x :: r)) (0 + 64) (64 * r.length) = cnt (bit r) 0 (64 * r.length) := cnt_congr _ fun t _ => by rw [Nat.zero_add, Nat.zero_add, bit_cons]
    rw [h1, h2, ones_cnt r]
theorem ones_ok {n : Nat} {W : List UInt64} (h : Ok n W) : ones' W = cnt (bit W) 0 n := by
  have hl := h.len
  have hr : room n = (n + 63) / 64 := rfl
  rw [ones_cnt, show 64 * W.length = n + (64 * W.length - n) by omega, cnt_add, cnt_none (64 * W.length - n) fun t _ => h.tail _ (by omega), Nat.add_zero]
theorem ones_zero (n : Nat) : ones' (List.replicate n 0) = 0 := by
  induction n with
  | zero => rfl
  | succ n ih => rw [List.replicate_succ, ones', ih]; rfl
/-- The upper level. -/
def upper (W : List UInt64) : List UInt64 := pack (W.map fun x => decide (x ≠ 0))
theorem upper_length (W : List UInt64) : (upper W).length = room W.length := by simp [upper, pack_length]
theorem upper_bit (W : List UInt64) (k : Nat) : bit (upper W) k = decide (W.getD k 0 ≠ 0) := by
  rw [upper, pack_bit]
  simp only [List.getD_eq_getElem?_getD, List.getElem?_map]
  cases h : W[k]? <;> simp
theorem bit_set {W : List UInt64} {k : Nat} {x : UInt64} (hk : k < W.length) (i : Nat) : bit (W.set k x) i = if i / 64 = k then x.toNat.testBit (i % 64) else bit W i := by
  unfold bit
  simp only [List.getD_eq_getElem?_getD]
  by_cases e : i / 64 = k
  · rw [if_pos e, e, List.getElem?_set_self hk]; rfl
  · rw [if_neg e, List.getElem?_set_ne (Ne.symm e)]
/-- A bit more, a bit less. -/
def on (u r : Nat) : Nat := u ||| 2 ^ r
def off (u r : Nat) : Nat := u &&& (18446744073709551615 - 2 ^ r)
theorem on_bit (u r i : Nat) : (on u r).testBit i = (u.testBit i || decide (r = i)) := by
  rw [on, Nat.testBit_or, Nat.testBit_two_pow]
theorem mask_bit {r : Nat} (hr : r < 64) (i : Nat) : (18446744073709551615 - 2 ^ r).testBit i = (decide (i < 64) && !decide (r = i)) := by
  have hp : 2 ^ r < 2 ^ 64 := Nat.pow_lt_pow_right (by decide) hr
  rw [show 18446744073709551615 - 2 ^ r = 2 ^ 64 - (2 ^ r + 1) by omega, Nat.testBit_two_pow_sub_succ hp, Nat.testBit_two_pow]
theorem off_bit {r : Nat} (hr : r < 64) (u i : Nat) : (off u r).testBit i = (u.testBit i && (decide (i < 64) && !decide (r = i))) := by
  rw [off, Nat.testBit_and, mask_bit hr]
theorem on_lt {u r : Nat} (hu : u < 18446744073709551616) (hr : r < 64) : on u r < 18446744073709551616 := Nat.or_lt_two_pow (n := 64) hu (Nat.pow_lt_pow_right (by decide) hr)
theorem off_lt {u r : Nat} (hr : r < 64) : off u r < 18446744073709551616 := Nat.and_lt_two_pow (n := 64) _ (by have := Nat.two_pow_pos r; omega)
theorem upper_set {W : List UInt64} {k : Nat} {x u : UInt64} (hk : k < W.length) (hu : (upper W)[k / 64]? = some u) :
    upper (W.set k x) = (upper W).set (k / 64) (UInt64.ofNat (if x ≠ 0 then on u.toNat (k % 64) else off u.toNat (k % 64))) := by
  have hr : k % 64 < 64 := Nat.mod_lt _ (by decide)
  have hlt : k / 64 < (upper W).length := by rw [upper_length]; exact room_lt hk
  refine words_ext (by rw [List.length_set, upper_length, upper_length, List.length_set]) fun i => ?_
  rw [upper_bit, bit_set hlt]
  have hub : ∀ t, t < 64 → u.toNat.testBit t = decide (W.getD (64 * (k / 64) + t) 0 ≠ 0) := fun t ht => by
    rw [← upper_bit, bit, List.getD_eq_getElem?_getD, show (64 * (k / 64) + t) / 64 = k / 64 by omega, hu, show (64 * (k / 64) + t) % 64 = t by omega]; rfl
  by_cases e : i / 64 = k / 64
  · rw [if_pos e]
    have hi : 64 * (k / 64) + i % 64 = i := by omega
    have hz : (UInt64.ofNat (if x ≠ 0 then on u.toNat (k % 64) else off u.toNat (k % 64))).toNat = if x ≠ 0 then on u.toNat (k % 64) else off u.toNat (k % 64) := toNat_of (by split; exact on_lt u.toNat_lt hr; exact off_lt hr)
    rw [hz]
    by_cases ei : i = k
    · subst ei
      rw [List.getD_eq_getElem?_getD, List.getElem?_set_self hk, Option.getD_some]
      split
      · rename_i hx; rw [on_bit]; simp [hx]
      · rename_i hx; rw [off_bit hr]; simp [hx]
    · rw [List.getD_eq_getElem?_getD, List.getElem?_set_ne (Ne.symm ei), ← List.getD_eq_getElem?_getD]
      have h1 := hub (i % 64) (Nat.mod_lt _ (by decide))
      rw [hi] at h1
      have hne : k % 64 ≠ i % 64 := by omega
      split
      · rw [on_bit, h1]; simp [hne]
      · rw [off_bit hr, h1]; simp [hne, Nat.mod_lt]
  · rw [if_neg e, upper_bit, List.getD_eq_getElem?_getD, List.getElem?_set_ne (by intro h; subst h; exact e rfl), ← List.getD_eq_getElem?_getD]
theorem bools_zero {n : Nat} : bools n (List.replicate (room n) 0) = List.replicate n false := by
  apply List.ext_getElem?
  intro i
  by_cases h : i < n
  · rw [bools_get h, bit, List.getD_eq_getElem?_getD, List.getElem?_replicate, if_pos (room_lt h), List.getElem?_replicate, if_pos h]
    simp
  · rw [List.getElem?_eq_none (by rw [bools_length]; omega), List.getElem?_eq_none (by simp; omega)]
theorem upper_zero (m : Nat) : upper (List.replicate m 0) = List.replicate (room m) 0 := by
  refine words_ext (by simp [upper_length]) fun i => ?_
  rw [upper_bit, bit]
  simp only [List.getD_eq_getElem?_getD, List.getElem?_replicate]
  split <;> split <;> simp
theorem ok_zero {n : Nat} (h1 : 1 ≤ n) (h2 : n ≤ 65536) : Ok n (List.replicate (room n) 0) := by
  refine ⟨h1, h2, by simp, fun i _ => ?_⟩
  rw [bit, List.getD_eq_getElem?_getD, List.getElem?_replicate]
  split <;> simp
theorem ok_set {n : Nat} {W : List UInt64} {k : Nat} {x : UInt64} (h : Ok n W) (hk : k < W.length) (hx : ∀ t, t < 64 → n ≤ 64 * k + t → x.toNat.testBit t = false) : Ok n (W.set k x) := by
  refine ⟨h.pos, h.max, by rw [List.length_set, h.len], fun i hi => ?_⟩
  rw [bit_set hk]
  split
  · rename_i e
    exact hx _ (Nat.mod_lt _ (by decide)) (by omega)
  · exact h.tail i hi
end Bm
end Go.Proofs.YtckbckdaffdjmaaDoor
