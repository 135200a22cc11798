/- Bits as words, words as bits: plain. -/
import Derived.Test.YtckbckdaffdjmaaDoorBmPop
namespace Go.Proofs.YtckbckdaffdjmaaDoor
set_option linter.unusedVariables false
set_option linter.unusedSimpArgs false
namespace Bm
/-- How many words n bits take. -/
def room (n : Nat) : Nat := (n + 63) / 64
/-- The word of k bits. -/
def wordOf : Nat → (Nat → Bool) → Nat
  | 0, _ => 0
  | k + 1, f => wordOf k f + (if f k = true then 2 ^ k else 0)
theorem wordOf_lt : ∀ (k : Nat) (f : Nat → Bool), wordOf k f < 2 ^ k
  | 0, _ => by simp [wordOf]
  | k + 1, f => by
    have := wordOf_lt k f
    rw [wordOf, Nat.pow_succ]
    split <;> omega
theorem wordOf_bit : ∀ (k : Nat) (f : Nat → Bool) (i : Nat), (wordOf k f).testBit i = (decide (i < k) && f i)
  | 0, f, i => by simp [wordOf]
  | k + 1, f, i => by
    have h := wordOf_lt k f
    have ih := wordOf_bit k f i
    rw [wordOf]
    by_cases hk : f k = true
    · rw [if_pos hk, show wordOf k f + 2 ^ k = 2 ^ k * 1 + wordOf k f by omega, Nat.testBit_two_pow_mul_add 1 h i]
      by_cases e : i < k
      · rw [if_pos e, ih]; simp [e]; intro; omega
      · rw [if_neg e]
        by_cases e2 : i = k
        · subst e2; simp [hk]
        · have : i - k ≠ 0 := by omega
          rw [Nat.testBit_lt_two_pow (Nat.one_lt_two_pow this)]
          simp; omega
    · rw [if_neg hk, Nat.add_zero, ih]
      by_cases e2 : i = k
      · subst e2; simp [hk]
      · have : decide (i < k + 1) = decide (i < k) := by simp; omega
        rw [this]
theorem wordOf_congr : ∀ (k : Nat) (f g : Nat → Bool), (∀ t, t < k → f t = g t) → wordOf k f = wordOf k g
  | 0, _, _, _ => rfl
  | k + 1, f, g, h => by rw [wordOf, wordOf, wordOf_congr k f g (fun t ht => h t (by omega)), h k (by omega)]
theorem wordOf_cut (f : Nat → Bool) (k : Nat) : ∀ (m : Nat), k ≤ m → (∀ t, k ≤ t → t < m → f t = false) → wordOf m f = wordOf k f
  | 0, h, _ => by have : k = 0 := by omega
                  subst this; rfl
  | m + 1, h, hf => by
    by_cases e : k = m + 1
    · subst e; rfl
    · rw [wordOf, if_neg (by rw [hf m (by omega) (by omega)]; decide), Nat.add_zero, wordOf_cut f k m (by omega) (fun t h1 h2 => hf t h1 (by omega))]
theorem word_ext {x y : UInt64} (h : ∀ i, i < 64 → x.toNat.testBit i = y.toNat.testBit i) : x = y := by
  refine UInt64.toNat_inj.1 (Nat.eq_of_testBit_eq fun i => ?_)
  by_cases e : i < 64
  · exact h i e
  · rw [Nat.testBit_lt_two_pow (Nat.lt_of_lt_of_le x.toNat_lt (Nat.pow_le_pow_right (by decide) (by omega))), Nat.testBit_lt_two_pow (Nat.lt_of_lt_of_le y.toNat_lt (Nat.pow_le_pow_right (by decide) (by omega)))]
theorem toNat_of {z : Nat} (h : z < 18446744073709551616) : (UInt64.ofNat z).toNat = z := by
  rw [UInt64.toNat_ofNat']; exact Nat.mod_eq_of_lt h
theorem wordOf64 (f : Nat → Bool) : (UInt64.ofNat (wordOf 64 f)).toNat = wordOf 64 f := toNat_of (wordOf_lt 64 f)

/-- Bit i of a list of words. -/
def bit (W : List UInt64) (i : Nat) : Bool := (W.getD (i / 64) 0).toNat.testBit (i % 64)
/-- The first n bits. -/
def bools (n : Nat) (W : List UInt64) : List Bool := (List.range n).map (bit W)
theorem bools_length (n : Nat) (W : List UInt64) : (bools n W).length = n := by simp [bools]
theorem bools_get {n : Nat} {W : List UInt64} {i : Nat} (h : i < n) : (bools n W)[i]? = some (bit W i) := by simp [bools, h]
theorem bools_getD (n : Nat) (W : List UInt64) (i : Nat) : (bools n W).getD i false = (decide (i < n) && bit W i) := by
  rw [List.getD_eq_getElem?_getD]
  by_cases h : i < n
  · rw [bools_get h]; simp [h]
  · rw [List.getElem?_eq_none (by rw [bools_length]; omega)]; simp [h]
/-- The bits below i, as words of n bits. -/
def packTo (i : Nat) (bs : List Bool) : List UInt64 := (List.range (room bs.length)).map fun j => UInt64.ofNat (wordOf 64 fun t => decide (64 * j + t < i) && bs.getD (64 * j + t) false)
/-- Bits as words. -/
def pack (bs : List Bool) : List UInt64 := (List.range (room bs.length)).map fun j => UInt64.ofNat (wordOf 64 fun t => bs.getD (64 * j + t) false)
theorem packTo_length (i : Nat) (bs : List Bool) : (packTo i bs).length = room bs.length := by simp [packTo]
theorem pack_length (bs : List Bool) : (pack bs).length = room bs.length := by simp [pack]
theorem packTo_zero (bs : List Bool) : packTo 0 bs = List.replicate (room bs.length) 0 := by
  have h : ∀ j, (UInt64.ofNat (wordOf 64 fun t => decide (64 * j + t < 0) && bs.getD (64 * j + t) false)) = 0 := fun j => by
    rw [wordOf_cut _ 0 64 (by omega) (fun t _ _ => by simp)]; rfl
  unfold packTo
  simp only [h]
  simp [List.map_const']
theorem packTo_all (bs : List Bool) : packTo bs.length bs = pack bs := by
  unfold packTo pack
  refine List.map_congr_left fun j _ => ?_
  rw [wordOf_congr 64 _ _ fun t _ => ?_]
  by_cases h : 64 * j + t < bs.length
  · simp [h]
  · rw [List.getD_eq_getElem?_getD, List.getElem?_eq_none (by omega)]; simp
theorem packTo_get (i : Nat) (bs : List Bool) {j : Nat} (h : j < room bs.length) : (packTo i bs)[j]? = some (UInt64.ofNat (wordOf 64 fun t => decide (64 * j + t < i) && bs.getD (64 * j + t) false)) := by simp [packTo, h]
theorem pack_get (bs : List Bool) {j : Nat} (h : j < room bs.length) : (pack bs)[j]? = some (UInt64.ofNat (wordOf 64 fun t => bs.getD (64 * j + t) false)) := by simp [pack, h]
theorem room_lt {i n : Nat} (h : i < n) : i / 64 < room n := by unfold room; omega
/-- One bit more. -/
theorem packTo_next {i : Nat} {bs : List Bool} {b : Bool} (hi : bs[i]? = some b) {x : UInt64} (hx : (packTo i bs)[i / 64]? = some x) :
    x.toNat + (if b = true then 2 ^ (i % 64) else 0) < 18446744073709551616 ∧ packTo (i + 1) bs = (packTo i bs).set (i / 64) (UInt64.ofNat (x.toNat + (if b = true then 2 ^ (i % 64) else 0))) := by
  have hlt : i < bs.length := (List.getElem?_eq_some_iff.1 hi).1
  have hr := room_lt hlt
  have hb : bs.getD i false = b := by rw [List.getD_eq_getElem?_getD, hi]; rfl
  rw [packTo_get i bs hr] at hx
  injection hx with hx
  have hq : 64 * (i / 64) + i % 64 = i := by omega
  have e1 : wordOf 64 (fun t => decide (64 * (i / 64) + t < i) && bs.getD (64 * (i / 64) + t) false) = wordOf (i % 64) (fun t => bs.getD (64 * (i / 64) + t) false) := by
    rw [wordOf_cut _ (i % 64) 64 (by omega) (fun t h1 h2 => by simp; intro; omega)]
    exact wordOf_congr _ _ _ fun t ht => by rw [decide_eq_true (by omega)]; rfl
  have e2 : wordOf 64 (fun t => decide (64 * (i / 64) + t < i + 1) && bs.getD (64 * (i / 64) + t) false) = wordOf (i % 64) (fun t => bs.getD (64 * (i / 64) + t) false) + (if b = true then 2 ^ (i % 64) else 0) := by
    rw [wordOf_cut _ (i % 64 + 1) 64 (by omega) (fun t h1 h2 => by simp; intro; omega)]
    rw [wordOf_congr _ _ (fun t => bs.getD (64 * (i / 64) + t) false) fun t ht => by rw [decide_eq_true (by omega)]; rfl]
    rw [wordOf, hq, hb]
  have hxn : x.toNat = wordOf (i % 64) (fun t => bs.getD (64 * (i / 64) + t) false) := by rw [← hx, wordOf64, e1]
  have hs : x.toNat + (if b = true then 2 ^ (i % 64) else 0) = wordOf 64 (fun t => decide (64 * (i / 64) + t < i + 1) && bs.getD (64 * (i / 64) + t) false) := by rw [e2, hxn]
  refine ⟨by rw [hs]; exact wordOf_lt 64 _, ?_⟩
  apply List.ext_getElem?
  intro j
  by_cases hj : j < room bs.length
  · rw [packTo_get _ _ hj]
    by_cases e : i / 64 = j
    · subst e
      rw [List.getElem?_set_self (by rw [packTo_length]; exact hj), hs]
    · rw [List.getElem?_set_ne e, packTo_get _ _ hj, wordOf_congr 64 _ _ fun t ht => ?_]
      have : decide (64 * j + t < i + 1) = decide (64 * j + t < i) := by simp; omega
      rw [this]
  · rw [List.getElem?_eq_none (by rw [packTo_length]; omega), List.getElem?_eq_none (by rw [List.length_set, packTo_length]; omega)]
theorem packTo_skip {i : Nat} {bs : List Bool} (hi : bs[i]? = some false) : packTo (i + 1) bs = packTo i bs := by
  have hlt : i < bs.length := (List.getElem?_eq_some_iff.1 hi).1
  have hx := packTo_get i bs (room_lt hlt)
  rw [(packTo_next hi hx).2]
  apply List.ext_getElem?
  intro j
  by_cases e : i / 64 = j
  · subst e
    rw [List.getElem?_set_self (by rw [packTo_length]; exact room_lt hlt), hx, if_neg (by decide), Nat.add_zero, UInt64.ofNat_toNat]
  · rw [List.getElem?_set_ne e]
theorem pack_bit {bs : List Bool} (i : Nat) : bit (pack bs) i = bs.getD i false := by
  unfold bit
  by_cases h : i < 64 * room bs.length
  · rw [List.getD_eq_getElem?_getD, pack_get bs (show i / 64 < room bs.length by omega)]
    simp only [Option.getD_some]
    rw [wordOf64, wordOf_bit, decide_eq_true (by omega), Bool.true_and, show 64 * (i / 64) + i % 64 = i by omega]
  · rw [List.getD_eq_getElem?_getD, List.getElem?_eq_none (by rw [pack_length]; omega), List.getD_eq_getElem?_getD, List.getElem?_eq_none (by unfold room at h; omega)]
    simp
theorem words_ext {V W : List UInt64} (hl : V.length = W.length) (h : ∀ i, bit V i = bit W i) : V = W := by
  refine List.ext_getElem hl fun j h1 h2 => word_ext fun i hi => ?_
  have := h (64 * j + i)
  unfold bit at this
  rw [show (64 * j + i) / 64 = j by omega, show (64 * j + i) % 64 = i by omega] at this
  simpa [List.getD_eq_getElem?_getD, h1, h2] using this

/-- What stands as a lower level of n bits: the error's number. -/
def validE (n : Nat) (W : List UInt64) : Nat :=
  if W.length ≠ room n then 3 else if n % 64 ≠ 0 ∧ (W.getD (W.length - 1) 0).toNat / 2 ^ (n % 64) ≠ 0 then 2 else 0
/-- n bits in words. -/
structure Ok (n : Nat) (W : List UInt64) : Prop where
  pos : 1 ≤ n
  max : n ≤ 65536
  len : W.length = room n
  tail : ∀ i, n ≤ i → bit W i = false
theorem ok_of_valid {n : Nat} {W : List UInt64} (h1 : 1 ≤ n) (h2 : n ≤ 65536) (h : validE n W = 0) : Ok n W := by
  unfold validE at h
  split at h
  · cases h
  · rename_i hl
    have hl : W.length = room n := by omega
    split at h
    · cases h
    · rename_i ht
      refine ⟨h1, h2, hl, fun i hi => ?_⟩
      unfold bit
      by_cases e : i / 64 < room n
      · have hr : room n = (n + 63) / 64 := rfl
        have hm : n % 64 ≠ 0 := fun e' => by omega
        have hq : i / 64 = W.length - 1 := by omega
        have hz : (W.getD (W.length - 1) 0).toNat / 2 ^ (n % 64) = 0 := by
          rcases Nat.eq_zero_or_pos ((W.getD (W.length - 1) 0).toNat / 2 ^ (n % 64)) with h | h
          · exact h
          · exact absurd ⟨hm, by omega⟩ ht
        rw [hq]
        have hlt : (W.getD (W.length - 1) 0).toNat < 2 ^ (n % 64) := by
          rcases Nat.lt_or_ge (W.getD (W.length - 1) 0).toNat (2 ^ (n % 64)) with h | h
          · exact h
          · have := Nat.div_pos h (Nat.two_pow_pos _); omega
        exact Nat.testBit_lt_two_pow (Nat.lt_of_lt_of_le hlt (Nat.pow_le_pow_right (by decide) (by omega)))
      · rw [List.getD_eq_getElem?_getD, List.getElem?_eq_none (by omega)]
        simp
theorem valid_of_ok {n : Nat} {W : List UInt64} (h : Ok n W) : validE n W = 0 := by
  unfold validE
  rw [if_neg (by have := h.len; omega)]
  split
  · rename_i ht
    exfalso
    refine ht.2 (Nat.div_eq_of_lt ?_)
    have hr : room n = (n + 63) / 64 := rfl
    have hl := h.len
    have hp := h.pos
    refine Nat.lt_pow_two_of_testBit _ fun i hi => ?_
    by_cases e : i < 64
    · have := h.tail (64 * (W.length - 1) + i) (by omega)
      unfold bit at this
      rwa [show (64 * (W.length - 1) + i) / 64 = W.length - 1 by omega, show (64 * (W.length - 1) + i) % 64 = i by omega] at this
    · exact Nat.testBit_lt_two_pow (Nat.lt_of_lt_of_le (UInt64.toNat_lt _) (Nat.pow_le_pow_right (by decide) (by omega)))
  · rfl
theorem pack_bools {n : Nat} {W : List UInt64} (h : Ok n W) : pack (bools n W) = W := by
  refine words_ext (by rw [pack_length, bools_length, h.len]) fun i => ?_
  rw [pack_bit, bools_getD]
  by_cases e : i < n
  · simp [e]
  · rw [h.tail i (by omega)]; simp
end Bm
end Go.Proofs.YtckbckdaffdjmaaDoor
