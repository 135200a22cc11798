/- Walks and plain laws of the packets and frames, joined from: BmSpec, BmSpec2, BmLib, BmOne, BmNew, BmLay, BmFrom, BmTell, RmLib, RmNew, RmNew2, RmTell, RmCount, BkU, BkK. -/
import Derived.Test.YtckbckdaffdjmaaDoorMk1
import Derived.Laws.BitsAllLaws
import Derived.Deep.OwnRows
import Derived.Laws.CopyOwn
import Derived.Deep.Cut
import Derived.Maps.AppendAt
import Derived.Laws.OwnMore
/- Bits as words, words as bits: plain. -/
namespace Go.Proofs.YtckbckdaffdjmaaDoor
set_option linter.unusedVariables false
set_option linter.unusedSimpArgs false
namespace Bm
/-- How many words n bits take. -/
def room (n : Nat) : Nat := (n + 63) / 64
/-- The word of k bits. -/
def wordOf : Nat → (Nat → Bool) → Nat
  | 0, _ => 0
  | k + 1, f => wordOf k f + (if f k = true then 2 ^ k else 0)
theorem wordOf_lt : ∀ (k : Nat) (f : Nat → Bool), wordOf k f < 2 ^ k
  | 0, _ => by simp [wordOf]
  | k + 1, f => by
    have := wordOf_lt k f
    rw [wordOf, Nat.pow_succ]
    split <;> omega
theorem wordOf_bit : ∀ (k : Nat) (f : Nat → Bool) (i : Nat), (wordOf k f).testBit i = (decide (i < k) && f i)
  | 0, f, i => by simp [wordOf]
  | k + 1, f, i => by
    have h := wordOf_lt k f
    have ih := wordOf_bit k f i
    rw [wordOf]
    by_cases hk : f k = true
    · rw [if_pos hk, show wordOf k f + 2 ^ k = 2 ^ k * 1 + wordOf k f by omega, Nat.testBit_two_pow_mul_add 1 h i]
      by_cases e : i < k
      · rw [if_pos e, ih]; simp [e]; intro; omega
      · rw [if_neg e]
        by_cases e2 : i = k
        · subst e2; simp [hk]
        · have : i - k ≠ 0 := by omega
          rw [Nat.testBit_lt_two_pow (Nat.one_lt_two_pow this)]
          simp; omega
    · rw [if_neg hk, Nat.add_zero, ih]
      by_cases e2 : i = k
      · subst e2; simp [hk]
      · have : decide (i < k + 1) = decide (i < k) := by simp; omega
        rw [this]
theorem wordOf_congr : ∀ (k : Nat) (f g : Nat → Bool), (∀ t, t < k → f t = g t) → wordOf k f = wordOf k g
  | 0, _, _, _ => rfl
  | k + 1, f, g, h => by rw [wordOf, wordOf, wordOf_congr k f g (fun t ht => h t (by omega)), h k (by omega)]
theorem wordOf_cut (f : Nat → Bool) (k : Nat) : ∀ (m : Nat), k ≤ m → (∀ t, k ≤ t → t < m → f t = false) → wordOf m f = wordOf k f
  | 0, h, _ => by have : k = 0 := by omega
                  subst this; rfl
  | m + 1, h, hf => by
    by_cases e : k = m + 1
    · subst e; rfl
    · rw [wordOf, if_neg (by rw [hf m (by omega) (by omega)]; decide), Nat.add_zero, wordOf_cut f k m (by omega) (fun t h1 h2 => hf t h1 (by omega))]
theorem word_ext {x y : UInt64} (h : ∀ i, i < 64 → x.toNat.testBit i = y.toNat.testBit i) : x = y := by
  refine UInt64.toNat_inj.1 (Nat.eq_of_testBit_eq fun i => ?_)
  by_cases e : i < 64
  · exact h i e
  · rw [Nat.testBit_lt_two_pow (Nat.lt_of_lt_of_le x.toNat_lt (Nat.pow_le_pow_right (by decide) (by omega))), Nat.testBit_lt_two_pow (Nat.lt_of_lt_of_le y.toNat_lt (Nat.pow_le_pow_right (by decide) (by omega)))]
theorem toNat_of {z : Nat} (h : z < 18446744073709551616) : (UInt64.ofNat z).toNat = z := by
  rw [UInt64.toNat_ofNat']; exact Nat.mod_eq_of_lt h
theorem wordOf64 (f : Nat → Bool) : (UInt64.ofNat (wordOf 64 f)).toNat = wordOf 64 f := toNat_of (wordOf_lt 64 f)

/-- Bit i of a list of words. -/
def bit (W : List UInt64) (i : Nat) : Bool := (W.getD (i / 64) 0).toNat.testBit (i % 64)
/-- The first n bits. -/
def bools (n : Nat) (W : List UInt64) : List Bool := (List.range n).map (bit W)
theorem bools_length (n : Nat) (W : List UInt64) : (bools n W).length = n := by simp [bools]
theorem bools_get {n : Nat} {W : List UInt64} {i : Nat} (h : i < n) : (bools n W)[i]? = some (bit W i) := by simp [bools, h]
theorem bools_getD (n : Nat) (W : List UInt64) (i : Nat) : (bools n W).getD i false = (decide (i < n) && bit W i) := by
  rw [List.getD_eq_getElem?_getD]
  by_cases h : i < n
  · rw [bools_get h]; simp [h]
  · rw [List.getElem?_eq_none (by rw [bools_length]; omega)]; simp [h]
/-- The bits below i, as words of n bits. -/
def packTo (i : Nat) (bs : List Bool) : List UInt64 := (List.range (room bs.length)).map fun j => UInt64.ofNat (wordOf 64 fun t => decide (64 * j + t < i) && bs.getD (64 * j + t) false)
/-- Bits as words. -/
def pack (bs : List Bool) : List UInt64 := (List.range (room bs.length)).map fun j => UInt64.ofNat (wordOf 64 fun t => bs.getD (64 * j + t) false)
theorem packTo_length (i : Nat) (bs : List Bool) : (packTo i bs).length = room bs.length := by simp [packTo]
theorem pack_length (bs : List Bool) : (pack bs).length = room bs.length := by simp [pack]
theorem packTo_zero (bs : List Bool) : packTo 0 bs = List.replicate (room bs.length) 0 := by
  have h : ∀ j, (UInt64.ofNat (wordOf 64 fun t => decide (64 * j + t < 0) && bs.getD (64 * j + t) false)) = 0 := fun j => by
    rw [wordOf_cut _ 0 64 (by omega) (fun t _ _ => by simp)]; rfl
  unfold packTo
  simp only [h]
  simp [List.map_const']
theorem packTo_all (bs : List Bool) : packTo bs.length bs = pack bs := by
  unfold packTo pack
  refine List.map_congr_left fun j _ => ?_
  rw [wordOf_congr 64 _ _ fun t _ => ?_]
  by_cases h : 64 * j + t < bs.length
  · simp [h]
  · rw [List.getD_eq_getElem?_getD, List.getElem?_eq_none (by omega)]; simp
theorem packTo_get (i : Nat) (bs : List Bool) {j : Nat} (h : j < room bs.length) : (packTo i bs)[j]? = some (UInt64.ofNat (wordOf 64 fun t => decide (64 * j + t < i) && bs.getD (64 * j + t) false)) := by simp [packTo, h]
theorem pack_get (bs : List Bool) {j : Nat} (h : j < room bs.length) : (pack bs)[j]? = some (UInt64.ofNat (wordOf 64 fun t => bs.getD (64 * j + t) false)) := by simp [pack, h]
theorem room_lt {i n : Nat} (h : i < n) : i / 64 < room n := by unfold room; omega
/-- One bit more. -/
theorem packTo_next {i : Nat} {bs : List Bool} {b : Bool} (hi : bs[i]? = some b) {x : UInt64} (hx : (packTo i bs)[i / 64]? = some x) :
    x.toNat + (if b = true then 2 ^ (i % 64) else 0) < 18446744073709551616 ∧ packTo (i + 1) bs = (packTo i bs).set (i / 64) (UInt64.ofNat (x.toNat + (if b = true then 2 ^ (i % 64) else 0))) := by
  have hlt : i < bs.length := (List.getElem?_eq_some_iff.1 hi).1
  have hr := room_lt hlt
  have hb : bs.getD i false = b := by rw [List.getD_eq_getElem?_getD, hi]; rfl
  rw [packTo_get i bs hr] at hx
  injection hx with hx
  have hq : 64 * (i / 64) + i % 64 = i := by omega
  have e1 : wordOf 64 (fun t => decide (64 * (i / 64) + t < i) && bs.getD (64 * (i / 64) + t) false) = wordOf (i % 64) (fun t => bs.getD (64 * (i / 64) + t) false) := by
    rw [wordOf_cut _ (i % 64) 64 (by omega) (fun t h1 h2 => by simp; intro; omega)]
    exact wordOf_congr _ _ _ fun t ht => by rw [decide_eq_true (by omega)]; rfl
  have e2 : wordOf 64 (fun t => decide (64 * (i / 64) + t < i + 1) && bs.getD (64 * (i / 64) + t) false) = wordOf (i % 64) (fun t => bs.getD (64 * (i / 64) + t) false) + (if b = true then 2 ^ (i % 64) else 0) := by
    rw [wordOf_cut _ (i % 64 + 1) 64 (by omega) (fun t h1 h2 => by simp; intro; omega)]
    rw [wordOf_congr _ _ (fun t => bs.getD (64 * (i / 64) + t) false) fun t ht => by rw [decide_eq_true (by omega)]; rfl]
    rw [wordOf, hq, hb]
  have hxn : x.toNat = wordOf (i % 64) (fun t => bs.getD (64 * (i / 64) + t) false) := by rw [← hx, wordOf64, e1]
  have hs : x.toNat + (if b = true then 2 ^ (i % 64) else 0) = wordOf 64 (fun t => decide (64 * (i / 64) + t < i + 1) && bs.getD (64 * (i / 64) + t) false) := by rw [e2, hxn]
  refine ⟨by rw [hs]; exact wordOf_lt 64 _, ?_⟩
  apply List.ext_getElem?
  intro j
  by_cases hj : j < room bs.length
  · rw [packTo_get _ _ hj]
    by_cases e : i / 64 = j
    · subst e
      rw [List.getElem?_set_self (by rw [packTo_length]; exact hj), hs]
    · rw [List.getElem?_set_ne e, packTo_get _ _ hj, wordOf_congr 64 _ _ fun t ht => ?_]
      have : decide (64 * j + t < i + 1) = decide (64 * j + t < i) := by simp; omega
      rw [this]
  · rw [List.getElem?_eq_none (by rw [packTo_length]; omega), List.getElem?_eq_none (by rw [List.length_set, packTo_length]; omega)]
theorem packTo_skip {i : Nat} {bs : List Bool} (hi : bs[i]? = some false) : packTo (i + 1) bs = packTo i bs := by
  have hlt : i < bs.length := (List.getElem?_eq_some_iff.1 hi).1
  have hx := packTo_get i bs (room_lt hlt)
  rw [(packTo_next hi hx).2]
  apply List.ext_getElem?
  intro j
  by_cases e : i / 64 = j
  · subst e
    rw [List.getElem?_set_self (by rw [packTo_length]; exact room_lt hlt), hx, if_neg (by decide), Nat.add_zero, UInt64.ofNat_toNat]
  · rw [List.getElem?_set_ne e]
theorem pack_bit {bs : List Bool} (i : Nat) : bit (pack bs) i = bs.getD i false := by
  unfold bit
  by_cases h : i < 64 * room bs.length
  · rw [List.getD_eq_getElem?_getD, pack_get bs (show i / 64 < room bs.length by omega)]
    simp only [Option.getD_some]
    rw [wordOf64, wordOf_bit, decide_eq_true (by omega), Bool.true_and, show 64 * (i / 64) + i % 64 = i by omega]
  · rw [List.getD_eq_getElem?_getD, List.getElem?_eq_none (by rw [pack_length]; omega), List.getD_eq_getElem?_getD, List.getElem?_eq_none (by unfold room at h; omega)]
    simp
theorem words_ext {V W : List UInt64} (hl : V.length = W.length) (h : ∀ i, bit V i = bit W i) : V = W := by
  refine List.ext_getElem hl fun j h1 h2 => word_ext fun i hi => ?_
  have := h (64 * j + i)
  unfold bit at this
  rw [show (64 * j + i) / 64 = j by omega, show (64 * j + i) % 64 = i by omega] at this
  simpa [List.getD_eq_getElem?_getD, h1, h2] using this

/-- What stands as a lower level of n bits: the error's number. -/
def validE (n : Nat) (W : List UInt64) : Nat :=
  if W.length ≠ room n then 3 else if n % 64 ≠ 0 ∧ (W.getD (W.length - 1) 0).toNat / 2 ^ (n % 64) ≠ 0 then 2 else 0
/-- n bits in words. -/
structure Ok (n : Nat) (W : List UInt64) : Prop where
  pos : 1 ≤ n
  max : n ≤ 65536
  len : W.length = room n
  tail : ∀ i, n ≤ i → bit W i = false
theorem ok_of_valid {n : Nat} {W : List UInt64} (h1 : 1 ≤ n) (h2 : n ≤ 65536) (h : validE n W = 0) : Ok n W := by
  unfold validE at h
  split at h
  · cases h
  · rename_i hl
    have hl : W.length = room n := by omega
    split at h
    · cases h
    · rename_i ht
      refine ⟨h1, h2, hl, fun i hi => ?_⟩
      unfold bit
      by_cases e : i / 64 < room n
      · have hr : room n = (n + 63) / 64 := rfl
        have hm : n % 64 ≠ 0 := fun e' => by omega
        have hq : i / 64 = W.length - 1 := by omega
        have hz : (W.getD (W.length - 1) 0).toNat / 2 ^ (n % 64) = 0 := by
          rcases Nat.eq_zero_or_pos ((W.getD (W.length - 1) 0).toNat / 2 ^ (n % 64)) with h | h
          · exact h
          · exact absurd ⟨hm, by omega⟩ ht
        rw [hq]
        have hlt : (W.getD (W.length - 1) 0).toNat < 2 ^ (n % 64) := by
          rcases Nat.lt_or_ge (W.getD (W.length - 1) 0).toNat (2 ^ (n % 64)) with h | h
          · exact h
          · have := Nat.div_pos h (Nat.two_pow_pos _); omega
        exact Nat.testBit_lt_two_pow (Nat.lt_of_lt_of_le hlt (Nat.pow_le_pow_right (by decide) (by omega)))
      · rw [List.getD_eq_getElem?_getD, List.getElem?_eq_none (by omega)]
        simp
theorem valid_of_ok {n : Nat} {W : List UInt64} (h : Ok n W) : validE n W = 0 := by
  unfold validE
  rw [if_neg (by have := h.len; omega)]
  split
  · rename_i ht
    exfalso
    refine ht.2 (Nat.div_eq_of_lt ?_)
    have hr : room n = (n + 63) / 64 := rfl
    have hl := h.len
    have hp := h.pos
    refine Nat.lt_pow_two_of_testBit _ fun i hi => ?_
    by_cases e : i < 64
    · have := h.tail (64 * (W.length - 1) + i) (by omega)
      unfold bit at this
      rwa [show (64 * (W.length - 1) + i) / 64 = W.length - 1 by omega, show (64 * (W.length - 1) + i) % 64 = i by omega] at this
    · exact Nat.testBit_lt_two_pow (Nat.lt_of_lt_of_le (UInt64.toNat_lt _) (Nat.pow_le_pow_right (by decide) (by omega)))
  · rfl
theorem pack_bools {n : Nat} {W : List UInt64} (h : Ok n W) : pack (bools n W) = W := by
  refine words_ext (by rw [pack_length, bools_length, h.len]) fun i => ?_
  rw [pack_bit, bools_getD]
  by_cases e : i < n
  · simp [e]
  · rw [h.tail i (by omega)]; simp
end Bm
end Go.Proofs.YtckbckdaffdjmaaDoor

/- How many bits are set; the upper level: plain. -/
namespace Go.Proofs.YtckbckdaffdjmaaDoor
set_option linter.unusedVariables false
set_option linter.unusedSimpArgs false
namespace Bm
/-- How many of m from a on are so. -/
def cnt (f : Nat → Bool) (a : Nat) : Nat → Nat
  | 0 => 0
  | m + 1 => cnt f a m + (if f (a + m) = true then 1 else 0)
theorem cnt_le (f : Nat → Bool) (a : Nat) : ∀ m, cnt f a m ≤ m
  | 0 => Nat.le_refl _
  | m + 1 => by have := cnt_le f a m; rw [cnt]; split <;> omega
theorem cnt_add (f : Nat → Bool) (a m : Nat) : ∀ k, cnt f a (m + k) = cnt f a m + cnt f (a + m) k
  | 0 => by simp [cnt]
  | k + 1 => by rw [show m + (k + 1) = (m + k) + 1 by omega, cnt, cnt, cnt_add f a m k, Nat.add_assoc a m k]; omega
theorem cnt_congr {f g : Nat → Bool} {a b : Nat} : ∀ m, (∀ t, t < m → f (a + t) = g (b + t)) → cnt f a m = cnt g b m
  | 0, _ => rfl
  | m + 1, h => by rw [cnt, cnt, cnt_congr m (fun t ht => h t (by omega)), h m (by omega)]
theorem cnt_none {f : Nat → Bool} {a : Nat} : ∀ m, (∀ t, t < m → f (a + t) = false) → cnt f a m = 0
  | 0, _ => rfl
  | m + 1, h => by rw [cnt, cnt_none m (fun t ht => h t (by omega)), h m (by omega)]; rfl
theorem cnt_succ (f : Nat → Bool) (a m : Nat) : cnt f a (m + 1) = (if f a = true then 1 else 0) + cnt f (a + 1) m := by
  rw [Nat.add_comm m 1, cnt_add]; rw [show cnt f a 1 = (if f a = true then 1 else 0) by simp [cnt]]
theorem pop_cnt : ∀ (k x : Nat), pop k x = cnt x.testBit 0 k
  | 0, x => rfl
  | k + 1, x => by
    rw [pop, cnt_succ, pop_cnt k (x / 2)]
    have h1 : cnt x.testBit (0 + 1) k = cnt (x / 2).testBit 0 k := cnt_congr k fun t _ => by rw [Nat.zero_add, Nat.zero_add, Nat.add_comm 1 t, Nat.testBit_succ]
    rw [h1]
    have h2 : (if x.testBit 0 = true then 1 else 0) = x % 2 := by
      rw [Nat.testBit_zero]
      rcases Nat.mod_two_eq_zero_or_one x with e | e <;> simp [e]
    rw [h2]
/-- How many bits are set. -/
def ones' : List UInt64 → Nat
  | [] => 0
  | x :: r => pop 64 x.toNat + ones' r
theorem ones_set : ∀ {W : List UInt64} {k : Nat} {x y : UInt64}, W[k]? = some x → ones' (W.set k y) + pop 64 x.toNat = ones' W + pop 64 y.toNat
  | [], k, x, y, h => by simp at h
  | z :: r, 0, x, y, h => by
    simp only [List.getElem?_cons_zero, Option.some.injEq] at h
    subst h
    simp only [List.set_cons_zero, ones']; omega
  | z :: r, k + 1, x, y, h => by
    have := ones_set (W := r) (k := k) (y := y) (by simpa using h)
    simp only [List.set_cons_succ, ones']; omega
theorem ones_le : ∀ (W : List UInt64), ones' W ≤ 64 * W.length
  | [] => Nat.le_refl _
  | x :: r => by have := ones_le r; have := pop_le 64 x.toNat; simp only [ones', List.length_cons]; omega
theorem pop_le_ones : ∀ {W : List UInt64} {k : Nat} {x : UInt64}, W[k]? = some x → pop 64 x.toNat ≤ ones' W
  | [], k, x, h => by simp at h
  | z :: r, 0, x, h => by
    simp only [List.getElem?_cons_zero, Option.some.injEq] at h
    subst h; simp only [ones']; omega
  | z :: r, k + 1, x, h => by
    have := pop_le_ones (W := r) (k := k) (by simpa using h)
    simp only [ones']; omega
theorem bit_cons (x : UInt64) (r : List UInt64) (i : Nat) : bit (x :: r) (64 + i) = bit r i := by
  unfold bit
  rw [show (64 + i) / 64 = i / 64 + 1 by omega, show (64 + i) % 64 = i % 64 by omega]
  rfl
theorem bit_head (x : UInt64) (r : List UInt64) {i : Nat} (h : i < 64) : bit (x :: r) i = x.toNat.testBit i := by
  unfold bit
  rw [show i / 64 = 0 by omega, show i % 64 = i by omega]
  rfl
theorem ones_cnt : ∀ (W : List UInt64), ones' W = cnt (bit W) 0 (64 * W.length)
  | [] => rfl
  | x :: r => by
    rw [ones', List.length_cons, Nat.mul_succ, Nat.add_comm (64 * r.length) 64, cnt_add, pop_cnt]
    have h1 : cnt x.toNat.testBit 0 64 = cnt (bit (x :: r)) 0 64 := cnt_congr 64 fun t ht => by rw [Nat.zero_add, bit_head x r ht]
    have h2 : cnt (bit (x :: r)) (0 + 64) (64 * r.length) = cnt (bit r) 0 (64 * r.length) := cnt_congr _ fun t _ => by rw [Nat.zero_add, Nat.zero_add, bit_cons]
    rw [h1, h2, ones_cnt r]
theorem ones_ok {n : Nat} {W : List UInt64} (h : Ok n W) : ones' W = cnt (bit W) 0 n := by
  have hl := h.len
  have hr : room n = (n + 63) / 64 := rfl
  rw [ones_cnt, show 64 * W.length = n + (64 * W.length - n) by omega, cnt_add, cnt_none (64 * W.length - n) fun t _ => h.tail _ (by omega), Nat.add_zero]
theorem ones_zero (n : Nat) : ones' (List.replicate n 0) = 0 := by
  induction n with
  | zero => rfl
  | succ n ih => rw [List.replicate_succ, ones', ih]; rfl
/-- The upper level. -/
def upper (W : List UInt64) : List UInt64 := pack (W.map fun x => decide (x ≠ 0))
theorem upper_length (W : List UInt64) : (upper W).length = room W.length := by simp [upper, pack_length]
theorem upper_bit (W : List UInt64) (k : Nat) : bit (upper W) k = decide (W.getD k 0 ≠ 0) := by
  rw [upper, pack_bit]
  simp only [List.getD_eq_getElem?_getD, List.getElem?_map]
  cases h : W[k]? <;> simp
theorem bit_set {W : List UInt64} {k : Nat} {x : UInt64} (hk : k < W.length) (i : Nat) : bit (W.set k x) i = if i / 64 = k then x.toNat.testBit (i % 64) else bit W i := by
  unfold bit
  simp only [List.getD_eq_getElem?_getD]
  by_cases e : i / 64 = k
  · rw [if_pos e, e, List.getElem?_set_self hk]; rfl
  · rw [if_neg e, List.getElem?_set_ne (Ne.symm e)]
/-- A bit more, a bit less. -/
def on (u r : Nat) : Nat := u ||| 2 ^ r
def off (u r : Nat) : Nat := u &&& (18446744073709551615 - 2 ^ r)
theorem on_bit (u r i : Nat) : (on u r).testBit i = (u.testBit i || decide (r = i)) := by
  rw [on, Nat.testBit_or, Nat.testBit_two_pow]
theorem mask_bit {r : Nat} (hr : r < 64) (i : Nat) : (18446744073709551615 - 2 ^ r).testBit i = (decide (i < 64) && !decide (r = i)) := by
  have hp : 2 ^ r < 2 ^ 64 := Nat.pow_lt_pow_right (by decide) hr
  rw [show 18446744073709551615 - 2 ^ r = 2 ^ 64 - (2 ^ r + 1) by omega, Nat.testBit_two_pow_sub_succ hp, Nat.testBit_two_pow]
theorem off_bit {r : Nat} (hr : r < 64) (u i : Nat) : (off u r).testBit i = (u.testBit i && (decide (i < 64) && !decide (r = i))) := by
  rw [off, Nat.testBit_and, mask_bit hr]
theorem on_lt {u r : Nat} (hu : u < 18446744073709551616) (hr : r < 64) : on u r < 18446744073709551616 := Nat.or_lt_two_pow (n := 64) hu (Nat.pow_lt_pow_right (by decide) hr)
theorem off_lt {u r : Nat} (hr : r < 64) : off u r < 18446744073709551616 := Nat.and_lt_two_pow (n := 64) _ (by have := Nat.two_pow_pos r; omega)
theorem upper_set {W : List UInt64} {k : Nat} {x u : UInt64} (hk : k < W.length) (hu : (upper W)[k / 64]? = some u) :
    upper (W.set k x) = (upper W).set (k / 64) (UInt64.ofNat (if x ≠ 0 then on u.toNat (k % 64) else off u.toNat (k % 64))) := by
  have hr : k % 64 < 64 := Nat.mod_lt _ (by decide)
  have hlt : k / 64 < (upper W).length := by rw [upper_length]; exact room_lt hk
  refine words_ext (by rw [List.length_set, upper_length, upper_length, List.length_set]) fun i => ?_
  rw [upper_bit, bit_set hlt]
  have hub : ∀ t, t < 64 → u.toNat.testBit t = decide (W.getD (64 * (k / 64) + t) 0 ≠ 0) := fun t ht => by
    rw [← upper_bit, bit, List.getD_eq_getElem?_getD, show (64 * (k / 64) + t) / 64 = k / 64 by omega, hu, show (64 * (k / 64) + t) % 64 = t by omega]; rfl
  by_cases e : i / 64 = k / 64
  · rw [if_pos e]
    have hi : 64 * (k / 64) + i % 64 = i := by omega
    have hz : (UInt64.ofNat (if x ≠ 0 then on u.toNat (k % 64) else off u.toNat (k % 64))).toNat = if x ≠ 0 then on u.toNat (k % 64) else off u.toNat (k % 64) := toNat_of (by split; exact on_lt u.toNat_lt hr; exact off_lt hr)
    rw [hz]
    by_cases ei : i = k
    · subst ei
      rw [List.getD_eq_getElem?_getD, List.getElem?_set_self hk, Option.getD_some]
      split
      · rename_i hx; rw [on_bit]; simp [hx]
      · rename_i hx; rw [off_bit hr]; simp [hx]
    · rw [List.getD_eq_getElem?_getD, List.getElem?_set_ne (Ne.symm ei), ← List.getD_eq_getElem?_getD]
      have h1 := hub (i % 64) (Nat.mod_lt _ (by decide))
      rw [hi] at h1
      have hne : k % 64 ≠ i % 64 := by omega
      split
      · rw [on_bit, h1]; simp [hne]
      · rw [off_bit hr, h1]; simp [hne, Nat.mod_lt]
  · rw [if_neg e, upper_bit, List.getD_eq_getElem?_getD, List.getElem?_set_ne (by intro h; subst h; exact e rfl), ← List.getD_eq_getElem?_getD]
theorem bools_zero {n : Nat} : bools n (List.replicate (room n) 0) = List.replicate n false := by
  apply List.ext_getElem?
  intro i
  by_cases h : i < n
  · rw [bools_get h, bit, List.getD_eq_getElem?_getD, List.getElem?_replicate, if_pos (room_lt h), List.getElem?_replicate, if_pos h]
    simp
  · rw [List.getElem?_eq_none (by rw [bools_length]; omega), List.getElem?_eq_none (by simp; omega)]
theorem upper_zero (m : Nat) : upper (List.replicate m 0) = List.replicate (room m) 0 := by
  refine words_ext (by simp [upper_length]) fun i => ?_
  rw [upper_bit, bit]
  simp only [List.getD_eq_getElem?_getD, List.getElem?_replicate]
  split <;> split <;> simp
theorem ok_zero {n : Nat} (h1 : 1 ≤ n) (h2 : n ≤ 65536) : Ok n (List.replicate (room n) 0) := by
  refine ⟨h1, h2, by simp, fun i _ => ?_⟩
  rw [bit, List.getD_eq_getElem?_getD, List.getElem?_replicate]
  split <;> simp
theorem ok_set {n : Nat} {W : List UInt64} {k : Nat} {x : UInt64} (h : Ok n W) (hk : k < W.length) (hx : ∀ t, t < 64 → n ≤ 64 * k + t → x.toNat.testBit t = false) : Ok n (W.set k x) := by
  refine ⟨h.pos, h.max, by rw [List.length_set, h.len], fun i hi => ?_⟩
  rw [bit_set hk]
  split
  · rename_i e
    exact hx _ (Nat.mod_lt _ (by decide)) (by omega)
  · exact h.tail i hi
end Bm
end Go.Proofs.YtckbckdaffdjmaaDoor

/- Rows of the call's own; what changed (Mod); the program's bitmap in memory. -/
namespace Go.Proofs.YtckbckdaffdjmaaDoor
open Go.RowKit
set_option linter.unusedVariables false
set_option linter.unusedSimpArgs false

/-- What was there is as it was, but for the blocks of F. -/
structure Mod (F : Nat → Prop) (w w' : World) : Prop where
  os : w'.os = w.os
  tape : w'.tape = w.tape
  output : w'.output = w.output
  size : w.heap.size ≤ w'.heap.size
  block : ∀ k, k < w.heap.size → ¬ F k → w'.heap[k]? = w.heap[k]?
theorem Mod.refl (F : Nat → Prop) (w : World) : Mod F w w := ⟨rfl, rfl, rfl, Nat.le_refl _, fun _ _ _ => rfl⟩
theorem Mod.trans {F : Nat → Prop} {w w' w'' : World} (h : Mod F w w') (k : Mod F w' w'') : Mod F w w'' :=
  ⟨k.os.trans h.os, k.tape.trans h.tape, k.output.trans h.output, Nat.le_trans h.size k.size, fun i hi hf => (k.block i (Nat.lt_of_lt_of_le hi h.size) hf).trans (h.block i hi hf)⟩
theorem Mod.mono {F G : Nat → Prop} {w w' : World} (h : Mod F w w') (hg : ∀ k, k < w.heap.size → F k → G k) : Mod G w w' :=
  ⟨h.os, h.tape, h.output, h.size, fun i hi hf => h.block i hi (fun e => hf (hg i hi e))⟩
theorem Mod.of_below {F : Nat → Prop} {w w' : World} (h : Below w.heap.size w w') : Mod F w w' := ⟨h.os, h.tape, h.output, h.size, fun k hk _ => h.block k hk⟩
theorem Mod.below {F : Nat → Prop} {w w' : World} {B : Nat} (h : Mod F w w') (hB : B ≤ w.heap.size) (hf : ∀ k, F k → B ≤ k) : Below B w w' :=
  ⟨h.os, h.tape, h.output, h.size, fun k hk => h.block k (by omega) (fun e => by have := hf k e; omega)⟩
/-- Behind blocks that were made since. -/
theorem Mod.new {F : Nat → Prop} {w w1 w' : World} (hb : Below w.heap.size w w1) (h : Mod (fun k => F k ∨ w.heap.size ≤ k) w1 w') : Mod F w w' :=
  ⟨h.os.trans hb.os, h.tape.trans hb.tape, h.output.trans hb.output, Nat.le_trans hb.size h.size, fun k hk hf => (h.block k (Nat.lt_of_lt_of_le hk hb.size) (fun e => e.elim hf (by omega))).trans (hb.block k hk)⟩
theorem Mod.blk {F : Nat → Prop} {w w' : World} {k : Nat} {o : Obj} (h : Mod F w w') (hk : w.heap[k]? = some o) (hf : ¬ F k) : w'.heap[k]? = some o := (h.block k (heap_lt hk) hf).trans hk
theorem Mod.setCell {F : Nat → Prop} (w : World) (b o : Nat) (v : Value) (hf : F b) : Mod F w (w.setCell ⟨b, o, none⟩ v) :=
  ⟨rfl, rfl, rfl, by simp [World.setCell], fun k hk hn => by
    unfold World.setCell
    rw [Array.getElem?_modify, if_neg (by intro e; exact hn (e ▸ hf))]⟩
theorem Mod.wb {F : Nat → Prop} (w : World) (b : Nat) (c : Array Value) (t : TypeId) (hf : F b) : Mod F w (w.wb b c t) :=
  ⟨rfl, rfl, rfl, by simp, fun k hk hn => heap_wb_ne (by intro e; exact hn (e ▸ hf))⟩
theorem RU.mod {F : Nat → Prop} {w w' : World} {v : Value} {l : List UInt64} (h : RU w v l) (hm : Mod F w w') (hf : l ≠ [] → ∀ g, v.ownBlock = some g → ¬ F g) : RU w' v l :=
  h.keep hm.size fun hl g o e hg => World.cell?_of_block (hm.block g hg (hf hl g e))

/-- A block of cells. -/
abbrev Rw (w : World) (g : Nat) (t : TypeId) (vs : List Value) : Prop := w.heap[g]? = some (.cells vs.toArray t (0, 0))
theorem Rw.cell {w : World} {g : Nat} {t : TypeId} {vs : List Value} (h : Rw w g t vs) {i : Nat} {v : Value} (hv : vs[i]? = some v) : w.cell? ⟨g, i, none⟩ = some v := by
  rw [has_cell h]; simpa using hv
theorem Rw.frozen {w : World} {g : Nat} {t : TypeId} {vs : List Value} (h : Rw w g t vs) (i : Nat) : w.frozen? ⟨g, i, none⟩ = false := by simp [World.frozen?, h]
theorem Rw.set {w : World} {g : Nat} {t : TypeId} {vs : List Value} (h : Rw w g t vs) (i : Nat) (v : Value) : Rw (w.setCell ⟨g, i, none⟩ v) g t (vs.set i v) := by
  have hlt := heap_lt h
  have hv : w.heap[g] = .cells vs.toArray t (0, 0) := (Array.getElem?_eq_some_iff.1 h).2
  unfold Rw World.setCell
  rw [Array.getElem?_eq_getElem (by simpa using hlt), Array.getElem_modify]
  simp [hv]
theorem Rw.other {w : World} {g b : Nat} {t : TypeId} {vs : List Value} (h : Rw w g t vs) (hne : b ≠ g) (i : Nat) (v : Value) : Rw (w.setCell ⟨b, i, none⟩ v) g t vs := by
  unfold Rw World.setCell
  rw [Array.getElem?_modify, if_neg hne]; exact h
theorem Rw.mod {F : Nat → Prop} {w w' : World} {g : Nat} {t : TypeId} {vs : List Value} (h : Rw w g t vs) (hm : Mod F w w') (hf : ¬ F g) : Rw w' g t vs := hm.blk h hf
theorem Rw.below {w w' : World} {g : Nat} {t : TypeId} {vs : List Value} (h : Rw w g t vs) (hb : Below w.heap.size w w') : Rw w' g t vs := blk_below h hb
/-- A block of words reads as words. -/
theorem Rw.ru {w : World} {g n c : Nat} {W : List UInt64} {t : List Value} (h : Rw w g 58 (W.map uv ++ t)) (hn : n = W.length) (hc : n ≤ c) (hm : c ≤ maxLen) (hl : n ≤ 17592186044416) : RU w (.slice (some ⟨g, 0, none⟩) n c) W := by
  subst hn
  refine ⟨_, c, rfl, hc, hm, hl, fun i b hb => ⟨g, 0, rfl, heap_lt h, ?_⟩⟩
  rw [Nat.zero_add]
  refine h.cell ?_
  rw [List.getElem?_append_left (by simpa using (List.getElem?_eq_some_iff.1 hb).1)]
  simp [hb]

/-- The program's bitmap. -/
structure BM (w : World) (p bw ba n : Nat) (W : List UInt64) : Prop where
  hs : Rw w p 100 [.int .i64 (n : Int), .slice (some ⟨bw, 0, none⟩) (Bm.room n) (Bm.room n), .slice (some ⟨ba, 0, none⟩) (Bm.room (Bm.room n)) (Bm.room (Bm.room n)), .int .i64 (Bm.ones' W : Nat)]
  hw : Rw w bw 58 (W.map uv)
  ha : Rw w ba 58 ((Bm.upper W).map uv)
  n1 : bw ≠ p
  n2 : ba ≠ p
  n3 : ba ≠ bw
  ok : Bm.Ok n W
/-- Its blocks. -/
def BM.At (p bw ba : Nat) (k : Nat) : Prop := k = p ∨ k = bw ∨ k = ba
theorem BM.mod {F : Nat → Prop} {w w' : World} {p bw ba n : Nat} {W : List UInt64} (h : BM w p bw ba n W) (hm : Mod F w w') (h1 : ¬ F p) (h2 : ¬ F bw) (h3 : ¬ F ba) : BM w' p bw ba n W :=
  ⟨h.hs.mod hm h1, h.hw.mod hm h2, h.ha.mod hm h3, h.n1, h.n2, h.n3, h.ok⟩
theorem BM.below {w w' : World} {p bw ba n : Nat} {W : List UInt64} (h : BM w p bw ba n W) (hb : Below w.heap.size w w') : BM w' p bw ba n W :=
  h.mod (F := fun _ => False) (Mod.of_below hb) id id id
theorem BM.room_le {w : World} {p bw ba n : Nat} {W : List UInt64} (h : BM w p bw ba n W) : Bm.room n ≤ 1024 ∧ Bm.room (Bm.room n) ≤ 16 := by
  have := h.ok.max
  unfold Bm.room; omega
theorem Mod.trans' {F : Nat → Prop} {w w1 w' : World} (h : Mod F w w1) (k : Mod (fun k => F k ∨ w.heap.size ≤ k) w1 w') : Mod F w w' :=
  ⟨k.os.trans h.os, k.tape.trans h.tape, k.output.trans h.output, Nat.le_trans h.size k.size, fun i hi hf => (k.block i (Nat.lt_of_lt_of_le hi h.size) (fun e => e.elim hf (by omega))).trans (h.block i hi hf)⟩
theorem Mod.on {F G : Nat → Prop} {w w1 w' : World} (h : Mod F w w1) (k : Mod G w1 w') (hg : ∀ k, G k → F k ∨ w.heap.size ≤ k) : Mod F w w' := h.trans' (k.mono fun i _ e => hg i e)
theorem Mod.onB {F : Nat → Prop} {w w1 w' : World} (h : Mod F w w1) (k : Below w1.heap.size w1 w') : Mod F w w' := h.trans (Mod.of_below k)
end Go.Proofs.YtckbckdaffdjmaaDoor

/- OnesCount64, room, valid. -/
namespace Go.Proofs.YtckbckdaffdjmaaDoor
open Go.RowKit
set_option maxRecDepth 100000
set_option linter.unusedVariables false
set_option linter.unusedSimpArgs false

set_option maxHeartbeats 4000000 in
theorem room_calls {w : World} {n : Nat} (hn : n < 9223372036854775744) : Pur Tryd.prog 93 #[.int .i64 n] w (.int .i64 (Bm.room n : Nat)) := by
  unfold Pur
  go_enter Tryd.func93, Tryd.ntmps93
  go_wp2_with fail
  go_ret
  refine ⟨ret_int ?_, Below.refl _ _⟩
  unfold Bm.room; omega
theorem wrap_nat {z : Nat} (h : z < 18446744073709551616) : IntKind.u64.wrap (z : Int) = (z : Int) := by
  rw [show IntKind.u64.wrap (z : Int) = (z : Int) % 18446744073709551616 by simp [IntKind.wrap, IntKind.bits, IntKind.signed]]; omega
theorem and_le_r (a b : Nat) : a &&& b ≤ b := Nat.and_le_right
theorem one_step (x M d : Nat) (hx : x < 18446744073709551616) (hd : d = 2 ∨ d = 4) (hM : M ≤ 6148914691236517205) : IntKind.u64.wrap (bits .and .u64 ((x : Int) / (d : Nat)) (M : Nat) + bits .and .u64 (x : Int) (M : Nat)) = (((x / d &&& M) + (x &&& M) : Nat) : Int) := by
  have h1 : ((x : Int) / (d : Nat)) = ((x / d : Nat) : Int) := (Int.natCast_ediv x d).symm
  have h2 : x / d < 18446744073709551616 := Nat.lt_of_le_of_lt (Nat.div_le_self _ _) hx
  rw [h1, u64_and_nat _ _ h2 (by omega), u64_and_nat _ _ hx (by omega), ← Int.natCast_add]
  have := and_le_r (x / d) M
  have := and_le_r x M
  exact wrap_nat (by omega)
theorem one_fold (z d : Nat) (hd : d ≠ 0) (hz : z < 9223372036854775808) : IntKind.u64.wrap ((z : Int) + (z : Int) / (d : Nat)) = ((z + z / d : Nat) : Int) := by
  have h1 : ((z : Int) / (d : Nat)) = ((z / d : Nat) : Int) := (Int.natCast_ediv z d).symm
  rw [h1, ← Int.natCast_add]
  have := Nat.div_le_self z d
  exact wrap_nat (by omega)
set_option maxHeartbeats 4000000 in
theorem onescount_calls {w : World} {x : UInt64} : Pur Tryd.prog 76 #[uv x] w (.int .i64 (Bm.pop 64 x.toNat : Nat)) := by
  unfold Pur
  have hx := x.toNat_lt
  rw [← Bm.ones_pop]
  unfold uv
  generalize x.toNat = x at *
  obtain ⟨z1, hz1⟩ : ∃ z, z = Bm.y1 8 x := ⟨_, rfl⟩
  obtain ⟨z2, hz2⟩ : ∃ z, z = Bm.y2 8 z1 := ⟨_, rfl⟩
  obtain ⟨z3, hz3⟩ : ∃ z, z = Bm.y3 8 z2 := ⟨_, rfl⟩
  obtain ⟨z4, hz4⟩ : ∃ z, z = z3 + z3 / 256 := ⟨_, rfl⟩
  obtain ⟨z5, hz5⟩ : ∃ z, z = z4 + z4 / 65536 := ⟨_, rfl⟩
  obtain ⟨z6, hz6⟩ : ∃ z, z = z5 + z5 / 4294967296 := ⟨_, rfl⟩
  have hres : Bm.ones x = z6 % 128 := by unfold Bm.ones; simp only [hz6, hz5, hz4, hz3, hz2, hz1]
  rw [hres]
  have hA : IntKind.u64.wrap (bits .and .u64 ((x : Int) / 2) 6148914691236517205 + bits .and .u64 (x : Int) 6148914691236517205) = (z1 : Int) := by
    rw [hz1]; exact one_step x 6148914691236517205 2 hx (.inl rfl) (by decide)
  have b1 : z1 ≤ 12297829382473034410 := by
    have h1 := and_le_r (x / 2) 6148914691236517205; have h2 := and_le_r x 6148914691236517205
    rw [hz1]; unfold Bm.y1; rw [show Bm.rep 85 8 = 6148914691236517205 by decide]; omega
  have hB : IntKind.u64.wrap (bits .and .u64 ((z1 : Int) / 4) 3689348814741910323 + bits .and .u64 (z1 : Int) 3689348814741910323) = (z2 : Int) := by
    rw [hz2]; exact one_step z1 3689348814741910323 4 (by omega) (.inr rfl) (by decide)
  have b2 : z2 ≤ 7378697629483820646 := by
    have h1 := and_le_r (z1 / 4) 3689348814741910323; have h2 := and_le_r z1 3689348814741910323
    rw [hz2]; unfold Bm.y2; rw [show Bm.rep 51 8 = 3689348814741910323 by decide]; omega
  have hC : bits .and .u64 (IntKind.u64.wrap ((z2 : Int) / 16 + (z2 : Int))) 1085102592571150095 = (z3 : Int) := by
    rw [Int.add_comm, show (16 : Int) = ((16 : Nat) : Int) from rfl, one_fold z2 16 (by decide) (by omega), hz3]
    have := u64_and_nat (z2 + z2 / 16) 1085102592571150095 (by omega) (by decide)
    rw [Nat.add_comm] at this ⊢
    exact this
  have b3 : z3 ≤ 1085102592571150095 := by
    have h1 := and_le_r (z2 / 16 + z2) 1085102592571150095
    rw [hz3]; unfold Bm.y3; rw [show Bm.rep 15 8 = 1085102592571150095 by decide]; exact h1
  have hD : IntKind.u64.wrap ((z3 : Int) + (z3 : Int) / 256) = (z4 : Int) := by rw [hz4]; exact one_fold z3 256 (by decide) (by omega)
  have b4 : z4 ≤ 2170205185142300190 := by omega
  have hE : IntKind.u64.wrap ((z4 : Int) + (z4 : Int) / 65536) = (z5 : Int) := by rw [hz5]; exact one_fold z4 65536 (by decide) (by omega)
  have b5 : z5 ≤ 4340410370284600380 := by omega
  have hF : IntKind.u64.wrap ((z5 : Int) + (z5 : Int) / 4294967296) = (z6 : Int) := by rw [hz6]; exact one_fold z5 4294967296 (by decide) (by omega)
  have b6 : z6 ≤ 8680820740569200760 := by omega
  have hG := i64_and127 (z6 : Int)
  have hH : wrap64 (z6 : Int) = (z6 : Int) := by unfold wrap64; omega
  clear hz1 hz2 hz3 hz4 hz5 hz6 hres b1 b2 b3 b4 b5 b6
  go_enter Tryd.func76, Tryd.ntmps76
  go_wp2_with fail
  go_ret
  exact ⟨ret_int (by omega), Below.refl _ _⟩
set_option maxHeartbeats 4000000 in
theorem valid_calls {w : World} {v : Value} {W : List UInt64} {n : Nat} (h1 : 1 ≤ n) (h2 : n ≤ 65536) (h : RU w v W) : Pur Tryd.prog 82 #[.int .i64 n, v] w (.int .i64 (Bm.validE n W : Nat)) := by
  unfold Pur
  have hrc := room_calls (w := w) (n := n) (by omega)
  obtain ⟨p, cp, rfl, k1, k2, k3, hr⟩ := h
  have hrm : Bm.room n = (n + 63) / 64 := rfl
  go_enter Tryd.func82, Tryd.ntmps82
  obtain ⟨L, hL⟩ : ∃ L, L = W.length := ⟨_, rfl⟩
  rw [← hL] at k1 k3 ⊢
  by_cases e1 : L = Bm.room n
  · obtain ⟨x, hx⟩ : ∃ x, W[L - 1]? = some x := ⟨W[L - 1], List.getElem?_eq_getElem (by omega)⟩
    obtain ⟨g, o, rfl, hg, hc⟩ := hr _ _ hx
    have hx' : W.getD (W.length - 1) 0 = x := by rw [List.getD_eq_getElem?_getD, ← hL, hx]; rfl
    have hv : Bm.validE n W = if n % 64 ≠ 0 ∧ x.toNat / 2 ^ (n % 64) ≠ 0 then 2 else 0 := by unfold Bm.validE; rw [if_neg (by omega), hx']
    rw [hv]
    rw [← e1] at hrc hrm
    have hxl := x.toNat_lt
    clear hv hx' hx hr hL
    have hl1 : (L : Int) - 1 = ((L - 1 : Nat) : Int) := by omega
    have hl2 : ((L - 1 : Nat) : Int) < (L : Int) := by omega
    have hl3 : (0 : Int) ≤ ((L - 1 : Nat) : Int) := by omega
    by_cases e2 : n % 64 = 0
    · rw [if_neg (by simp [e2])]
      have hm : (n : Int) % 64 = 0 := by omega
      clear hrm e1
      go_wp2_with (first | (go_at_call 93; refine hrc.out.mono ?_; rintro e w1 ⟨rfl, hb⟩) | fail)
      go_ret
      exact ⟨rfl, hb⟩
    · have hm : ((n : Int) % 64 != 0) = true := by simp; omega
      have hd : (x.toNat : Int) / 2 ^ (n % 64) = ((x.toNat / 2 ^ (n % 64) : Nat) : Int) := by rw [Int.natCast_ediv]; simp
      clear hrm e1
      by_cases e3 : x.toNat / 2 ^ (n % 64) = 0
      · rw [if_neg (by simp [e3])]
        have hq : ((x.toNat : Int) / 2 ^ (n % 64) != 0) = false := by rw [hd, e3]; rfl
        clear hd
        go_wp2_with (first | (go_at_call 93; refine hrc.out.mono ?_; rintro e w1 ⟨rfl, hb⟩; have hc1 := ((bcell hb).1 _ _ hg).trans hc) | fail)
        go_ret
        exact ⟨rfl, hb⟩
      · rw [if_pos ⟨e2, e3⟩]
        have hq : ((x.toNat : Int) / 2 ^ (n % 64) != 0) = true := by rw [hd]; exact bne_iff_ne.2 (fun e => e3 (Int.ofNat_inj.1 e))
        clear hd
        go_wp2_with (first | (go_at_call 93; refine hrc.out.mono ?_; rintro e w1 ⟨rfl, hb⟩; have hc1 := ((bcell hb).1 _ _ hg).trans hc) | fail)
        go_ret
        exact ⟨rfl, hb⟩
  · have hv : Bm.validE n W = 3 := by unfold Bm.validE; rw [if_pos (by omega)]
    have hb1 : ((L : Int) == ((Bm.room n : Nat) : Int)) = false := by simp; omega
    rw [hv]
    clear hrm hv
    go_wp2_with (first | (go_at_call 93; refine hrc.out.mono ?_; rintro e w1 ⟨rfl, hb⟩) | fail)
    go_ret
    exact ⟨rfl, hb⟩
end Go.Proofs.YtckbckdaffdjmaaDoor

/- New, lay. -/
namespace Go.Proofs.YtckbckdaffdjmaaDoor
open Go.RowKit
set_option maxRecDepth 100000
set_option linter.unusedVariables false
set_option linter.unusedSimpArgs false

theorem int_rep (x : UInt64) (n : Nat) : List.replicate n (uv x) = (List.replicate n x).map uv := by simp
set_option maxHeartbeats 4000000 in
theorem new_err {w : World} {n : Int} (hn : (Lit.int .i64 n).wf = true) (h : n < 1 ∨ 65536 < n) : Pur Tryd.prog 56 #[.int .i64 n] w (.tuple #[.pointer none, .int .i64 1]) := by
  unfold Pur
  go_enter Tryd.func56, Tryd.ntmps56
  by_cases e : n < 1
  · go_wp2_with fail
    refine bodyPost_ret (results_tmp2 rfl _ _ _) rfl ?_
    exact ⟨rfl, Below.refl _ _⟩
  · have e2 : 65536 < n := by omega
    go_wp2_with fail
    refine bodyPost_ret (results_tmp2 rfl _ _ _) rfl ?_
    exact ⟨rfl, Below.refl _ _⟩
theorem size_drew' (w : World) : w.drew.heap.size = w.heap.size := rfl
theorem made_cells (n : Nat) : madeCells #[uv 0] n = ((List.replicate n (0 : UInt64)).map uv).toArray := by
  apply Array.ext
  · simp [madeCells]
  · intro i h1 h2; simp [madeCells, Nat.mod_one]
theorem bm_made {w : World} {p bw ba n : Nat} (h1 : 1 ≤ n) (h2 : n ≤ 65536) (hs : w.heap[p]? = some (.cells #[.int .i64 (n : Int), .slice (some ⟨bw, 0, none⟩) (Bm.room n) (Bm.room n), .slice (some ⟨ba, 0, none⟩) (Bm.room (Bm.room n)) (Bm.room (Bm.room n)), .int .i64 0] 100 (0, 0)))
    (hw : w.heap[bw]? = some (.cells (madeCells #[uv 0] (Bm.room n)) 58 (0, 0))) (ha : w.heap[ba]? = some (.cells (madeCells #[uv 0] (Bm.room (Bm.room n))) 58 (0, 0))) (n1 : bw ≠ p) (n2 : ba ≠ p) (n3 : ba ≠ bw) :
    BM w p bw ba n (List.replicate (Bm.room n) 0) := by
  refine ⟨?_, ?_, ?_, n1, n2, n3, Bm.ok_zero h1 h2⟩
  · rw [Bm.ones_zero]; exact hs
  · rw [made_cells] at hw; exact hw
  · rw [Bm.upper_zero]; rw [made_cells] at ha; exact ha
theorem uy_made (n : Nat) (hn : n ≤ 35184372088832) (w : World) : (Instr.makeSlice 22 (.int .i64 (n : Int)) (.int .i64 (n : Int))).run Tryd.prog w = .ok (.slice (some ⟨w.heap.size, 0, none⟩) n n) (w.alloc (.cells (madeCells #[uv 0] n) 58)) :=
  run_make_row' 22 58 (uv 0) 8 uy_tu uy_ti rfl .i64 .i64 n (by omega) (by omega) w
set_option maxHeartbeats 4000000 in
theorem new_calls {w : World} {n : Nat} (h1 : 1 ≤ n) (h2 : n ≤ 65536) : Calls Tryd.prog 56 #[.int .i64 n] w fun e w' => ∃ p bw ba, e = .returned (.tuple #[.pointer (some ⟨p, 0, none⟩), .int .i64 0]) ∧ BM w' p bw ba n (List.replicate (Bm.room n) 0) ∧ w.heap.size ≤ p ∧ w.heap.size ≤ bw ∧ w.heap.size ≤ ba ∧ Below w.heap.size w w' := by
  have hrc := room_calls (w := w) (n := n) (by omega)
  have hr1 : Bm.room n ≤ 1024 := by unfold Bm.room; omega
  have hr2 : Bm.room (Bm.room n) ≤ 16 := by unfold Bm.room; omega
  have hm1 := uy_made (Bm.room n) (by omega)
  have hm2 := uy_made (Bm.room (Bm.room n)) (by omega)
  go_enter Tryd.func56, Tryd.ntmps56
  go_wp2_with (first | (go_at_call 93; refine hrc.out.mono ?_; rintro e w1 ⟨rfl, hb⟩) | fail)
  have hrc2 : ∀ w, Pur Tryd.prog 93 #[.int .i64 (Bm.room n : Nat)] w (.int .i64 (Bm.room (Bm.room n) : Nat)) := fun w => room_calls (by omega)
  go_region_with (first | (go_at_call 93; refine (hrc2 _).out.mono ?_; rintro e w2 ⟨rfl, hb2⟩) | fail)
  all_goals go_wp2_with fail
  all_goals refine bodyPost_ret (results_tmp2 rfl _ _ _) rfl ?_
  all_goals clear hm1 hm2 hrc hrc2
  · have hs2 := hb2.size
    have hs1 := hb.size
    simp only [size_drew', World.size_alloc] at hs2
    have k1 : w2.heap[w1.heap.size]? = some (.cells (madeCells #[uv 0] (Bm.room n)) 58 (0, 0)) := (hb2.block _ (by simp)).trans ((heap_drew _ _).trans (heap_new _ _ _ rfl))
    have hbb : Below w.heap.size w w2 := (hb.alloc hs1 _).drew.trans (hb2.mono (by simp; omega))
    refine ⟨w2.heap.size + 1, w1.heap.size, w2.heap.size, rfl, bm_made h1 h2 ?_ ?_ ?_ (by omega) (by omega) (by omega), by omega, by omega, by omega, ?_⟩
    · exact heap_new _ _ _ (by simp)
    · exact (heap_old _ _ _ (by simp; omega)).trans ((heap_old _ _ _ (by omega)).trans k1)
    · exact (heap_old _ _ _ (by simp)).trans (heap_new _ _ _ rfl)
    · exact (hbb.alloc hbb.size _).alloc (by simp; omega) _
  · have hs2 := hb2.size
    have hs1 := hb.size
    simp only [size_drew', World.size_alloc] at hs2
    have hbb : Below w.heap.size w w2 := hb.drew.trans (hb2.mono hs1)
    refine ⟨w2.heap.size + 1 + 1, w2.heap.size, w2.heap.size + 1, rfl, bm_made h1 h2 ?_ ?_ ?_ (by omega) (by omega) (by omega), by omega, by omega, by omega, ?_⟩
    · exact heap_new _ _ _ (by simp)
    · exact (heap_old _ _ _ (by simp; omega)).trans ((heap_old _ _ _ (by simp)).trans (heap_new _ _ _ rfl))
    · exact (heap_old _ _ _ (by simp)).trans (heap_new _ _ _ (by simp))
    · exact ((hbb.alloc hbb.size _).alloc (by simp; omega) _).alloc (by simp; omega) _
  · have hs2 := hb2.size
    have hs1 := hb.size
    simp only [size_drew', World.size_alloc] at hs2
    have hbb : Below w.heap.size w w2 := hb.drew.trans (hb2.mono hs1)
    refine ⟨w2.heap.size + 1 + 1, w2.heap.size + 1, w2.heap.size, rfl, bm_made h1 h2 ?_ ?_ ?_ (by omega) (by omega) (by omega), by omega, by omega, by omega, ?_⟩
    · exact heap_new _ _ _ (by simp)
    · exact (heap_old _ _ _ (by simp)).trans (heap_new _ _ _ (by simp))
    · exact (heap_old _ _ _ (by simp; omega)).trans ((heap_old _ _ _ (by simp)).trans (heap_new _ _ _ rfl))
    · exact ((hbb.alloc hbb.size _).alloc (by simp; omega) _).alloc (by simp; omega) _
end Go.Proofs.YtckbckdaffdjmaaDoor

/- lay: a word of the lower level, the upper level and the count in step. -/
namespace Go.Proofs.YtckbckdaffdjmaaDoor
open Go.RowKit
set_option maxRecDepth 100000
set_option linter.unusedVariables false
set_option linter.unusedSimpArgs false

theorem pow_cast (r : Nat) : (2 : Int) ^ r = ((2 ^ r : Nat) : Int) := by simp
theorem shl_one {r : Nat} (hr : r < 64) : IntKind.u64.wrap ((2 : Int) ^ r) = ((2 ^ r : Nat) : Int) := by
  rw [pow_cast]; exact wrap_nat (Nat.pow_lt_pow_right (by decide) hr)
theorem or_one {u r : Nat} (hu : u < 18446744073709551616) (hr : r < 64) : bits .or .u64 (u : Int) (IntKind.u64.wrap ((2 : Int) ^ r)) = ((Bm.on u r : Nat) : Int) := by
  rw [shl_one hr]; exact u64_or_nat _ _ hu (Nat.pow_lt_pow_right (n := 64) (by decide) hr)
theorem andNot_one {u r : Nat} (hu : u < 18446744073709551616) (hr : r < 64) : bits .andNot .u64 (u : Int) (IntKind.u64.wrap ((2 : Int) ^ r)) = ((Bm.off u r : Nat) : Int) := by
  rw [shl_one hr]; exact u64_andNot_nat _ _ hu (Nat.pow_lt_pow_right (n := 64) (by decide) hr)
set_option maxHeartbeats 4000000 in
theorem lay_calls {w : World} {p bw ba n : Nat} {W : List UInt64} (h : BM w p bw ba n W) {k : Nat} (hk : k < W.length) (x : UInt64) (hok : Bm.Ok n (W.set k x)) :
    Calls Tryd.prog 69 #[.pointer (some ⟨p, 0, none⟩), .int .i64 k, uv x] w fun e w' => e = .returned (.tuple #[]) ∧ BM w' p bw ba n (W.set k x) ∧ Mod (BM.At p bw ba) w w' := by
  obtain ⟨y, hy⟩ : ∃ y, W[k]? = some y := ⟨W[k], List.getElem?_eq_getElem hk⟩
  have hlen := h.ok.len
  have hmax := h.ok.max
  have hl1 := h.room_le.1
  have hul := Bm.upper_length W
  rw [hlen] at hul hk
  have hu1 : k / 64 < (Bm.upper W).length := by rw [hul]; exact Bm.room_lt hk
  obtain ⟨u, hu⟩ : ∃ u, (Bm.upper W)[k / 64]? = some u := ⟨_, List.getElem?_eq_getElem hu1⟩
  have hset := Bm.upper_set (x := x) (by rw [hlen]; exact hk) hu
  have hcnt := Bm.ones_set (y := x) hy
  have hole := Bm.ones_le W
  have hpl := Bm.pop_le_ones hy
  have hpx := Bm.pop_le 64 x.toNat
  have hones := fun (w : World) (z : UInt64) => onescount_calls (w := w) (x := z)
  have c0 := h.hs.cell (i := 0) rfl
  have c1 := h.hs.cell (i := 1) rfl
  have c2 := h.hs.cell (i := 2) rfl
  have c3 := h.hs.cell (i := 3) rfl
  have cw := h.hw.cell (i := k) (v := uv y) (by simp [hy])
  have lp := heap_lt h.hs
  have lw := heap_lt h.hw
  have la := heap_lt h.ha
  have hk1 : (k : Int) < ((Bm.room n : Nat) : Int) := by exact_mod_cast hk
  have hk0 : (0 : Int) ≤ (k : Int) := Int.natCast_nonneg k
  go_enter Tryd.func69, Tryd.ntmps69
  have hk2 : k ≤ 1024 := by omega
  have hq0 : 0 ≤ (k : Int) / 64 := by omega
  have hq1 : (k : Int) / 64 < ((Bm.room (Bm.room n) : Nat) : Int) := by rw [hul] at hu1; omega
  have hq2 : ((k : Int) / 64).toNat = k / 64 := by omega
  go_wp2_with fail
  refine wp_region_R_tail (Below w.heap.size w) 16 (by kernel_rfl) (by kernel_rfl) (Below.drew (Below.refl _ _)) ?_
  (repeat (first | (apply wpR_pass rfl; (try simp only [Act.put, List.setIfInBounds_toArray, List.set_cons_succ, List.set_cons_zero])) | (apply wpR_val rfl; (focus (intro w1 hR; obtain ⟨hc, hf⟩ := bcellB hR; (try go_simp); (try exact Eq.refl _); done)); (try simp only [Act.put, List.setIfInBounds_toArray, List.set_cons_succ, List.set_cons_zero])) | (apply wpR_call rfl; (focus (intro w1 hR; obtain ⟨hc, hf⟩ := bcellB hR; (try go_simp); (try exact And.intro rfl rfl); done)); (focus (intro w1 hR; first | exact (hones _ _).at_ (by first | omega | (simp; done) | (simp; omega)) hR)); (try simp only [Act.put, List.setIfInBounds_toArray, List.set_cons_succ, List.set_cons_zero])) | (apply wpR_val_want rfl; (focus (intro w1 hR; obtain ⟨hc, hf⟩ := bcellB hR; (try go_simp); (try exact Eq.refl _); done)); (try simp only [Act.put, List.setIfInBounds_toArray, List.set_cons_succ, List.set_cons_zero])) | (apply wpR_call_want rfl; (focus (intro w1 hR; obtain ⟨hc, hf⟩ := bcellB hR; (try go_simp); (try exact And.intro rfl rfl); done)); (focus (intro w1 hR; first | exact (hones _ _).at_ (by first | omega | (simp; done) | (simp; omega)) hR)); (try simp only [Act.put, List.setIfInBounds_toArray, List.set_cons_succ, List.set_cons_zero]))))
  refine wpR_nil ?_
  intro w1 hb1
  have h1 := h.below hb1
  obtain ⟨Z, hZ⟩ : ∃ Z : Nat, (Z : Int) = wrap64 ((Bm.ones' W : Nat) + wrap64 ((Bm.pop 64 x.toNat : Nat) - (Bm.pop 64 y.toNat : Nat) : Int)) ∧ Z = Bm.ones' (W.set k x) := ⟨Bm.ones' (W.set k x), by rw [IntWalk.wrap64_in ((Bm.pop 64 x.toNat : Nat) - (Bm.pop 64 y.toNat : Nat) : Int) ⟨by omega, by omega⟩, IntWalk.wrap64_in _ ⟨by omega, by omega⟩]; omega, rfl⟩
  have s1 := Nat.lt_of_lt_of_le lp hb1.size
  have s2 := Nat.lt_of_lt_of_le lw hb1.size
  have s3 := Nat.lt_of_lt_of_le la hb1.size
  have n1 := h.n1; have n2 := h.n2; have n3 := h.n3
  have n1' := Ne.symm n1; have n2' := Ne.symm n2; have n3' := Ne.symm n3
  rw [← wb_self h1.ha, ← wb_self h1.hw, ← wb_self h1.hs]
  clear hones hcnt hole hpl hpx c0 c1 c2 c3 cw
  have hZ1 := hZ.1
  have cu : ((Bm.upper W).map uv)[k / 64]? = some (uv u) := by simp [hu]
  have hOk := Lib.hid hok
  clear hul hu1 hok
  by_cases hx : x = 0
  · have hx1 : ((x.toNat : Int) != 0) = false := by subst hx; rfl
    have hxx := Lib.hid hx
    clear hx
    go_wp2_with fail
    go_end0
    refine ⟨rfl, ⟨?_, ?_, ?_, n1, n2, n3, hOk.out⟩, ?_⟩
    · refine (heap_wb_ne n2).trans ((heap_wb_ne n1).trans ((heap_wb s1).trans ?_))
      rw [← hZ1, hZ.2]
    · refine (heap_wb_ne n3).trans ((heap_wb (by simpa using s2)).trans ?_)
      rw [← List.map_set]
    · refine (heap_wb (by simpa using s3)).trans ?_
      rw [andNot_one u.toNat_lt (Nat.mod_lt _ (by decide)), hset, if_neg (fun e => e hxx.out), List.map_set, uv, Bm.toNat_of (Bm.off_lt (Nat.mod_lt _ (by decide)))]
    · exact (Mod.of_below hb1).trans (((Mod.wb _ _ _ _ (.inl rfl)).trans (Mod.wb _ _ _ _ (.inr (.inl rfl)))).trans (Mod.wb _ _ _ _ (.inr (.inr rfl))))
  · have hx1 : ((x.toNat : Int) != 0) = true := bne_iff_ne.2 fun e => hx (UInt64.toNat_inj.1 (Int.ofNat_inj.1 e))
    go_wp2_with fail
    go_end0
    refine ⟨rfl, ⟨?_, ?_, ?_, n1, n2, n3, hOk.out⟩, ?_⟩
    · refine (heap_wb_ne n2).trans ((heap_wb_ne n1).trans ((heap_wb s1).trans ?_))
      rw [← hZ1, hZ.2]
    · refine (heap_wb_ne n3).trans ((heap_wb (by simpa using s2)).trans ?_)
      rw [← List.map_set]
    · refine (heap_wb (by simpa using s3)).trans ?_
      rw [or_one u.toNat_lt (Nat.mod_lt _ (by decide)), hset, if_pos hx, List.map_set, uv, Bm.toNat_of (Bm.on_lt u.toNat_lt (Nat.mod_lt _ (by decide)))]
    · exact (Mod.of_below hb1).trans (((Mod.wb _ _ _ _ (.inl rfl)).trans (Mod.wb _ _ _ _ (.inr (.inl rfl)))).trans (Mod.wb _ _ _ _ (.inr (.inr rfl))))
end Go.Proofs.YtckbckdaffdjmaaDoor

/- From. -/
namespace Go.Proofs.YtckbckdaffdjmaaDoor
open Go.RowKit
set_option maxRecDepth 100000
set_option linter.unusedVariables false
set_option linter.unusedSimpArgs false

namespace Bm
/-- The first i words laid. -/
def laid (n : Nat) (V : List UInt64) (i : Nat) : List UInt64 := V.take i ++ List.replicate (room n - i) 0
theorem laid_zero (n : Nat) (V : List UInt64) : laid n V 0 = List.replicate (room n) 0 := by simp [laid]
theorem laid_all {n : Nat} {V : List UInt64} (h : V.length = room n) : laid n V (room n) = V := by simp [laid, ← h]
theorem laid_length {n : Nat} {V : List UInt64} (h : V.length = room n) {i : Nat} (hi : i ≤ room n) : (laid n V i).length = room n := by simp [laid]; omega
theorem laid_next {n : Nat} {V : List UInt64} (h : V.length = room n) {i : Nat} {x : UInt64} (hx : V[i]? = some x) : (laid n V i).set i x = laid n V (i + 1) := by
  have hi : i < V.length := (List.getElem?_eq_some_iff.1 hx).1
  apply List.ext_getElem?
  intro j
  unfold laid
  by_cases e : i = j
  · subst e
    rw [List.getElem?_set_self (by simp; omega), List.getElem?_append_left (by simp; omega), List.getElem?_take, if_pos (by omega), hx]
  · rw [List.getElem?_set_ne e]
    by_cases hj : j < i
    · rw [List.getElem?_append_left (by simp; omega), List.getElem?_append_left (by simp; omega), List.getElem?_take, List.getElem?_take, if_pos hj, if_pos (by omega)]
    · rw [List.getElem?_append_right (by simp; omega), List.getElem?_append_right (by simp; omega), List.getElem?_replicate, List.getElem?_replicate, List.length_take, List.length_take]
      by_cases h2 : j < room n
      · rw [if_pos (by omega), if_pos (by omega)]
      · rw [if_neg (by omega), if_neg (by omega)]
theorem laid_ok {n : Nat} {V : List UInt64} (h : Ok n V) {i : Nat} (hi : i ≤ room n) : Ok n (laid n V i) := by
  refine ⟨h.pos, h.max, laid_length h.len hi, fun j hj => ?_⟩
  have hb := h.tail j hj
  unfold bit at *
  simp only [List.getD_eq_getElem?_getD, laid] at *
  by_cases e : j / 64 < i
  · rw [List.getElem?_append_left (by have := h.len; simp; omega), List.getElem?_take, if_pos e]; exact hb
  · rw [List.getElem?_append_right (by have := h.len; simp; omega), List.getElem?_replicate]
    split <;> simp
end Bm
set_option maxHeartbeats 4000000 in
theorem from_err1 {w : World} {n : Int} (hn : (Lit.int .i64 n).wf = true) (v : Value) (h : n < 1 ∨ 65536 < n) : Pur Tryd.prog 54 #[.int .i64 n, v] w (.tuple #[.pointer none, .int .i64 1]) := by
  unfold Pur
  have hc := new_err (w := w) hn h
  go_enter Tryd.func54, Tryd.ntmps54
  go_wp2_with (first | (go_at_call 56; refine hc.out.mono ?_; rintro e w1 ⟨rfl, hb⟩) | fail)
  refine bodyPost_ret (results_tmp2 rfl _ _ _) rfl ?_
  exact ⟨rfl, hb⟩
set_option maxHeartbeats 4000000 in
theorem from_err2 {w : World} {n : Nat} (h1 : 1 ≤ n) (h2 : n ≤ 65536) {v : Value} {V : List UInt64} (h : RU w v V) (he : Bm.validE n V ≠ 0) : Pur Tryd.prog 54 #[.int .i64 n, v] w (.tuple #[.pointer none, .int .i64 (Bm.validE n V : Nat)]) := by
  unfold Pur
  have hc := new_calls (w := w) h1 h2
  have he' : (((Bm.validE n V : Nat) : Int) != 0) = true := bne_iff_ne.2 fun e => he (Int.ofNat_inj.1 e)
  have H := Lib.hid h
  clear h he
  go_enter Tryd.func54, Tryd.ntmps54
  go_wp2_with (first | (go_at_call 56; refine hc.mono ?_; rintro e w1 ⟨p, bw, ba, rfl, hm, hp1, hp2, hp3, hb⟩; have hv := valid_calls h1 h2 (H.out.below hb)) | (go_at_call 82; refine hv.out.mono ?_; rintro e w2 ⟨rfl, hb2⟩) | fail)
  refine bodyPost_ret (results_tmp2 rfl _ _ _) rfl ?_
  exact ⟨rfl, hb.trans (hb2.mono hb.size)⟩
set_option maxHeartbeats 4000000 in
theorem from_calls {w : World} {n : Nat} {v : Value} {V : List UInt64} (h : RU w v V) (hok : Bm.Ok n V) :
    Calls Tryd.prog 54 #[.int .i64 n, v] w fun e w' => ∃ p bw ba, e = .returned (.tuple #[.pointer (some ⟨p, 0, none⟩), .int .i64 0]) ∧ BM w' p bw ba n V ∧ w.heap.size ≤ p ∧ w.heap.size ≤ bw ∧ w.heap.size ≤ ba ∧ Below w.heap.size w w' := by
  have h1 := hok.pos
  have h2 := hok.max
  have hlen := hok.len
  have hc := new_calls (w := w) h1 h2
  have he := Bm.valid_of_ok hok
  have H := Lib.hid h
  obtain ⟨q, cp, rfl, k1, k2, k3, hr⟩ := h
  rw [hlen] at k1 k3 H ⊢
  have HR := Lib.hid hr
  clear hr
  go_enter Tryd.func54, Tryd.ntmps54
  go_wp2_with (first | (go_at_call 56; refine hc.mono ?_; rintro e w1 ⟨p, bw, ba, rfl, hm, hp1, hp2, hp3, hb⟩; have hv := valid_calls h1 h2 (H.out.below hb); rw [he] at hv) | (go_at_call 82; refine hv.out.mono ?_; rintro e w2 ⟨rfl, hb2⟩) | fail)
  have hb3 : Below w.heap.size w w2 := hb.trans (hb2.mono hb.size)
  have hm3 := hm.below hb2
  refine wp_loop_count (fun i a w' => (∃ U : Nat → Value, a = ⟨#[U 0, U 1, U 2, U 3, U 4, U 5, .pointer (some ⟨p, 0, none⟩), U 7, U 8, U 9, U 10, U 11, U 12, U 13, U 14, U 15, U 16, U 17, U 18, U 19, U 20, U 21, U 22, U 23, .slice q (Bm.room n) cp, .int .i64 (Bm.room n : Nat), .int .i64 i, U 27, U 28, U 29, U 30, U 31, U 32, U 33, U 34, U 35, U 36], []⟩) ∧ BM w' p bw ba n (Bm.laid n V i) ∧ Below w.heap.size w w') (Bm.room n) ⟨exU (fun U => ⟨#[U 0, U 1, U 2, U 3, U 4, U 5, .pointer (some ⟨p, 0, none⟩), U 7, U 8, U 9, U 10, U 11, U 12, U 13, U 14, U 15, U 16, U 17, U 18, U 19, U 20, U 21, U 22, U 23, .slice q (Bm.room n) cp, .int .i64 (Bm.room n : Nat), .int .i64 0, U 27, U 28, U 29, U 30, U 31, U 32, U 33, U 34, U 35, U 36], []⟩) rfl, by rw [Bm.laid_zero]; exact hm3, hb3⟩ ?_ ?_
  · rintro i a w' hi ⟨⟨U, rfl⟩, hmi, hbi⟩
    obtain ⟨x, hx⟩ : ∃ x, V[i]? = some x := ⟨V[i]'(by omega), List.getElem?_eq_getElem (by omega)⟩
    obtain ⟨g, o, rfl, hg, hcell⟩ := HR.out _ _ hx
    have hcell' := ((bcell hbi).1 g _ hg).trans hcell
    have hlay := lay_calls hmi (k := i) (by rw [Bm.laid_length hlen (by omega)]; exact hi) x (by rw [Bm.laid_next hlen hx]; exact Bm.laid_ok hok (by omega))
    rw [Bm.laid_next hlen hx] at hlay
    have hi' : (i : Int) < ((Bm.room n : Nat) : Int) := by exact_mod_cast hi
    have hi0 : (0 : Int) ≤ (i : Int) := Int.natCast_nonneg i
    have Hn : Hid (w.heap.size ≤ w'.heap.size) := hbi.size
    have hk1 : Bm.room n ≤ 1024 := hmi.room_le.1
    clear hc hv hb2 hb hm hm3 hb3 he hx
    go_wp2_with (first | (go_at_call 69; refine hlay.mono ?_; rintro e w3 ⟨rfl, hm4, hM⟩) | fail)
    have hb5 : Below w.heap.size w w3 := hbi.trans (hM.below Hn.out (by rintro k (rfl | rfl | rfl) <;> assumption))
    exact ⟨exU (fun U => ⟨#[U 0, U 1, U 2, U 3, U 4, U 5, .pointer (some ⟨p, 0, none⟩), U 7, U 8, U 9, U 10, U 11, U 12, U 13, U 14, U 15, U 16, U 17, U 18, U 19, U 20, U 21, U 22, U 23, .slice (some ⟨g, o, none⟩) (Bm.room n) cp, .int .i64 (Bm.room n : Nat), .int .i64 (i + 1 : Nat), U 27, U 28, U 29, U 30, U 31, U 32, U 33, U 34, U 35, U 36], []⟩) rfl, hm4, hb5⟩
  · rintro a w' ⟨⟨U, rfl⟩, hmi, hbi⟩
    rw [Bm.laid_all hlen] at hmi
    clear hc hv hb2 hb hm hm3 hb3 he
    go_wp2_with fail
    refine bodyPost_ret (results_tmp2 rfl _ _ _) rfl ?_
    exact ⟨p, bw, ba, rfl, hmi, hp1, hp2, hp3, hbi⟩
end Go.Proofs.YtckbckdaffdjmaaDoor

/- Len, Count, Words, Summary. -/
namespace Go.Proofs.YtckbckdaffdjmaaDoor
open Go.RowKit
set_option maxRecDepth 100000
set_option linter.unusedVariables false
set_option linter.unusedSimpArgs false

theorem uy_sz : (Tryd.prog.info? 58).map (·.size) = some 1 := by kernel_rfl
theorem splice_all (L cs : List Value) (h : cs.length = L.length) : splice L 0 cs = cs := by simp [splice, h]
set_option maxHeartbeats 4000000 in
theorem len_calls {w : World} {p bw ba n : Nat} {W : List UInt64} (h : BM w p bw ba n W) : Pur Tryd.prog 62 #[.pointer (some ⟨p, 0, none⟩)] w (.int .i64 n) := by
  unfold Pur
  have c0 := h.hs.cell (i := 0) rfl
  go_enter Tryd.func62, Tryd.ntmps62
  go_wp2_with fail
  go_ret
  exact ⟨rfl, Below.refl _ _⟩
set_option maxHeartbeats 4000000 in
theorem count_calls {w : World} {p bw ba n : Nat} {W : List UInt64} (h : BM w p bw ba n W) : Pur Tryd.prog 40 #[.pointer (some ⟨p, 0, none⟩)] w (.int .i64 (Bm.ones' W : Nat)) := by
  unfold Pur
  have c0 := h.hs.cell (i := 3) rfl
  go_enter Tryd.func40, Tryd.ntmps40
  go_wp2_with fail
  go_ret
  exact ⟨rfl, Below.refl _ _⟩
/-- A new list of words. -/
def NewU (w w' : World) (v : Value) (W : List UInt64) : Prop := ∃ g, v = .slice (some ⟨g, 0, none⟩) W.length W.length ∧ Rw w' g 58 (W.map uv) ∧ w.heap.size ≤ g ∧ Below w.heap.size w w'
/-- The copy of a row. -/
theorem copy_row {w w1 : World} {bw m : Nat} {cs : List Value} (hw : Rw w bw 58 cs) (hcl : cs.length = m) (h1 : ∀ v ∈ cs, v.oneCell' = true) (hw1 : w1 = w.alloc (.cells (madeCells #[uv 0] m) 58)) :
    ∃ w2, (Builtin.copy_ #[22, 22] 3 #[.slice (some ⟨w.heap.size, 0, none⟩) m m, .slice (some ⟨bw, 0, none⟩) m m]).run Tryd.prog w1 = .ok (goInt m) w2 ∧ Rw w2 w.heap.size 58 cs ∧ Below w.heap.size w w2 := by
  have lw := heap_lt hw
  have hn : w1.heap[w.heap.size]? = some (.cells (((List.replicate m (0 : UInt64)).map uv).toArray) 58 (0, 0)) := by rw [hw1, made_cells]; exact heap_new _ _ _ rfl
  have hb : Below w.heap.size w w1 := by rw [hw1]; exact below_alloc1 w _
  have hsrc : ∀ j v, cs[j]? = some v → w1.cell? ((⟨bw, 0, none⟩ : Addr).add j) = some v := fun j v hj => by
    rw [add_flat, Nat.zero_add]
    exact ((bcell hb).1 _ _ lw).trans (Rw.cell hw hj)
  have hrun := run_copy_row (P := Tryd.prog) w1 22 22 3 58 w.heap.size 0 m m ⟨bw, 0, none⟩ m m _ 58 cs uy_tu uy_sz hn (by simp [hcl]) hsrc (by simp [hcl]) h1
  refine ⟨_, by rw [hcl] at hrun; exact hrun, ?_, below_setRow hb (Nat.le_refl _) _⟩
  refine (setRow_heap w1 w.heap.size _ _ _ _ hn).trans ?_
  simp [hcl]
set_option maxHeartbeats 4000000 in
theorem words_calls {w : World} {p bw ba n : Nat} {W : List UInt64} (h : BM w p bw ba n W) : Calls Tryd.prog 32 #[.pointer (some ⟨p, 0, none⟩)] w fun e w' => ∃ v, e = .returned v ∧ NewU w w' v W := by
  have c0 := h.hs.cell (i := 1) rfl
  have lp := heap_lt h.hs
  have lw := heap_lt h.hw
  have hk1 := h.room_le
  have hlen : W.length = Bm.room n := by first | exact h.ok.len | rw [Bm.upper_length, h.ok.len]
  have hm := uy_made (Bm.room n) (by omega)
  have hw := h.hw
  unfold NewU
  rw [hlen]
  go_enter Tryd.func32, Tryd.ntmps32
  go_upto_region 2 with fail
  rename_i hnext
  obtain ⟨w1, hw1⟩ : ∃ w1, w1 = w.alloc (.cells (madeCells #[uv 0] (Bm.room n)) 58) := ⟨_, rfl⟩
  rw [← hw1]
  have c1 : w1.cell? ⟨p, 1, none⟩ = w.cell? ⟨p, 1, none⟩ := by rw [hw1]; exact (bcell (below_alloc1 w _)).1 _ _ lp
  rw [c0] at c1
  obtain ⟨w2, hcp, hg2, hb2⟩ := copy_row hw (by rw [List.length_map, hlen]) (fun v hv => by obtain ⟨x, _, rfl⟩ := List.mem_map.1 hv; rfl) hw1
  clear hm hw1 c0
  go_wp2_with fail
  go_ret
  exact ⟨_, rfl, w.heap.size, rfl, hg2, Nat.le_refl _, hb2⟩
set_option maxHeartbeats 4000000 in
theorem summary_calls {w : World} {p bw ba n : Nat} {W : List UInt64} (h : BM w p bw ba n W) : Calls Tryd.prog 64 #[.pointer (some ⟨p, 0, none⟩)] w fun e w' => ∃ v, e = .returned v ∧ NewU w w' v (Bm.upper W) := by
  have c0 := h.hs.cell (i := 2) rfl
  have lp := heap_lt h.hs
  have lw := heap_lt h.ha
  have hk1 := h.room_le
  have hlen : (Bm.upper W).length = Bm.room (Bm.room n) := by first | exact h.ok.len | rw [Bm.upper_length, h.ok.len]
  have hm := uy_made (Bm.room (Bm.room n)) (by omega)
  have hw := h.ha
  unfold NewU
  rw [hlen]
  go_enter Tryd.func64, Tryd.ntmps64
  go_upto_region 2 with fail
  rename_i hnext
  obtain ⟨w1, hw1⟩ : ∃ w1, w1 = w.alloc (.cells (madeCells #[uv 0] (Bm.room (Bm.room n))) 58) := ⟨_, rfl⟩
  rw [← hw1]
  have c1 : w1.cell? ⟨p, 2, none⟩ = w.cell? ⟨p, 2, none⟩ := by rw [hw1]; exact (bcell (below_alloc1 w _)).1 _ _ lp
  rw [c0] at c1
  obtain ⟨w2, hcp, hg2, hb2⟩ := copy_row hw (by rw [List.length_map, hlen]) (fun v hv => by obtain ⟨x, _, rfl⟩ := List.mem_map.1 hv; rfl) hw1
  clear hm hw1 c0
  go_wp2_with fail
  go_ret
  exact ⟨_, rfl, w.heap.size, rfl, hg2, Nat.le_refl _, hb2⟩
end Go.Proofs.YtckbckdaffdjmaaDoor

/- The document's bitmap: Length, Listed, bools, New, From. -/
namespace Go.Proofs.YtckbckdaffdjmaaDoor
open Go.RowKit
set_option maxRecDepth 100000
set_option linter.unusedVariables false
set_option linter.unusedSimpArgs false

theorem bo_tu : Tryd.prog.underlying 95 = some (.slice 4) := by kernel_rfl
theorem bo_ti : (Tryd.prog.info? 4).map (fun i => (i.zero, i.size, i.bytes)) = some (some (.bool false), 1, 1) := by kernel_rfl
theorem bo_made (n : Nat) (hn : n ≤ 281474976710656) (w : World) : (Instr.makeSlice 95 (.int .i64 (n : Int)) (.int .i64 (n : Int))).run Tryd.prog w = .ok (.slice (some ⟨w.heap.size, 0, none⟩) n n) (w.alloc (.cells (madeCells #[.bool false] n) 4)) :=
  run_make_row' 95 4 (.bool false) 1 bo_tu bo_ti rfl .i64 .i64 n (by omega) (by omega) w
theorem bo_cells (n : Nat) : madeCells #[.bool false] n = ((List.replicate n false).map Value.bool).toArray := by
  apply Array.ext
  · simp [madeCells]
  · intro i h1 h2; simp [madeCells, Nat.mod_one]
/-- The document's bitmap. -/
structure RM (w : World) (r bb : Nat) (bs : List Bool) : Prop where
  hs : Rw w r 97 [.slice (some ⟨bb, 0, none⟩) bs.length bs.length]
  hb : Rw w bb 4 (bs.map Value.bool)
  ne : bb ≠ r
  max : bs.length ≤ 65536
theorem RM.mod {F : Nat → Prop} {w w' : World} {r bb : Nat} {bs : List Bool} (h : RM w r bb bs) (hm : Mod F w w') (h1 : ¬ F r) (h2 : ¬ F bb) : RM w' r bb bs := ⟨h.hs.mod hm h1, h.hb.mod hm h2, h.ne, h.max⟩
theorem RM.below {w w' : World} {r bb : Nat} {bs : List Bool} (h : RM w r bb bs) (hb : Below w.heap.size w w') : RM w' r bb bs := h.mod (F := fun _ => False) (Mod.of_below hb) id id
set_option maxHeartbeats 4000000 in
theorem length_calls {w : World} {n : Nat} (hn : n < 9223372036854775744) : Pur Tryd.prog 107 #[.int .i64 n] w (.int .i64 (Bm.room n : Nat)) := by
  unfold Pur
  go_enter Tryd.func107, Tryd.ntmps107
  go_wp2_with fail
  go_ret
  refine ⟨ret_int ?_, Below.refl _ _⟩
  unfold Bm.room; omega
set_option maxHeartbeats 4000000 in
theorem listed_calls {w : World} {v : Value} {W : List UInt64} {n : Nat} (h1 : 1 ≤ n) (h2 : n ≤ 65536) (h : RU w v W) : Pur Tryd.prog 91 #[.int .i64 n, v] w (.int .i64 (Bm.validE n W : Nat)) := by
  unfold Pur
  have hrc := length_calls (w := w) (n := n) (by omega)
  obtain ⟨p, cp, rfl, k1, k2, k3, hr⟩ := h
  have hrm : Bm.room n = (n + 63) / 64 := rfl
  go_enter Tryd.func91, Tryd.ntmps91
  obtain ⟨L, hL⟩ : ∃ L, L = W.length := ⟨_, rfl⟩
  rw [← hL] at k1 k3 ⊢
  by_cases e1 : L = Bm.room n
  · obtain ⟨x, hx⟩ : ∃ x, W[L - 1]? = some x := ⟨W[L - 1], List.getElem?_eq_getElem (by omega)⟩
    obtain ⟨g, o, rfl, hg, hc⟩ := hr _ _ hx
    have hx' : W.getD (W.length - 1) 0 = x := by rw [List.getD_eq_getElem?_getD, ← hL, hx]; rfl
    have hv : Bm.validE n W = if n % 64 ≠ 0 ∧ x.toNat / 2 ^ (n % 64) ≠ 0 then 2 else 0 := by unfold Bm.validE; rw [if_neg (by omega), hx']
    rw [hv]
    rw [← e1] at hrc hrm
    have hxl := x.toNat_lt
    clear hv hx' hx hr hL
    have hl1 : (L : Int) - 1 = ((L - 1 : Nat) : Int) := by omega
    have hl2 : ((L - 1 : Nat) : Int) < (L : Int) := by omega
    have hl3 : (0 : Int) ≤ ((L - 1 : Nat) : Int) := by omega
    by_cases e2 : n % 64 = 0
    · rw [if_neg (by simp [e2])]
      have hm : (n : Int) % 64 = 0 := by omega
      clear hrm e1
      go_wp2_with (first | (go_at_call 107; refine hrc.out.mono ?_; rintro e w1 ⟨rfl, hb⟩) | fail)
      go_ret
      exact ⟨rfl, hb⟩
    · have hm : ((n : Int) % 64 != 0) = true := by simp; omega
      have hd : (x.toNat : Int) / 2 ^ (n % 64) = ((x.toNat / 2 ^ (n % 64) : Nat) : Int) := by rw [Int.natCast_ediv]; simp
      clear hrm e1
      by_cases e3 : x.toNat / 2 ^ (n % 64) = 0
      · rw [if_neg (by simp [e3])]
        have hq : ((x.toNat : Int) / 2 ^ (n % 64) != 0) = false := by rw [hd, e3]; rfl
        clear hd
        go_wp2_with (first | (go_at_call 107; refine hrc.out.mono ?_; rintro e w1 ⟨rfl, hb⟩; have hc1 := ((bcell hb).1 _ _ hg).trans hc) | fail)
        go_ret
        exact ⟨rfl, hb⟩
      · rw [if_pos ⟨e2, e3⟩]
        have hq : ((x.toNat : Int) / 2 ^ (n % 64) != 0) = true := by rw [hd]; exact bne_iff_ne.2 (fun e => e3 (Int.ofNat_inj.1 e))
        clear hd
        go_wp2_with (first | (go_at_call 107; refine hrc.out.mono ?_; rintro e w1 ⟨rfl, hb⟩; have hc1 := ((bcell hb).1 _ _ hg).trans hc) | fail)
        go_ret
        exact ⟨rfl, hb⟩
  · have hv : Bm.validE n W = 3 := by unfold Bm.validE; rw [if_pos (by omega)]
    have hb1 : ((L : Int) == ((Bm.room n : Nat) : Int)) = false := by simp; omega
    rw [hv]
    clear hrm hv
    go_wp2_with (first | (go_at_call 107; refine hrc.out.mono ?_; rintro e w1 ⟨rfl, hb⟩) | fail)
    go_ret
    exact ⟨rfl, hb⟩
end Go.Proofs.YtckbckdaffdjmaaDoor

/- The document's bitmap: bools, New, From; bits as words: pack, Upper, Words, Summary. -/
namespace Go.Proofs.YtckbckdaffdjmaaDoor
open Go.RowKit
set_option maxRecDepth 100000
set_option linter.unusedVariables false
set_option linter.unusedSimpArgs false

namespace Bm
/-- A list of which the first i are laid. -/
def part {α : Type} (l : List α) (d : α) (i : Nat) : List α := l.take i ++ List.replicate (l.length - i) d
theorem part_zero {α : Type} (l : List α) (d : α) : part l d 0 = List.replicate l.length d := by simp [part]
theorem part_all {α : Type} (l : List α) (d : α) : part l d l.length = l := by simp [part]
theorem part_length {α : Type} (l : List α) (d : α) {i : Nat} (h : i ≤ l.length) : (part l d i).length = l.length := by simp [part]; omega
theorem part_get {α : Type} (l : List α) (d : α) {i : Nat} (h : i < l.length) : (part l d i)[i]? = some d := by
  unfold part
  rw [List.getElem?_append_right (by simp; omega), List.getElem?_replicate, if_pos (by simp; omega)]
theorem part_next {α : Type} {l : List α} (d : α) {i : Nat} {x : α} (hx : l[i]? = some x) : (part l d i).set i x = part l d (i + 1) := by
  have hi : i < l.length := (List.getElem?_eq_some_iff.1 hx).1
  apply List.ext_getElem?
  intro j
  unfold part
  by_cases e : i = j
  · subst e
    rw [List.getElem?_set_self (by simp; omega), List.getElem?_append_left (by simp; omega), List.getElem?_take, if_pos (by omega), hx]
  · rw [List.getElem?_set_ne e]
    by_cases hj : j < i
    · rw [List.getElem?_append_left (by simp; omega), List.getElem?_append_left (by simp; omega), List.getElem?_take, List.getElem?_take, if_pos hj, if_pos (by omega)]
    · rw [List.getElem?_append_right (by simp; omega), List.getElem?_append_right (by simp; omega), List.getElem?_replicate, List.getElem?_replicate, List.length_take, List.length_take]
      by_cases h2 : j < l.length
      · rw [if_pos (by omega), if_pos (by omega)]
      · rw [if_neg (by omega), if_neg (by omega)]
theorem part_map {α β : Type} (f : α → β) (l : List α) (d : α) (i : Nat) : (part l d i).map f = part (l.map f) (f d) i := by simp [part, List.map_take]
end Bm
theorem shr_bit {x r : Nat} (hx : x < 18446744073709551616) : (bits .and .u64 ((x : Int) / 2 ^ r) 1 == 1) = x.testBit r := by
  have h1 : (x : Int) / 2 ^ r = ((x / 2 ^ r : Nat) : Int) := by rw [Int.natCast_ediv]; simp
  have h2 : x / 2 ^ r < 18446744073709551616 := Nat.lt_of_le_of_lt (Nat.div_le_self _ _) hx
  have h3 := u64_and_nat (x / 2 ^ r) 1 h2 (by decide)
  rw [h1]
  rw [Nat.and_one_is_mod] at h3
  rw [show bits .and .u64 ((x / 2 ^ r : Nat) : Int) 1 = ((x / 2 ^ r % 2 : Nat) : Int) from h3, Nat.testBit_eq_decide_div_mod_eq]
  rcases Nat.mod_two_eq_zero_or_one (x / 2 ^ r) with e | e <;> rw [e] <;> rfl
set_option maxHeartbeats 4000000 in
theorem rbools_calls {w : World} {n : Nat} {v : Value} {V : List UInt64} (h : RU w v V) (hn : n ≤ 65536) (hlen : V.length = Bm.room n) :
    Calls Tryd.prog 92 #[.int .i64 n, v] w fun e w' => ∃ g, e = .returned (.slice (some ⟨g, 0, none⟩) n n) ∧ Rw w' g 4 ((Bm.bools n V).map Value.bool) ∧ w.heap.size ≤ g ∧ Below w.heap.size w w' := by
  obtain ⟨q, cp, rfl, k1, k2, k3, hr⟩ := h
  have hm := bo_made n (by omega)
  rw [bo_cells] at hm
  have HR := Lib.hid hr
  have hbl := Bm.bools_length n V
  rw [hlen] at k1 k3 ⊢
  have HL := Lib.hid hlen
  clear hr hlen
  go_enter Tryd.func92, Tryd.ntmps92
  go_wp2_with fail
  refine wp_loop_count (fun i a w' => (∃ U : Nat → Value, a = ⟨#[.int .i64 n, .slice q (Bm.room n) cp, U 2, U 3, U 4, .slice (some ⟨w.heap.size, 0, none⟩) n n, .int .i64 i, U 7, U 8, U 9, U 10, U 11, U 12, U 13, U 14, U 15, U 16, U 17, U 18, U 19, U 20, U 21, U 22, U 23, U 24, U 25, U 26, U 27, U 28], []⟩) ∧ Rw w' w.heap.size 4 ((Bm.part (Bm.bools n V) false i).map Value.bool) ∧ Below w.heap.size w w') n ⟨exU (fun U => ⟨#[.int .i64 n, .slice q (Bm.room n) cp, U 2, U 3, U 4, .slice (some ⟨w.heap.size, 0, none⟩) n n, .int .i64 0, U 7, U 8, U 9, U 10, U 11, U 12, U 13, U 14, U 15, U 16, U 17, U 18, U 19, U 20, U 21, U 22, U 23, U 24, U 25, U 26, U 27, U 28], []⟩) rfl, by rw [Bm.part_zero, hbl]; exact (heap_new _ _ _ rfl).trans (by simp), below_alloc1 _ _⟩ ?_ ?_
  · rintro i a w' hi ⟨⟨U, rfl⟩, hrow, hbi⟩
    have hq := Bm.room_lt hi
    obtain ⟨x, hx⟩ : ∃ x, V[i / 64]? = some x := ⟨V[i / 64]'(by rw [HL.out]; exact hq), List.getElem?_eq_getElem (by rw [HL.out]; exact hq)⟩
    obtain ⟨g, o, rfl, hg, hcell⟩ := HR.out _ _ hx
    have hcell' := ((bcell hbi).1 g _ hg).trans hcell
    have hbit : Bm.bit V i = x.toNat.testBit (i % 64) := by rw [Bm.bit, List.getD_eq_getElem?_getD, hx]; rfl
    have hbv := shr_bit (r := i % 64) x.toNat_lt
    rw [← hbit] at hbv
    have hnext := Bm.part_next false (Bm.bools_get (W := V) hi)
    have hold := Bm.part_get (Bm.bools n V) false (i := i) (by omega)
    have hc0 := hrow.cell (i := i) (v := .bool false) (by simp [hold])
    have hf0 := hrow.frozen i
    have hset := hrow.set i (.bool (Bm.bit V i))
    rw [← List.map_set, hnext] at hset
    have hbe : Below w.heap.size w (w'.setCell ⟨w.heap.size, i, none⟩ (.bool (Bm.bit V i))) := hbi.setCell (p := ⟨w.heap.size, i, none⟩) (Nat.le_refl _) _
    have HS := Lib.hid hset
    have HB := Lib.hid hbe
    have hi' : (i : Int) < (n : Int) := by exact_mod_cast hi
    have hi0 : (0 : Int) ≤ (i : Int) := Int.natCast_nonneg i
    have hq0 : 0 ≤ (i : Int) / 64 := by omega
    have hq1 : (i : Int) / 64 < ((Bm.room n : Nat) : Int) := by omega
    have hq2 : ((i : Int) / 64).toNat = i / 64 := by omega
    clear hm hbl hx hbit hnext hold hrow hset hbe hbi
    go_wp2_with fail
    exact ⟨exU (fun U => ⟨#[.int .i64 n, .slice (some ⟨g, o, none⟩) (Bm.room n) cp, U 2, U 3, U 4, .slice (some ⟨w.heap.size, 0, none⟩) n n, .int .i64 (i + 1 : Nat), U 7, U 8, U 9, U 10, U 11, U 12, U 13, U 14, U 15, U 16, U 17, U 18, U 19, U 20, U 21, U 22, U 23, U 24, U 25, U 26, U 27, U 28], []⟩) rfl, HS.out, HB.out⟩
  · rintro a w' ⟨⟨U, rfl⟩, hrow, hbi⟩
    have ha := Bm.part_all (Bm.bools n V) false
    rw [hbl] at ha
    rw [ha] at hrow
    clear hm hbl ha
    go_wp2_with fail
    go_ret
    exact ⟨_, rfl, hrow, Nat.le_refl _, hbi⟩
end Go.Proofs.YtckbckdaffdjmaaDoor

/- The document's bitmap: New, From; bits as words: pack, Upper, Words, Summary. -/
namespace Go.Proofs.YtckbckdaffdjmaaDoor
open Go.RowKit
set_option maxRecDepth 100000
set_option linter.unusedVariables false
set_option linter.unusedSimpArgs false

set_option maxHeartbeats 4000000 in
theorem rnew_err {w : World} {n : Int} (hn : (Lit.int .i64 n).wf = true) (h : n < 1 ∨ 65536 < n) : Pur Tryd.prog 57 #[.int .i64 n] w (.tuple #[.pointer none, .int .i64 1]) := by
  unfold Pur
  go_enter Tryd.func57, Tryd.ntmps57
  by_cases e : n < 1
  · go_wp2_with fail
    refine bodyPost_ret (results_tmp2 rfl _ _ _) rfl ?_
    exact ⟨rfl, Below.refl _ _⟩
  · have e2 : 65536 < n := by omega
    go_wp2_with fail
    refine bodyPost_ret (results_tmp2 rfl _ _ _) rfl ?_
    exact ⟨rfl, Below.refl _ _⟩
set_option maxHeartbeats 4000000 in
theorem rnew_calls {w : World} {n : Nat} (h1 : 1 ≤ n) (h2 : n ≤ 65536) : Calls Tryd.prog 57 #[.int .i64 n] w fun e w' => ∃ r bb, e = .returned (.tuple #[.pointer (some ⟨r, 0, none⟩), .int .i64 0]) ∧ RM w' r bb (List.replicate n false) ∧ w.heap.size ≤ r ∧ w.heap.size ≤ bb ∧ Below w.heap.size w w' := by
  have hm := bo_made n (by omega)
  go_enter Tryd.func57, Tryd.ntmps57
  go_wp2_with fail
  refine bodyPost_ret (results_tmp2 rfl _ _ _) rfl ?_
  refine ⟨w.heap.size + 1, w.heap.size, rfl, ⟨?_, ?_, by omega, by simpa using h2⟩, by omega, Nat.le_refl _, below_alloc2 _ _ _⟩
  · exact (heap_new _ _ _ (by simp)).trans (by simp)
  · exact (heap_old _ _ _ (by simp)).trans ((heap_new _ _ _ rfl).trans (by rw [bo_cells]))
set_option maxHeartbeats 4000000 in
theorem rfrom_err1 {w : World} {n : Int} (hn : (Lit.int .i64 n).wf = true) (v : Value) (h : n < 1 ∨ 65536 < n) : Pur Tryd.prog 55 #[.int .i64 n, v] w (.tuple #[.pointer none, .int .i64 1]) := by
  unfold Pur
  go_enter Tryd.func55, Tryd.ntmps55
  by_cases e : n < 1
  · go_wp2_with fail
    refine bodyPost_ret (results_tmp2 rfl _ _ _) rfl ?_
    exact ⟨rfl, Below.refl _ _⟩
  · have e2 : 65536 < n := by omega
    go_wp2_with fail
    refine bodyPost_ret (results_tmp2 rfl _ _ _) rfl ?_
    exact ⟨rfl, Below.refl _ _⟩
set_option maxHeartbeats 4000000 in
theorem rfrom_err2 {w : World} {n : Nat} (h1 : 1 ≤ n) (h2 : n ≤ 65536) {v : Value} {V : List UInt64} (h : RU w v V) (he : Bm.validE n V ≠ 0) : Pur Tryd.prog 55 #[.int .i64 n, v] w (.tuple #[.pointer none, .int .i64 (Bm.validE n V : Nat)]) := by
  unfold Pur
  have he' : (((Bm.validE n V : Nat) : Int) != 0) = true := bne_iff_ne.2 fun e => he (Int.ofNat_inj.1 e)
  have hv := listed_calls h1 h2 h
  clear h he
  go_enter Tryd.func55, Tryd.ntmps55
  go_wp2_with (first | (go_at_call 91; refine hv.out.mono ?_; rintro e w2 ⟨rfl, hb2⟩) | fail)
  refine bodyPost_ret (results_tmp2 rfl _ _ _) rfl ?_
  exact ⟨rfl, hb2⟩
set_option maxHeartbeats 4000000 in
theorem rfrom_calls {w : World} {n : Nat} {v : Value} {V : List UInt64} (h : RU w v V) (hok : Bm.Ok n V) :
    Calls Tryd.prog 55 #[.int .i64 n, v] w fun e w' => ∃ r bb, e = .returned (.tuple #[.pointer (some ⟨r, 0, none⟩), .int .i64 0]) ∧ RM w' r bb (Bm.bools n V) ∧ w.heap.size ≤ r ∧ w.heap.size ≤ bb ∧ Below w.heap.size w w' := by
  have h1 := hok.pos
  have h2 := hok.max
  have hlen := hok.len
  have hv := listed_calls h1 h2 h
  rw [Bm.valid_of_ok hok] at hv
  have H := Lib.hid h
  have HL := Lib.hid hlen
  have HO := Lib.hid hok
  clear h hlen hok
  go_enter Tryd.func55, Tryd.ntmps55
  go_wp2_with (first | (go_at_call 91; refine hv.out.mono ?_; rintro e w1 ⟨rfl, hb1⟩; have hbo := rbools_calls (H.out.below hb1) h2 HL.out) | (go_at_call 92; refine hbo.mono ?_; rintro e w2 ⟨g, rfl, hrow, hg, hb2⟩) | fail)
  refine bodyPost_ret (results_tmp2 rfl _ _ _) rfl ?_
  have hb3 := hb1.trans (hb2.mono hb1.size)
  have hs := hb1.size
  have hlt := heap_lt hrow
  refine ⟨w2.heap.size, g, rfl, ⟨?_, ?_, by omega, by rw [Bm.bools_length]; exact h2⟩, hb3.size, by omega, hb3.alloc hb3.size _⟩
  · rw [Bm.bools_length]; exact heap_new _ _ _ rfl
  · exact (heap_old _ _ _ hlt).trans hrow
theorem add_one64 {x r : Nat} (hr : r < 64) (h : x + 2 ^ r < 18446744073709551616) : IntKind.u64.wrap ((x : Int) + IntKind.u64.wrap ((2 : Int) ^ r)) = ((x + 2 ^ r : Nat) : Int) := by
  rw [shl_one hr, ← Int.natCast_add]; exact wrap_nat h
set_option maxHeartbeats 4000000 in
theorem pack_calls {w : World} {bb : Nat} {bs : List Bool} (h : Rw w bb 4 (bs.map Value.bool)) (hmax : bs.length ≤ 65536) :
    Calls Tryd.prog 95 #[.slice (some ⟨bb, 0, none⟩) bs.length bs.length] w fun e w' => ∃ v, e = .returned v ∧ NewU w w' v (Bm.pack bs) := by
  have hrm : Bm.room bs.length ≤ 1024 := by unfold Bm.room; omega
  have hlc := length_calls (w := w) (n := bs.length) (by omega)
  have hm := uy_made (Bm.room bs.length) (by omega)
  have H := Lib.hid h
  have lb := heap_lt h
  unfold NewU
  rw [Bm.pack_length]
  have hall := Lib.hid (Bm.packTo_all bs)
  obtain ⟨L, hL⟩ : ∃ L, L = bs.length := ⟨_, rfl⟩
  have HL := Lib.hid hL
  rw [← hL] at hrm hlc hm hmax ⊢
  clear h hL
  go_enter Tryd.func95, Tryd.ntmps95
  go_wp2_with (first | (go_at_call 107; refine hlc.out.mono ?_; rintro e w1 ⟨rfl, hb1⟩) | fail)
  have hs1 := hb1.size
  refine wp_loop_count (fun i a w' => (∃ U : Nat → Value, a = ⟨#[.slice (some ⟨bb, 0, none⟩) L L, U 1, U 2, .slice (some ⟨w1.heap.size, 0, none⟩) (Bm.room L) (Bm.room L), .int .i64 i, U 5, U 6, U 7, U 8, U 9, U 10, U 11, U 12, U 13, U 14, U 15, U 16, U 17, U 18, U 19, U 20, U 21, U 22, U 23, U 24, U 25, U 26, U 27, U 28, U 29, U 30, U 31, U 32, U 33], []⟩) ∧ Rw w' w1.heap.size 58 ((Bm.packTo i bs).map uv) ∧ Below w.heap.size w w') L ⟨exU (fun U => ⟨#[.slice (some ⟨bb, 0, none⟩) L L, U 1, U 2, .slice (some ⟨w1.heap.size, 0, none⟩) (Bm.room L) (Bm.room L), .int .i64 0, U 5, U 6, U 7, U 8, U 9, U 10, U 11, U 12, U 13, U 14, U 15, U 16, U 17, U 18, U 19, U 20, U 21, U 22, U 23, U 24, U 25, U 26, U 27, U 28, U 29, U 30, U 31, U 32, U 33], []⟩) rfl, by rw [Bm.packTo_zero, ← HL.out]; exact (heap_new _ _ _ rfl).trans (by rw [made_cells]), hb1.alloc hs1 _⟩ ?_ ?_
  · rintro i a w' hi ⟨⟨U, rfl⟩, hrow, hbi⟩
    have hi2 : i < bs.length := by rw [← HL.out]; exact hi
    have hq := Bm.room_lt hi
    obtain ⟨b, hb⟩ : ∃ b, bs[i]? = some b := ⟨_, List.getElem?_eq_getElem hi2⟩
    have hcb := ((bcell hbi).1 _ _ lb).trans (H.out.cell (i := i) (v := .bool b) (by simp [hb]))
    obtain ⟨x, hx⟩ : ∃ x, (Bm.packTo i bs)[i / 64]? = some x := ⟨_, List.getElem?_eq_getElem (by rw [Bm.packTo_length, ← HL.out]; exact hq)⟩
    have hc0 := hrow.cell (i := i / 64) (v := uv x) (by simp [hx])
    have hf0 := hrow.frozen (i / 64)
    have hn := Bm.packTo_next hb hx
    have hi' : (i : Int) < (L : Int) := by exact_mod_cast hi
    have hi0 : (0 : Int) ≤ (i : Int) := Int.natCast_nonneg i
    have hq0 : 0 ≤ (i : Int) / 64 := by omega
    have hq1 : (i : Int) / 64 < ((Bm.room L : Nat) : Int) := by omega
    have hq2 : ((i : Int) / 64).toNat = i / 64 := by omega
    cases b with
    | false =>
      have hsk := Bm.packTo_skip hb
      rw [← hsk] at hrow
      have HS := Lib.hid hrow
      have HB := Lib.hid hbi
      clear hm hlc hx hsk hrow hbi hb1 hb hn hi2 hq
      go_wp2_with fail
      exact ⟨exU (fun U => ⟨#[.slice (some ⟨bb, 0, none⟩) L L, U 1, U 2, .slice (some ⟨w1.heap.size, 0, none⟩) (Bm.room L) (Bm.room L), .int .i64 (i + 1 : Nat), U 5, U 6, U 7, U 8, U 9, U 10, U 11, U 12, U 13, U 14, U 15, U 16, U 17, U 18, U 19, U 20, U 21, U 22, U 23, U 24, U 25, U 26, U 27, U 28, U 29, U 30, U 31, U 32, U 33], []⟩) rfl, HS.out, HB.out⟩
    | true =>
      simp only [if_true] at hn
      have hv := add_one64 (x := x.toNat) (r := i % 64) (Nat.mod_lt _ (by decide)) hn.1
      have hset := hrow.set (i / 64) (.int .u64 ((x.toNat + 2 ^ (i % 64) : Nat) : Int))
      have hbe : Below w.heap.size w (w'.setCell ⟨w1.heap.size, i / 64, none⟩ (.int .u64 ((x.toNat + 2 ^ (i % 64) : Nat) : Int))) := hbi.setCell (p := ⟨w1.heap.size, i / 64, none⟩) hs1 _
      have e1 : ((Bm.packTo i bs).map uv).set (i / 64) (.int .u64 ((x.toNat + 2 ^ (i % 64) : Nat) : Int)) = (Bm.packTo (i + 1) bs).map uv := by
        rw [hn.2, List.map_set, uv, Bm.toNat_of hn.1]
      rw [e1] at hset
      have HS := Lib.hid hset
      have HB := Lib.hid hbe
      clear hm hlc hx hrow hbi hb1 hb hn hi2 hq hset hbe e1
      rw [show ((x.toNat + 2 ^ (i % 64) : Nat) : Int) = (x.toNat : Int) + 2 ^ (i % 64) by simp] at HS HB
      go_wp2_with fail
      exact ⟨exU (fun U => ⟨#[.slice (some ⟨bb, 0, none⟩) L L, U 1, U 2, .slice (some ⟨w1.heap.size, 0, none⟩) (Bm.room L) (Bm.room L), .int .i64 (i + 1 : Nat), U 5, U 6, U 7, U 8, U 9, U 10, U 11, U 12, U 13, U 14, U 15, U 16, U 17, U 18, U 19, U 20, U 21, U 22, U 23, U 24, U 25, U 26, U 27, U 28, U 29, U 30, U 31, U 32, U 33], []⟩) rfl, HS.out, HB.out⟩
  · rintro a w' ⟨⟨U, rfl⟩, hrow, hbi⟩
    have ha := hall.out
    rw [← HL.out] at ha
    rw [ha] at hrow
    have hs2 := hbi.size
    have HR := Lib.hid hrow
    clear hm hlc ha hrow
    go_wp2_with fail
    go_ret
    exact ⟨_, rfl, w1.heap.size, rfl, HR.out, hs1, hbi⟩
end Go.Proofs.YtckbckdaffdjmaaDoor

/- The document's bitmap: Upper, Words, Summary, CountRange, Count. -/
namespace Go.Proofs.YtckbckdaffdjmaaDoor
open Go.RowKit
set_option maxRecDepth 100000
set_option linter.unusedVariables false
set_option linter.unusedSimpArgs false

theorem NewU.ru {w w' : World} {v : Value} {W : List UInt64} (h : NewU w w' v W) (hl : W.length ≤ 17592186044416) : RU w' v W := by
  obtain ⟨g, rfl, hr, _, _⟩ := h
  exact Rw.ru (t := []) (by simpa using hr) rfl (Nat.le_refl _) (by simp only [maxLen]; omega) hl
set_option maxHeartbeats 4000000 in
theorem upper_calls {w : World} {v : Value} {W : List UInt64} (h : RU w v W) (hmax : W.length ≤ 65536) :
    Calls Tryd.prog 96 #[v] w fun e w' => ∃ v, e = .returned v ∧ NewU w w' v (Bm.upper W) := by
  obtain ⟨q, cp, rfl, k1, k2, k3, hr⟩ := h
  have HR := Lib.hid hr
  have hm := bo_made W.length (by omega)
  rw [bo_cells] at hm
  clear hr
  obtain ⟨bs, hbs⟩ : ∃ bs, bs = W.map (fun x => decide (x ≠ 0)) := ⟨_, rfl⟩
  have hbl : bs.length = W.length := by rw [hbs, List.length_map]
  have hbg : ∀ (i : Nat) (x : UInt64), W[i]? = some x → bs[i]? = some (decide (x ≠ 0)) := fun i x hx => by rw [hbs, List.getElem?_map, hx]; rfl
  unfold Bm.upper
  rw [← hbs]
  clear hbs
  obtain ⟨L, hL⟩ : ∃ L, L = W.length := ⟨_, rfl⟩
  have HL := Lib.hid hL
  rw [← hL] at k1 k3 hm hmax hbl ⊢
  have HG := Lib.hid hbg
  clear hbg hL
  go_enter Tryd.func96, Tryd.ntmps96
  go_wp2_with fail
  refine wp_loop_count (fun i a w' => (∃ U : Nat → Value, a = ⟨#[.slice q L cp, U 1, U 2, .slice (some ⟨w.heap.size, 0, none⟩) L L, .int .i64 i, U 5, U 6, U 7, U 8, U 9, U 10, U 11, U 12, U 13, U 14, U 15, U 16, U 17, U 18, U 19, U 20, U 21, U 22, U 23], []⟩) ∧ Rw w' w.heap.size 4 ((Bm.part bs false i).map Value.bool) ∧ Below w.heap.size w w') L ⟨exU (fun U => ⟨#[.slice q L cp, U 1, U 2, .slice (some ⟨w.heap.size, 0, none⟩) L L, .int .i64 0, U 5, U 6, U 7, U 8, U 9, U 10, U 11, U 12, U 13, U 14, U 15, U 16, U 17, U 18, U 19, U 20, U 21, U 22, U 23], []⟩) rfl, by rw [Bm.part_zero, hbl]; exact (heap_new _ _ _ rfl).trans (by simp), below_alloc1 _ _⟩ ?_ ?_
  · rintro i a w' hi ⟨⟨U, rfl⟩, hrow, hbi⟩
    obtain ⟨x, hx⟩ : ∃ x, W[i]? = some x := ⟨_, List.getElem?_eq_getElem (by rw [← HL.out]; exact hi)⟩
    obtain ⟨g, o, rfl, hg, hcell⟩ := HR.out _ _ hx
    have hcell' := ((bcell hbi).1 g _ hg).trans hcell
    have hb := HG.out _ _ hx
    have hbv : ((x.toNat : Int) != 0) = decide (x ≠ 0) := by
      by_cases e : x = 0
      · subst e; rfl
      · rw [decide_eq_true e]; exact bne_iff_ne.2 fun e' => e (UInt64.toNat_inj.1 (Int.ofNat_inj.1 e'))
    obtain ⟨z, hz⟩ : ∃ z, z = decide (x ≠ 0) := ⟨_, rfl⟩
    rw [← hz] at hb hbv
    have hnext := Bm.part_next false hb
    have hold := Bm.part_get bs false (i := i) (by omega)
    have hc0 := hrow.cell (i := i) (v := .bool false) (by simp [hold])
    have hf0 := hrow.frozen i
    have hset := hrow.set i (.bool z)
    rw [← List.map_set, hnext] at hset
    have hbe : Below w.heap.size w (w'.setCell ⟨w.heap.size, i, none⟩ (.bool z)) := hbi.setCell (p := ⟨w.heap.size, i, none⟩) (Nat.le_refl _) _
    have HS := Lib.hid hset
    have HB := Lib.hid hbe
    have hi' : (i : Int) < (L : Int) := by exact_mod_cast hi
    have hi0 : (0 : Int) ≤ (i : Int) := Int.natCast_nonneg i
    clear hm hbl hx hb hnext hold hrow hset hbe hbi hz
    go_wp2_with fail
    exact ⟨exU (fun U => ⟨#[.slice (some ⟨g, o, none⟩) L cp, U 1, U 2, .slice (some ⟨w.heap.size, 0, none⟩) L L, .int .i64 (i + 1 : Nat), U 5, U 6, U 7, U 8, U 9, U 10, U 11, U 12, U 13, U 14, U 15, U 16, U 17, U 18, U 19, U 20, U 21, U 22, U 23], []⟩) rfl, HS.out, HB.out⟩
  · rintro a w' ⟨⟨U, rfl⟩, hrow, hbi⟩
    have ha := Bm.part_all bs false
    rw [hbl] at ha
    rw [ha] at hrow
    have hp := pack_calls hrow (by rw [hbl]; exact hmax)
    rw [hbl] at hp
    have hsz := hbi.size
    have HB := Lib.hid hbi
    clear hm hbl ha hrow hbi
    go_wp2_with (first | (go_at_call 95; refine hp.mono ?_; rintro e w2 ⟨v2, rfl, g2, rfl, hr2, hg2, hb2⟩) | fail)
    go_ret
    exact ⟨_, rfl, g2, rfl, hr2, Nat.le_trans hsz hg2, HB.out.trans (hb2.mono hsz)⟩
set_option maxHeartbeats 4000000 in
theorem rwords_calls {w : World} {r bb : Nat} {bs : List Bool} (h : RM w r bb bs) : Calls Tryd.prog 63 #[.pointer (some ⟨r, 0, none⟩)] w fun e w' => ∃ v, e = .returned v ∧ NewU w w' v (Bm.pack bs) := by
  have c0 := h.hs.cell (i := 0) rfl
  have hp := pack_calls h.hb h.max
  go_enter Tryd.func63, Tryd.ntmps63
  go_wp2_with (first | (go_at_call 95; refine hp.mono ?_; rintro e w2 ⟨v2, rfl, hv2⟩) | fail)
  go_ret
  exact ⟨_, rfl, hv2⟩
set_option maxHeartbeats 4000000 in
theorem rsummary_calls {w : World} {r bb : Nat} {bs : List Bool} (h : RM w r bb bs) : Calls Tryd.prog 65 #[.pointer (some ⟨r, 0, none⟩)] w fun e w' => ∃ v, e = .returned v ∧ NewU w w' v (Bm.upper (Bm.pack bs)) := by
  have c0 := h.hs.cell (i := 0) rfl
  have hp := pack_calls h.hb h.max
  have hmx := h.max
  have hpl : (Bm.pack bs).length ≤ 65536 := by rw [Bm.pack_length]; unfold Bm.room; omega
  clear h
  go_enter Tryd.func65, Tryd.ntmps65
  go_wp2_with (first | (go_at_call 95; refine hp.mono ?_; rintro e w2 ⟨v2, rfl, hv2⟩; have hb2 : Below w.heap.size w w2 := hv2.elim fun g hg => hg.2.2.2; have hup := upper_calls (hv2.ru (by omega)) hpl) | (go_at_call 96; refine hup.mono ?_; rintro e w3 ⟨v3, rfl, g3, rfl, hr3, hg3, hb3⟩) | fail)
  go_ret
  have hs2 := hb2.size
  exact ⟨_, rfl, g3, rfl, hr3, Nat.le_trans hs2 hg3, hb2.trans (hb3.mono hs2)⟩
namespace Bm
/-- The errors of a range. -/
def rangeE (n first count : Int) : Nat := if count < 0 then 1 else if first < 0 ∨ n < first ∨ n - first < count then 2 else 0
theorem rangeE_ok {n first count : Int} (h : rangeE n first count = 0) : 0 ≤ count ∧ 0 ≤ first ∧ first ≤ n ∧ count ≤ n - first := by
  unfold rangeE at h
  split at h
  · cases h
  · split at h
    · cases h
    · omega
end Bm
set_option maxHeartbeats 4000000 in
theorem ranged_calls {w : World} {r bb : Nat} {bs : List Bool} (h : RM w r bb bs) {first count : Int} (h1 : (Lit.int .i64 first).wf = true) (h2 : (Lit.int .i64 count).wf = true) : Pur Tryd.prog 94 #[.pointer (some ⟨r, 0, none⟩), .int .i64 first, .int .i64 count] w (.int .i64 (Bm.rangeE bs.length first count : Nat)) := by
  unfold Pur
  have c0 := h.hs.cell (i := 0) rfl
  have hmx := h.max
  unfold Bm.rangeE
  go_enter Tryd.func94, Tryd.ntmps94
  by_cases e1 : count < 0
  · rw [if_pos e1]
    go_wp2_with fail
    go_ret
    exact ⟨rfl, Below.refl _ _⟩
  · rw [if_neg e1]
    by_cases e2 : first < 0
    · rw [if_pos (.inl e2)]
      go_wp2_with fail
      go_ret
      exact ⟨rfl, Below.refl _ _⟩
    · by_cases e3 : (bs.length : Int) < first
      · rw [if_pos (.inr (.inl e3))]
        go_wp2_with fail
        go_ret
        exact ⟨rfl, Below.refl _ _⟩
      · by_cases e4 : (bs.length : Int) - first < count
        · rw [if_pos (.inr (.inr e4))]
          go_wp2_with fail
          go_ret
          exact ⟨rfl, Below.refl _ _⟩
        · rw [if_neg (by omega)]
          go_wp2_with fail
          go_ret
          exact ⟨rfl, Below.refl _ _⟩
end Go.Proofs.YtckbckdaffdjmaaDoor

/- The document's bitmap: CountRange, Count. -/
namespace Go.Proofs.YtckbckdaffdjmaaDoor
open Go.RowKit
set_option maxRecDepth 100000
set_option linter.unusedVariables false
set_option linter.unusedSimpArgs false

/-- The frame is F of something. (A name, so that the walk leaves it standing.) -/
def Is (F : (Nat → Value) → Act) (a : Act) : Prop := ∃ U, a = F U
theorem Is.out {F : (Nat → Value) → Act} {a : Act} (h : Is F a) : ∃ U, a = F U := h
theorem isU {t : Array Value} (F : (Nat → Value) → Act) (h : (⟨t, []⟩ : Act) = F (fun k => t.getD k undef)) : Is F ⟨t, []⟩ := ⟨_, h⟩
set_option maxHeartbeats 4000000 in
theorem rcountrange_err {w : World} {r bb : Nat} {bs : List Bool} (h : RM w r bb bs) {first count : Int} (h1 : (Lit.int .i64 first).wf = true) (h2 : (Lit.int .i64 count).wf = true) (he : Bm.rangeE bs.length first count ≠ 0) : Pur Tryd.prog 60 #[.pointer (some ⟨r, 0, none⟩), .int .i64 first, .int .i64 count] w (.tuple #[.int .i64 0, .int .i64 (Bm.rangeE bs.length first count : Nat)]) := by
  unfold Pur
  have hc := ranged_calls h h1 h2
  have he' : (((Bm.rangeE bs.length first count : Nat) : Int) != 0) = true := bne_iff_ne.2 fun e => he (Int.ofNat_inj.1 e)
  clear h he
  go_enter Tryd.func60, Tryd.ntmps60
  go_wp2_with (first | (go_at_call 94; refine hc.out.mono ?_; rintro e w2 ⟨rfl, hb2⟩) | fail)
  refine bodyPost_ret (results_tmp2 rfl _ _ _) rfl ?_
  exact ⟨rfl, hb2⟩
theorem wf_nat {n : Nat} (h : n < 9223372036854775808) : (Lit.int .i64 (n : Int)).wf = true := by simp [Lit.wf, IntKind.min, IntKind.max, IntKind.bits, IntKind.signed]; omega
set_option maxHeartbeats 4000000 in
theorem rcountrange_calls {w : World} {r bb : Nat} {bs : List Bool} (h : RM w r bb bs) {f c : Nat} (hfc : f + c ≤ bs.length) : Pur Tryd.prog 60 #[.pointer (some ⟨r, 0, none⟩), .int .i64 f, .int .i64 c] w (.tuple #[.int .i64 (Bm.cnt (fun i => bs.getD i false) f c : Nat), .int .i64 0]) := by
  unfold Pur
  have hmx := h.max
  have hc := ranged_calls h (first := f) (count := c) (wf_nat (by omega)) (wf_nat (by omega))
  rw [show Bm.rangeE bs.length f c = 0 by unfold Bm.rangeE; rw [if_neg (by omega), if_neg (by omega)]] at hc
  have c0 := h.hs.cell (i := 0) rfl
  have lr := heap_lt h.hs
  have lb := heap_lt h.hb
  have HB := Lib.hid h.hb
  obtain ⟨L, hL⟩ : ∃ L, L = bs.length := ⟨_, rfl⟩
  have HL := Lib.hid hL
  rw [← hL] at c0 hmx hfc
  clear h hL
  go_enter Tryd.func60, Tryd.ntmps60
  go_wp2_with (first | (go_at_call 94; refine hc.out.mono ?_; rintro e w2 ⟨rfl, hb2⟩) | fail)
  refine wp_loop_count (fun j a w' => Is (fun U => ⟨#[.pointer (some ⟨r, 0, none⟩), .int .i64 f, .int .i64 c, U 3, U 4, U 5, U 6, U 7, U 8, .int .i64 (Bm.cnt (fun i => bs.getD i false) f j : Nat), .int .i64 (f + j : Nat), U 11, U 12, U 13, U 14, U 15, U 16, U 17, U 18, U 19, U 20, U 21, U 22, U 23, U 24, U 25, U 26, U 27, U 28, U 29, U 30, U 31, U 32, U 33, U 34, U 35], []⟩) a ∧ Below w.heap.size w w') c ⟨isU (fun U => ⟨#[.pointer (some ⟨r, 0, none⟩), .int .i64 f, .int .i64 c, U 3, U 4, U 5, U 6, U 7, U 8, .int .i64 0, .int .i64 f, U 11, U 12, U 13, U 14, U 15, U 16, U 17, U 18, U 19, U 20, U 21, U 22, U 23, U 24, U 25, U 26, U 27, U 28, U 29, U 30, U 31, U 32, U 33, U 34, U 35], []⟩) rfl, hb2⟩ ?_ ?_
  · rintro j a w' hj ⟨hU, hbi⟩
    obtain ⟨U, rfl⟩ := hU.out
    have hlt : f + j < bs.length := by rw [← HL.out]; omega
    obtain ⟨b, hb⟩ : ∃ b, bs[f + j]? = some b := ⟨_, List.getElem?_eq_getElem hlt⟩
    have hcb := ((bcell hbi).1 _ _ lb).trans (HB.out.cell (i := f + j) (v := .bool b) (by simp [hb]))
    have hc0 := ((bcell hbi).1 r 0 lr).trans c0
    have hcn : Bm.cnt (fun i => bs.getD i false) f (j + 1) = Bm.cnt (fun i => bs.getD i false) f j + (if b = true then 1 else 0) := by
      rw [Bm.cnt, List.getD_eq_getElem?_getD, hb]; rfl
    have hcl := Bm.cnt_le (fun i => bs.getD i false) f j
    have HC := Lib.hid hcn
    clear hcn
    generalize Bm.cnt (fun i => bs.getD i false) f j = k at *
    obtain ⟨m, hm⟩ : ∃ m, m = f + j := ⟨_, rfl⟩
    rw [← hm] at hcb hlt ⊢
    have h1 : ((m : Nat) : Int) < (f : Int) + (c : Int) := by omega
    have h2 : ((m : Nat) : Int) < (L : Int) := by omega
    have h3 : (0 : Int) ≤ ((m : Nat) : Int) := by omega
    have h4 : (f : Int) + (c : Int) ≤ 65536 := by omega
    have HM : Hid (f + (j + 1) = m + 1) := show _ = _ by omega
    rw [HM.out, HC.out]
    have HN := Lib.hid hbi
    clear hc hb hb2 hlt hm hbi hU
    cases b with
    | false =>
      rw [if_neg (by decide), Nat.add_zero]
      go_wp2_with fail
      exact ⟨isU (fun U => ⟨#[.pointer (some ⟨r, 0, none⟩), .int .i64 f, .int .i64 c, U 3, U 4, U 5, U 6, U 7, U 8, .int .i64 k, .int .i64 (m + 1 : Nat), U 11, U 12, U 13, U 14, U 15, U 16, U 17, U 18, U 19, U 20, U 21, U 22, U 23, U 24, U 25, U 26, U 27, U 28, U 29, U 30, U 31, U 32, U 33, U 34, U 35], []⟩) rfl, HN.out⟩
    | true =>
      rw [if_pos rfl]
      go_wp2_with fail
      exact ⟨isU (fun U => ⟨#[.pointer (some ⟨r, 0, none⟩), .int .i64 f, .int .i64 c, U 3, U 4, U 5, U 6, U 7, U 8, .int .i64 (k + 1 : Nat), .int .i64 (m + 1 : Nat), U 11, U 12, U 13, U 14, U 15, U 16, U 17, U 18, U 19, U 20, U 21, U 22, U 23, U 24, U 25, U 26, U 27, U 28, U 29, U 30, U 31, U 32, U 33, U 34, U 35], []⟩) rfl, HN.out⟩
  · rintro a w' ⟨hU, hbi⟩
    obtain ⟨U, rfl⟩ := hU.out
    clear hU
    have h1 : (((f + c : Nat) : Int) < (f : Int) + (c : Int)) = False := by simp
    have h4 : (f : Int) + (c : Int) ≤ 65536 := by omega
    clear hc hb2
    go_wp2_with fail
    refine bodyPost_ret (results_tmp2 rfl _ _ _) rfl ?_
    exact ⟨rfl, hbi⟩
set_option maxHeartbeats 4000000 in
theorem rcount_calls {w : World} {r bb : Nat} {bs : List Bool} (h : RM w r bb bs) : Pur Tryd.prog 59 #[.pointer (some ⟨r, 0, none⟩)] w (.int .i64 (Bm.cnt (fun i => bs.getD i false) 0 bs.length : Nat)) := by
  unfold Pur
  have hc := rcountrange_calls h (f := 0) (c := bs.length) (by omega)
  have c0 := h.hs.cell (i := 0) rfl
  clear h
  go_enter Tryd.func59, Tryd.ntmps59
  go_wp2_with (first | (go_at_call 60; refine hc.out.mono ?_; rintro e w2 ⟨rfl, hb2⟩) | fail)
  go_ret
  exact ⟨rfl, hb2⟩
end Go.Proofs.YtckbckdaffdjmaaDoor

/- Rows of lists of words that grow; a word behind a list of the call's own. -/
namespace Go.Proofs.YtckbckdaffdjmaaDoor
open Go.RowKit
set_option maxRecDepth 100000
set_option linter.unusedVariables false
set_option linter.unusedSimpArgs false

theorem ls_tu : Tryd.prog.underlying 29 = some (.slice 22) := by kernel_rfl
theorem ls_ti : (Tryd.prog.info? 22).map (fun i => (i.zero, i.size, i.bytes)) = some (some (.slice none 0 0), 1, 24) := by kernel_rfl
theorem ls_info : ∃ i, Tryd.prog.info? 22 = some i ∧ i.zero = some (.slice none 0 0) ∧ i.size = 1 ∧ i.bytes = 24 := by
  have h := ls_ti
  cases hi : Tryd.prog.info? 22 with
  | none => rw [hi] at h; cases h
  | some i =>
    rw [hi] at h
    simp only [Option.map_some, Option.some.injEq, Prod.mk.injEq] at h
    exact ⟨i, rfl, h⟩
/-- A row of the call's own that holds slices. -/
def VU (B : Nat) (w : World) (v : Value) (vs : List Value) : Prop := w.ownsRow B 22 1 v vs.length vs
section
variable {w w' w1 w2 : World} {B : Nat} {v x : Value} {vs : List Value}
theorem VU.nil_ : VU B w (.slice none 0 0) [] := World.ownsRow_nil w B _ 1
theorem VU.lt (h : VU B w v vs) : ∀ k, v.ownBlock = some k → B ≤ k ∧ k < w.heap.size := World.ownsRow.lt h
theorem VU.at_ (h : VU B w v vs) (he : ∀ g, v.ownBlock = some g → w'.heap[g]? = w.heap[g]?) : VU B w' v vs := by
  obtain ⟨h0, ⟨e1, e2⟩ | ⟨g, cap, cur, e, hB, hg, hr⟩⟩ := h
  · exact ⟨h0, .inl ⟨e1, e2⟩⟩
  · exact ⟨h0, .inr ⟨g, cap, cur, e, hB, (he g (by rw [e]; rfl)).trans hg, hr⟩⟩
/-- The row's form where it holds something. -/
theorem VU.get (h : VU B w v vs) {i : Nat} {u : Value} (hu : vs[i]? = some u) : ∃ g cap, v = .slice (some ⟨g, 0, none⟩) vs.length cap ∧ g < w.heap.size ∧ w.cell? ⟨g, i, none⟩ = some u := by
  have hi : i < vs.length := (List.getElem?_eq_some_iff.1 hu).1
  obtain ⟨h0, ⟨e1, e2⟩ | ⟨g, cap, cur, e, hB, hg, hr⟩⟩ := h
  · omega
  · have hc := World.ownsRow.cells (w := w) (base := B) (e := 22) (size := 1) (v := v) (n := vs.length) (xs := vs) ⟨h0, .inr ⟨g, cap, cur, e, hB, hg, hr⟩⟩ (g := g) (by rw [e]; rfl) i u hu
    rw [add_flat, Nat.zero_add] at hc
    exact ⟨g, cap, e, heap_lt hg, hc⟩
theorem VU.form (h : VU B w v vs) : ∃ p cap, v = .slice p vs.length cap := by
  obtain ⟨h0, ⟨e1, e2⟩ | ⟨g, cap, cur, e, hr⟩⟩ := h
  · exact ⟨none, 0, by rw [e1, e2]⟩
  · exact ⟨_, cap, e⟩
theorem VU.append (h : VU B w v vs) {a : Nat} (hx : w.cell? ⟨a, 0, none⟩ = some x) (h1 : x.oneCell' = true) (hlen : vs.length + 1 ≤ 5864062014805) (hB : B ≤ w.heap.size) :
    ∃ v' w', (Builtin.append_ #[29, 29] 29 #[v, .slice (some ⟨a, 0, none⟩) 1 1]).run Tryd.prog w = .ok v' w' ∧ VU B w' v' (vs ++ [x]) ∧ w.grownBy w' v.ownBlock ∧ (v'.ownBlock = v.ownBlock ∨ v'.ownBlock = some w.heap.size) := by
  obtain ⟨i, hi, hz, hs, hb⟩ := ls_info
  have hm : maxLen = 9223372036854775807 := rfl
  obtain ⟨v', w', h1', h2', h3', -, h5'⟩ := run_append_own_at (P := Tryd.prog) w B 29 29 22 i (.slice none 0 0) 1 24 ls_tu hi hz hs hb rfl (by decide) v vs.length vs h ⟨a, 0, none⟩ 1 1 [x] rfl
    (fun j u hj => by
      match j, hj with
      | 0, hj =>
        simp at hj
        subst hj
        rw [add_flat]
        exact hx) (fun u hu => by simp at hu; subst hu; exact h1) (by rw [hm]; omega) (by omega) hB
  exact ⟨v', w', h1', by unfold VU; rw [List.length_append]; exact h2', h3', h5'⟩
theorem VU.one (h : VU B w x vs) : x.oneCell' = true := by
  obtain ⟨p, c, e⟩ := h.form
  rw [e]; rfl
theorem VU.grown {y : Option Nat} (h : VU B w x vs) (hg : w.grownBy w' y) (hne : ∀ k, x.ownBlock = some k → y ≠ some k) : VU B w' x vs := h.at_ fun k e => hg.block k (h.lt k e).2 (fun e' => hne k e e'.symm)
theorem VU.mod {F : Nat → Prop} (h : VU B w x vs) (hm : Mod F w w') (hf : ∀ g, x.ownBlock = some g → ¬ F g) : VU B w' x vs := h.at_ fun g e => hm.block g (h.lt g e).2 (hf g e)
end
theorem OU.mod {F : Nat → Prop} {w w' : World} {B : Nat} {x : Value} {l : List UInt64} (h : OU B w x l) (hm : Mod F w w') (hf : ∀ g, x.ownBlock = some g → ¬ F g) : OU B w' x l := h.at_ fun g e => hm.block g (h.lt g e).2 (hf g e)
theorem Mod.grown {F : Nat → Prop} {w w' : World} {y : Option Nat} (h : w.grownBy w' y) (hy : ∀ k, y = some k → k < w.heap.size → F k) : Mod F w w' :=
  ⟨h.os, h.tape, h.output, h.size, fun k hk hf => h.block k hk (fun e => hf (hy k e.symm hk))⟩
/-- append of one byte to a row of the call's own: what the old row held it holds. -/
theorem run_append_word {w : World} {B : Nat} {v x : Value} {l : List UInt64} {b : UInt64} (h : OU B w v l) (hr : RU w x [b]) (hlen : l.length + 1 ≤ 17592186044416) (hB : B ≤ w.heap.size) :
    ∃ v' w', (Builtin.append_ #[22, 22] 22 #[v, x]).run Tryd.prog w = .ok v' w' ∧ OU B w' v' (l ++ [b]) ∧ w.grownBy w' v.ownBlock ∧ (v'.ownBlock = v.ownBlock ∨ v'.ownBlock = some w.heap.size) ∧
      ∀ g i, v.ownBlock = some g → i < l.length → w'.cell? ⟨g, i, none⟩ = w.cell? ⟨g, i, none⟩ := by
  obtain ⟨v', w', hrun, h1, h2, h3⟩ := run_append_OU h hr hlen hB
  refine ⟨v', w', hrun, h1, h2, h3, fun g i hg hi => ?_⟩
  obtain ⟨inf, hi', hz⟩ := uy_info
  obtain ⟨p, c, rfl, k1, k2, k3, hc⟩ := hr
  obtain ⟨ga, oa, rfl, hga, hca⟩ := hc 0 b rfl
  have hnews : ∀ j u, [uv b][j]? = some u → w.cell? ((⟨ga, oa, none⟩ : Addr).add j) = some u := fun j u hj => by
    match j, hj with
    | 0, hj =>
      simp at hj
      subst hj
      rw [add_flat]
      exact hca
  obtain ⟨⟨h0, ⟨e1, e2⟩ | ⟨g', cap, cur, e, hBg, hgg, hn, hcm, hcs, htk⟩⟩, hl⟩ := h
  · rw [e1] at hg; cases hg
  · subst e
    have hgeq : g' = g := by have : some g' = some g := hg; injection this
    subst hgeq
    rw [Nat.mul_one] at hcs
    by_cases hroom : l.length + 1 ≤ cap
    · have hrm := run_append_room (P := Tryd.prog) w 22 22 58 inf uy_tu hi' g' l.length cap cur hgg ⟨ga, oa, none⟩ 1 c [uv b] (by rw [hz.2.1]; rfl) hnews (fun u hu => by simp at hu; subst hu; rfl) hroom (by rw [hz.2.1, Nat.mul_one, hcs]; exact hroom)
      have hrun' := hrun
      rw [show [b].length = 1 from rfl, hrm] at hrun'
      injection hrun' with _ hw
      rw [← hw, has_cell (setRow_heap w g' cur _ _ _ hgg), has_cell hgg]
      rw [hz.2.1, Nat.mul_one]
      have hcl : cur.toList.length = cap := by simpa using hcs
      rw [List.getElem?_toArray, List.append_assoc, List.getElem?_append_left (by rw [List.length_take]; omega), List.getElem?_take, if_pos hi]
      simp
    · have hgw := run_append_grow (P := Tryd.prog) w 22 22 58 inf (.int .u64 0) uy_tu hi' hz.1 ⟨g', 0, none⟩ l.length cap (l.map uv) (by rw [hz.2.1]; simp) (fun j u hj => by
          have := World.ownsRow.cells (w := w) (base := B) (e := 58) (size := 1) (n := l.length) (xs := l.map uv) ⟨h0, .inr ⟨g', cap, cur, rfl, hBg, hgg, hn, hcm, by rw [Nat.mul_one]; exact hcs, htk⟩⟩ (g := g') rfl j u hj
          exact this) ⟨ga, oa, none⟩ 1 c [uv b] (by rw [hz.2.1]; rfl) hnews (by omega) (by omega) (growslice_fits (by omega) (by rw [hz.2.2]; omega))
      have hrun' := hrun
      rw [show [b].length = 1 from rfl, hgw] at hrun'
      injection hrun' with _ hw
      rw [← hw]
      exact World.cell?_of_block (heap_alloc_old w.drew _ (heap_lt hgg))
set_option maxRecDepth 100000 in
theorem wpList_append_word {w : World} {ops : Array Oper} {rest : List Oper} {o : Oper} {a : Act} {Q : Exit → Act → World → Prop} (hgd : o.guard = none) (s x : Operand)
    (ho : o.op = .call { callee := .builtin .append, args := #[s, x], argTypes := #[22, 22] }) (hty : o.type = 22) {B : Nat} {v xv : Value} {l : List UInt64} {b : UInt64}
    (hs : a.eval s = v) (hx : a.eval x = xv) (h : OU B w v l) (hr : RU w xv [b]) (hlen : l.length + 1 ≤ 17592186044416) (hB : B ≤ w.heap.size)
    (hk : ∀ v' w', OU B w' v' (l ++ [b]) → w.grownBy w' v.ownBlock → (v'.ownBlock = v.ownBlock ∨ v'.ownBlock = some w.heap.size) → (∀ g i, v.ownBlock = some g → i < l.length → w'.cell? ⟨g, i, none⟩ = w.cell? ⟨g, i, none⟩) → wpList Tryd.prog ops Q rest (a.put o.dst v') w') : wpList Tryd.prog ops Q (o :: rest) a w := by
  refine wpList_plain hgd fun K hK => ?_
  obtain ⟨v', w', hrun, h2, h3, h4, h5⟩ := run_append_word h hr hlen hB
  unfold Oper.wp execOp
  simp only [ho, hty, resolve, invoke, builtin, Sem.run_bind, Sem.run_pure, Result.andThen_ok, List.map_toArray, List.map_cons, List.map_nil, hs, hx, hrun]
  exact hK _ _ (hk v' w' h2 h3 h4 h5)
/-- append to a row of lists, at the operation. -/
theorem wpList_append_VU {w : World} {ops : Array Oper} {rest : List Oper} {o : Oper} {a : Act} {Q : Exit → Act → World → Prop} (hgd : o.guard = none) (s x : Operand)
    (ho : o.op = .call { callee := .builtin .append, args := #[s, x], argTypes := #[29, 29] }) (hty : o.type = 29) {B : Nat} {v u : Value} {vs : List Value} (ad : Nat)
    (hs : a.eval s = v) (hx : a.eval x = .slice (some ⟨ad, 0, none⟩) 1 1) (h : VU B w v vs) (hc : w.cell? ⟨ad, 0, none⟩ = some u) (h1 : u.oneCell' = true) (hlen : vs.length + 1 ≤ 5864062014805) (hB : B ≤ w.heap.size)
    (hk : ∀ v' w', VU B w' v' (vs ++ [u]) → w.grownBy w' v.ownBlock → (v'.ownBlock = v.ownBlock ∨ v'.ownBlock = some w.heap.size) → wpList Tryd.prog ops Q rest (a.put o.dst v') w') : wpList Tryd.prog ops Q (o :: rest) a w := by
  refine wpList_plain hgd fun K hK => ?_
  obtain ⟨v', w', hrun, h2, h3, h4⟩ := h.append hc h1 hlen hB
  unfold Oper.wp execOp
  simp only [ho, hty, resolve, invoke, builtin, Sem.run_bind, Sem.run_pure, Result.andThen_ok, List.map_toArray, List.map_cons, List.map_nil, hs, hx, hrun]
  exact hK _ _ (hk v' w' h2 h3 h4)
theorem grown_setCell (w : World) (b o : Nat) (v : Value) : w.grownBy (w.setCell ⟨b, o, none⟩ v) (some b) := by
  have h := Mod.setCell (F := fun k => k = b) w b o v rfl
  exact ⟨h.os, h.tape, h.output, h.size, fun k hk hne => h.block k hk (fun e => hne (by rw [e]))⟩
/-- A word laid into a list of the call's own. -/
theorem OU.store {B : Nat} {w : World} {q : Option Addr} {n c : Nat} {l : List UInt64} (h : OU B w (.slice q n c) l) {i : Nat} (hi : i < l.length) (y : UInt64) :
    ∃ g z, q = some ⟨g, 0, none⟩ ∧ g < w.heap.size ∧ w.cell? ⟨g, i, none⟩ = some (uv z) ∧ w.frozen? ⟨g, i, none⟩ = false ∧ OU B (w.setCell ⟨g, i, none⟩ (uv y)) (.slice q n c) (l.set i y) ∧ w.grownBy (w.setCell ⟨g, i, none⟩ (uv y)) (some g) := by
  obtain ⟨⟨h0, ⟨e, hn⟩ | ⟨g, cap, cur, e, hB, hg, hn, hc, hs, ht⟩⟩, hl⟩ := h
  · omega
  · simp only [Value.slice.injEq] at e
    obtain ⟨rfl, rfl, rfl⟩ := e
    rw [Nat.mul_one] at hs ht
    have hrw : Rw w g 58 cur.toList := by simpa using hg
    have hcell : (cur.toList)[i]? = some (uv (l[i])) := by
      have h1 : (cur.toList.take l.length)[i]? = some (uv (l[i])) := by rw [ht]; simp [hi]
      rwa [List.getElem?_take, if_pos hi] at h1
    refine ⟨g, l[i], rfl, heap_lt hg, hrw.cell hcell, hrw.frozen i, ⟨⟨by simp, .inr ⟨g, c, (cur.toList.set i (uv y)).toArray, by rw [List.length_set], hB, hrw.set i (uv y), by rw [List.length_set]; exact hn, hc, by rw [Nat.mul_one]; simpa using hs, ?_⟩⟩, by rw [List.length_set]; exact hl⟩, (grown_setCell w g i (uv y))⟩
    rw [Nat.mul_one, List.length_set, List.map_set, ← ht]
    show (cur.toList.set i (uv y)).take l.length = _
    rw [List.take_set]
end Go.Proofs.YtckbckdaffdjmaaDoor

/- The Book of chapter 3: lists that were handed out or in; keep, where it writes at once. -/
namespace Go.Proofs.YtckbckdaffdjmaaDoor
open Go.RowKit
set_option maxRecDepth 100000
set_option linter.unusedVariables false
set_option linter.unusedSimpArgs false

/-- The mark of list i. -/
def mkN (i : Nat) : UInt64 := UInt64.ofNat (11529215046068469761 + (i - i % 2))
/-- A Book lies at b; its blocks bear tags: itself 1, its rows 2, 3, 4, copies 8, what was written full 9, list i as it came 10 + i. -/
structure Bk3 (w : World) (b : Nat) (own : Nat → Nat) (late : Bool) (cur : Nat) (v0 v2 v3 : Value) (K0 K2 K3 : List Value) (Ws : List (List UInt64)) : Prop where
  blk : Rw w b 31 [v0, .bool late, v2, v3]
  r0 : VU 0 w v0 K0
  r2 : VU 0 w v2 K2
  r3 : VU 0 w v3 K3
  tb : own b = 1
  t0 : ∀ g, v0.ownBlock = some g → own g = 2
  t2 : ∀ g, v2.ownBlock = some g → own g = 3
  t3 : ∀ g, v3.ownBlock = some g → own g = 4
  even : K0.length % 2 = 0
  marked : ∀ (i : Nat) (v : Value), K0[i]? = some v → ∃ n, RU w v (List.replicate n (mkN i)) ∧ ∀ g, v.ownBlock = some g → g < w.heap.size ∧ own g = 9
  l2 : K2.length = Ws.length
  l3 : K3.length = Ws.length
  raw : ∀ (i : Nat) (v : Value) (l : List UInt64), cur ≤ i → K2[i]? = some v → Ws[i]? = some l → OU 0 w v l ∧ l.length + 80 ≤ 17592186044416 ∧ ∀ g, v.ownBlock = some g → own g = 10 + i
  was : ∀ (i : Nat) (v : Value) (l : List UInt64), cur ≤ i → K3[i]? = some v → Ws[i]? = some l → RU w v l ∧ ∀ g, v.ownBlock = some g → g < w.heap.size ∧ own g = 8
  hi : ∀ k, w.heap.size ≤ k → own k = 0
def Bkk (w : World) (b : Nat) (own : Nat → Nat) (late : Bool) (cur N0 N2 : Nat) : Prop := ∃ v0 v2 v3 K0 K2 K3 Ws, Bk3 w b own late cur v0 v2 v3 K0 K2 K3 Ws ∧ K0.length = N0 ∧ K2.length = N2
theorem Bk3.mod {w w' : World} {b : Nat} {own : Nat → Nat} {late : Bool} {cur : Nat} {v0 v2 v3 : Value} {K0 K2 K3 : List Value} {Ws : List (List UInt64)} {F : Nat → Prop}
    (h : Bk3 w b own late cur v0 v2 v3 K0 K2 K3 Ws) (hm : Mod F w w') (hF : ∀ k, k < w.heap.size → F k → own k = 0) : Bk3 w' b own late cur v0 v2 v3 K0 K2 K3 Ws := by
  have nf : ∀ k, k < w.heap.size → own k ≠ 0 → ¬ F k := fun k hk hn e => hn (hF k hk e)
  refine ⟨h.blk.mod hm (nf _ (heap_lt h.blk) (by rw [h.tb]; decide)), h.r0.mod hm (fun g e => nf g (h.r0.lt g e).2 (by rw [h.t0 g e]; decide)), h.r2.mod hm (fun g e => nf g (h.r2.lt g e).2 (by rw [h.t2 g e]; decide)),
    h.r3.mod hm (fun g e => nf g (h.r3.lt g e).2 (by rw [h.t3 g e]; decide)), h.tb, h.t0, h.t2, h.t3, h.even, fun i v hv => ?_, h.l2, h.l3, fun i v l hi hv hl => ?_, fun i v l hi hv hl => ?_, fun k hk => h.hi k (Nat.le_trans hm.size hk)⟩
  · obtain ⟨n, h1, h2⟩ := h.marked i v hv
    exact ⟨n, h1.mod hm (fun _ g e => nf g (h2 g e).1 (by rw [(h2 g e).2]; decide)), fun g e => ⟨Nat.lt_of_lt_of_le (h2 g e).1 hm.size, (h2 g e).2⟩⟩
  · obtain ⟨h1, h2, h3⟩ := h.raw i v l hi hv hl
    exact ⟨h1.mod hm (fun g e => nf g (h1.lt g e).2 (by rw [h3 g e]; omega)), h2, h3⟩
  · obtain ⟨h1, h2⟩ := h.was i v l hi hv hl
    exact ⟨h1.mod hm (fun _ g e => nf g (h2 g e).1 (by rw [(h2 g e).2]; decide)), fun g e => ⟨Nat.lt_of_lt_of_le (h2 g e).1 hm.size, (h2 g e).2⟩⟩
theorem Bkk.mod {w w' : World} {b : Nat} {own : Nat → Nat} {late : Bool} {cur N0 N2 : Nat} {F : Nat → Prop} (h : Bkk w b own late cur N0 N2) (hm : Mod F w w') (hF : ∀ k, k < w.heap.size → F k → own k = 0) : Bkk w' b own late cur N0 N2 := by
  obtain ⟨v0, v2, v3, K0, K2, K3, Ws, h1, h2, h3⟩ := h
  exact ⟨v0, v2, v3, K0, K2, K3, Ws, h1.mod hm hF, h2, h3⟩
theorem Bkk.below {w w' : World} {b : Nat} {own : Nat → Nat} {late : Bool} {cur N0 N2 : Nat} (h : Bkk w b own late cur N0 N2) (hb : Below w.heap.size w w') : Bkk w' b own late cur N0 N2 :=
  h.mod (F := fun _ => False) (Mod.of_below hb) (fun _ _ e => e.elim)
/-- A new Book. -/
theorem Bkk.new {w : World} {b : Nat} {late : Bool} (h : Rw w b 31 [.slice none 0 0, .bool late, .slice none 0 0, .slice none 0 0]) : Bkk w b (fun k => if k = b then 1 else 0) late 0 0 0 :=
  ⟨_, _, _, [], [], [], [], ⟨h, VU.nil_, VU.nil_, VU.nil_, by simp, fun g e => (by cases e), fun g e => (by cases e), fun g e => (by cases e), rfl, fun i v e => (by simp at e), rfl, rfl, fun i v l _ e => (by simp at e), fun i v l _ e => (by simp at e), fun k hk => by have := heap_lt h; rw [if_neg (by omega)]⟩, rfl, rfl⟩
/-- Two lists more, written full. -/
theorem Bk3.full {w w' : World} {b : Nat} {own : Nat → Nat} {cur : Nat} {v0 v2 v3 v0' x y : Value} {K0 K2 K3 : List Value} {Ws : List (List UInt64)} {n : Nat}
    (h : Bk3 w b own false cur v0 v2 v3 K0 K2 K3 Ws) (hx : ∀ g, x.ownBlock = some g → g < w.heap.size ∧ (own g = 0 ∨ own g = 10 + cur))
    (hm : Mod (fun k => k = b ∨ v0.ownBlock = some k ∨ x.ownBlock = some k) w w') (hblk : Rw w' b 31 [v0', .bool false, v2, v3]) (hr : VU 0 w' v0' (K0 ++ [x, y]))
    (h0 : v0'.ownBlock = v0.ownBlock ∨ ∃ g, v0'.ownBlock = some g ∧ w.heap.size ≤ g ∧ y.ownBlock ≠ some g) (hrx : RU w' x (List.replicate n (mkN K0.length))) (hy : OU 0 w' y (List.replicate (n + 80) (mkN K0.length)))
    (hyb : y.ownBlock = x.ownBlock ∨ ∃ g, y.ownBlock = some g ∧ w.heap.size ≤ g) :
    ∃ own', Bk3 w' b own' false (cur + 1) v0' v2 v3 (K0 ++ [x, y]) K2 K3 Ws ∧ (∀ k, k < w.heap.size → own' k = if x.ownBlock = some k then 9 else own k) := by
  have hlow : ∀ k, k < w.heap.size → (if y.ownBlock = some k ∨ x.ownBlock = some k then 9 else if v0'.ownBlock = some k then 2 else if k < w.heap.size then own k else 0) = if x.ownBlock = some k then 9 else own k := fun k hk => by
    by_cases ex : x.ownBlock = some k
    · rw [if_pos (.inr ex), if_pos ex]
    · have ey : y.ownBlock ≠ some k := fun e => by
        rcases hyb with e1 | ⟨g, e1, hg⟩
        · exact ex (e1 ▸ e)
        · rw [e1] at e; injection e with e; omega
      rw [if_neg (by intro e; exact e.elim ey ex), if_neg ex]
      by_cases e0 : v0'.ownBlock = some k
      · rw [if_pos e0]
        rcases h0 with e1 | ⟨g, e1, hg, _⟩
        · exact (h.t0 k (e1 ▸ e0)).symm
        · rw [e1] at e0; injection e0 with e0; omega
      · rw [if_neg e0, if_pos hk]
  have keepT : ∀ k t, k < w.heap.size → own k = t → t ≠ 0 → t ≠ 10 + cur → (if y.ownBlock = some k ∨ x.ownBlock = some k then 9 else if v0'.ownBlock = some k then 2 else if k < w.heap.size then own k else 0) = t := fun k t hk ht h1 h2 => by
    rw [hlow k hk, if_neg, ht]
    intro e
    rcases (hx k e).2 with e1 | e1 <;> rw [ht] at e1
    · exact h1 e1
    · exact h2 e1
  have nf : ∀ k, own k ≠ 0 → own k ≠ 1 → own k ≠ 2 → own k ≠ 10 + cur → ¬ (k = b ∨ v0.ownBlock = some k ∨ x.ownBlock = some k) := fun k a1 a2 a3 a4 e => by
    rcases e with e | e | e
    · exact a2 (by rw [e]; exact h.tb)
    · exact a3 (h.t0 k e)
    · rcases (hx k e).2 with e1 | e1
      · exact a1 e1
      · exact a4 e1
  have hev := h.even
  have hm1 : mkN (K0.length + 1) = mkN K0.length := by unfold mkN; rw [show K0.length + 1 - (K0.length + 1) % 2 = K0.length - K0.length % 2 by omega]
  refine ⟨fun k => if y.ownBlock = some k ∨ x.ownBlock = some k then 9 else if v0'.ownBlock = some k then 2 else if k < w.heap.size then own k else 0, ⟨hblk, hr, ?_, ?_, ?_, ?_, ?_, ?_, ?_, ?_, h.l2, h.l3, ?_, ?_, ?_⟩, hlow⟩
  · exact h.r2.mod hm fun g e => nf g (by rw [h.t2 g e]; decide) (by rw [h.t2 g e]; decide) (by rw [h.t2 g e]; decide) (by rw [h.t2 g e]; omega)
  · exact h.r3.mod hm fun g e => nf g (by rw [h.t3 g e]; decide) (by rw [h.t3 g e]; decide) (by rw [h.t3 g e]; decide) (by rw [h.t3 g e]; omega)
  · exact keepT b 1 (heap_lt h.blk) h.tb (by decide) (by omega)
  · intro g e
    rcases h0 with e1 | ⟨g', e1, hg, hyg⟩
    · rw [e1] at e
      exact keepT g 2 (h.r0.lt g e).2 (h.t0 g e) (by decide) (by omega)
    · rw [e1] at e
      injection e with e
      subst e
      show (if y.ownBlock = some g' ∨ x.ownBlock = some g' then 9 else if v0'.ownBlock = some g' then 2 else if g' < w.heap.size then own g' else 0) = 2
      rw [if_neg, if_pos e1]
      rintro (e | e)
      · exact hyg e
      · have := (hx g' e).1; omega
  · intro g e; exact keepT g 3 (h.r2.lt g e).2 (h.t2 g e) (by decide) (by omega)
  · intro g e; exact keepT g 4 (h.r3.lt g e).2 (h.t3 g e) (by decide) (by omega)
  · rw [List.length_append]; simp; omega
  · intro i v hv
    by_cases hi : i < K0.length
    · rw [List.getElem?_append_left hi] at hv
      obtain ⟨m, h1, h2⟩ := h.marked i v hv
      exact ⟨m, h1.mod hm (fun _ g e => nf g (by rw [(h2 g e).2]; decide) (by rw [(h2 g e).2]; decide) (by rw [(h2 g e).2]; decide) (by rw [(h2 g e).2]; omega)), fun g e => ⟨Nat.lt_of_lt_of_le (h2 g e).1 hm.size, keepT g 9 (h2 g e).1 (h2 g e).2 (by decide) (by omega)⟩⟩
    · rw [List.getElem?_append_right (by omega)] at hv
      obtain ⟨j, hj⟩ : ∃ j, j = i - K0.length := ⟨_, rfl⟩
      rw [← hj] at hv
      match j, hj, hv with
      | 0, hj, hv =>
        simp only [List.getElem?_cons_zero, Option.some.injEq] at hv
        subst hv
        rw [show i = K0.length by omega]
        exact ⟨n, hrx, fun g e => ⟨Nat.lt_of_lt_of_le (hx g e).1 hm.size, if_pos (.inr e)⟩⟩
      | 1, hj, hv =>
        simp only [List.getElem?_cons_succ, List.getElem?_cons_zero, Option.some.injEq] at hv
        subst hv
        rw [show i = K0.length + 1 by omega, hm1]
        exact ⟨n + 80, hy.ru, fun g e => ⟨(hy.lt g e).2, if_pos (.inl e)⟩⟩
      | j + 2, hj, hv => simp at hv
  · intro i v l hi hv hl
    obtain ⟨h1, h2, h3⟩ := h.raw i v l (by omega) hv hl
    exact ⟨h1.mod hm (fun g e => nf g (by rw [h3 g e]; omega) (by rw [h3 g e]; omega) (by rw [h3 g e]; omega) (by rw [h3 g e]; omega)), h2, fun g e => keepT g (10 + i) (h1.lt g e).2 (h3 g e) (by omega) (by omega)⟩
  · intro i v l hi hv hl
    obtain ⟨h1, h2⟩ := h.was i v l (by omega) hv hl
    exact ⟨h1.mod hm (fun _ g e => nf g (by rw [(h2 g e).2]; decide) (by rw [(h2 g e).2]; decide) (by rw [(h2 g e).2]; decide) (by rw [(h2 g e).2]; omega)), fun g e => ⟨Nat.lt_of_lt_of_le (h2 g e).1 hm.size, keepT g 8 (h2 g e).1 (h2 g e).2 (by decide) (by omega)⟩⟩
  · intro k hk
    have hs := hm.size
    show (if y.ownBlock = some k ∨ x.ownBlock = some k then 9 else if v0'.ownBlock = some k then 2 else if k < w.heap.size then own k else 0) = 0
    rw [if_neg, if_neg, if_neg (by omega)]
    · intro e; have := (hr.lt k e).2; omega
    · rintro (e | e)
      · have := (hy.lt k e).2; omega
      · have := (hx k e).1; omega
end Go.Proofs.YtckbckdaffdjmaaDoor
