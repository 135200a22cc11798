/- The sum tells bursts: a plain law. -/
import Derived.Test.YtbgfoobcpacfeaaDoorPk8
import Derived.Test.YtbgfoobcpacfeaaDoorWPf
namespace Go.Proofs.YtbgfoobcpacfeaaDoor
set_option linter.unusedVariables false
set_option linter.unusedSimpArgs false
namespace Wi
theorem crcBit_xor (x y : Nat) : crcBit (x ^^^ y) = crcBit x ^^^ crcBit y := by
  unfold crcBit
  have hd : (x ^^^ y) / 2 = x / 2 ^^^ y / 2 := Nat.xor_div_two
  have hm : (x ^^^ y) % 2 = (x % 2) ^^^ (y % 2) := by simpa using Nat.xor_mod_two_pow (a := x) (b := y) (n := 1)
  have hz : ∀ a b c : Nat, (a ^^^ c) ^^^ (b ^^^ c) = a ^^^ b := fun a b c => by
    rw [Nat.xor_assoc, Nat.xor_comm b c, ← Nat.xor_assoc c, Nat.xor_self, Nat.zero_xor]
  rcases Nat.mod_two_eq_zero_or_one x with h1 | h1 <;> rcases Nat.mod_two_eq_zero_or_one y with h2 | h2
  · have h3 : (x ^^^ y) % 2 = 0 := by rw [hm, h1, h2]; rfl
    rw [if_neg (by omega), if_neg (by omega), if_neg (by omega), hd]
  · have h3 : (x ^^^ y) % 2 = 1 := by rw [hm, h1, h2]; rfl
    rw [if_pos h3, if_neg (by omega), if_pos h2, hd, Nat.xor_assoc]
  · have h3 : (x ^^^ y) % 2 = 1 := by rw [hm, h1, h2]; rfl
    rw [if_pos h3, if_pos h1, if_neg (by omega), hd, Nat.xor_assoc, Nat.xor_assoc, Nat.xor_comm (y / 2)]
  · have h3 : (x ^^^ y) % 2 = 0 := by rw [hm, h1, h2]; rfl
    rw [if_neg (by omega), if_pos h1, if_pos h2, hd, hz]
theorem xor_zero_eq {a b : Nat} (h : a ^^^ b = 0) : a = b := by
  have : (a ^^^ b) ^^^ b = b := by rw [h, Nat.zero_xor]
  rwa [Nat.xor_assoc, Nat.xor_self, Nat.xor_zero] at this
theorem crcBits_xor (x y : Nat) : ∀ k, crcBits k (x ^^^ y) = crcBits k x ^^^ crcBits k y
  | 0 => rfl
  | k + 1 => by rw [crcBits, crcBits_xor x y k, crcBit_xor]; rfl
theorem crcBits_add (x : Nat) (k : Nat) : ∀ j, crcBits (k + j) x = crcBits j (crcBits k x)
  | 0 => rfl
  | j + 1 => by
    show crcBit (crcBits (k + j) x) = crcBit (crcBits j (crcBits k x))
    rw [crcBits_add x k j]
theorem crcBits_shl : ∀ (k y : Nat), crcBits k (y <<< k) = y
  | 0, y => rfl
  | k + 1, y => by
    rw [crcBits, show y <<< (k + 1) = (y * 2) <<< k by rw [Nat.shiftLeft_eq, Nat.shiftLeft_eq, Nat.pow_succ', Nat.mul_assoc], crcBits_shl k (y * 2)]
    unfold crcBit
    rw [if_neg (by omega)]
    omega
theorem crcBit_ne {x : Nat} (h : x < 4294967296) (h0 : x ≠ 0) : crcBit x ≠ 0 := by
  unfold crcBit
  split
  · intro e
    have := xor_zero_eq e
    omega
  · omega
theorem crcBits_ne {x : Nat} (h : x < 4294967296) (h0 : x ≠ 0) : ∀ k, crcBits k x ≠ 0
  | 0 => h0
  | k + 1 => crcBit_ne (crcBits_lt h k) (crcBits_ne h h0 k)
/-- Bytes as a number, the lowest first. -/
def le : List UInt8 → Nat
  | [] => 0
  | b :: l => b.toNat ^^^ (le l <<< 8)
theorem crcFold_le : ∀ (l : List UInt8) (x : Nat), crcFold x l = crcBits (8 * l.length) (x ^^^ le l)
  | [], x => by simp [crcFold, le, crcBits]
  | b :: l, x => by
    have h := crcFold_le l (crcByte x b)
    have e : crcFold x (b :: l) = crcFold (crcByte x b) l := rfl
    rw [e, h, List.length_cons, show 8 * (l.length + 1) = 8 + 8 * l.length by omega, crcBits_add]
    congr 1
    rw [le]
    unfold crcByte
    rw [← Nat.xor_assoc, crcBits_xor _ (le l <<< 8), crcBits_shl 8]
theorem le_append : ∀ (a b : List UInt8), le (a ++ b) = le a ^^^ (le b <<< (8 * a.length))
  | [], b => by simp [le]
  | c :: a, b => by
    rw [List.cons_append, le, le, le_append a b, Nat.shiftLeft_xor_distrib, ← Nat.shiftLeft_add, ← Nat.xor_assoc, List.length_cons, show 8 * a.length + 8 = 8 * (a.length + 1) by omega]
theorem crcFold_ne {l m : List UInt8} {W at_ x : Nat} (hl : l.length = m.length) (h : le l ^^^ le m = W <<< at_) (hW : W ≠ 0) (hW2 : W < 4294967296) (hat : at_ ≤ 8 * l.length) : crcFold x l ≠ crcFold x m := by
  intro e
  rw [crcFold_le, crcFold_le, ← hl] at e
  have h2 : crcBits (8 * l.length) ((x ^^^ le l) ^^^ (x ^^^ le m)) = 0 := by rw [crcBits_xor, e, Nat.xor_self]
  rw [Nat.xor_assoc, Nat.xor_comm x (le m), ← Nat.xor_assoc (le l), Nat.xor_comm (le l ^^^ le m), ← Nat.xor_assoc, Nat.xor_self, Nat.zero_xor, h] at h2
  rw [show 8 * l.length = at_ + (8 * l.length - at_) by omega, crcBits_add, crcBits_shl] at h2
  exact crcBits_ne hW2 hW _ h2
theorem crcMore_ne {l m : List UInt8} {W at_ : Nat} (hl : l.length = m.length) (h : le l ^^^ le m = W <<< at_) (hW : W ≠ 0) (hW2 : W < 4294967296) (hat : at_ ≤ 8 * l.length) : crcMore 0 l ≠ crcMore 0 m := by
  have hne := crcFold_ne (x := 4294967295) hl h hW hW2 hat
  have h1 := crcFold_lt (x := 4294967295) (by decide) l
  have h2 := crcFold_lt (x := 4294967295) (by decide) m
  unfold crcMore
  rw [Nat.sub_zero]
  omega
/-- The sum's place blank. -/
def blank (l : List UInt8) : List UInt8 := l.take 22 ++ [0, 0, 0, 0] ++ l.drop 26
theorem le_blank {l : List UInt8} (h : 26 ≤ l.length) : le (blank l) = le l ^^^ (le ((l.drop 22).take 4) <<< 176) := by
  have e : l = l.take 22 ++ ((l.drop 22).take 4 ++ l.drop 26) := by
    rw [← split_at, List.take_append_drop]
  have l1 : (l.take 22).length = 22 := by rw [List.length_take]; omega
  have l2 : ((l.drop 22).take 4).length = 4 := by rw [List.length_take, List.length_drop]; omega
  have h1 : le l = le (l.take 22) ^^^ ((le ((l.drop 22).take 4) ^^^ (le (l.drop 26) <<< 32)) <<< 176) := by
    conv => lhs; rw [e]
    rw [le_append, le_append, l1, l2]
  have h2 : le (blank l) = le (l.take 22) ^^^ ((le (l.drop 26) <<< 32) <<< 176) := by
    unfold blank
    rw [List.append_assoc, le_append, le_append, l1, show le [0, 0, 0, 0] = 0 by decide, Nat.zero_xor]
    rfl
  rw [h1, h2, Nat.shiftLeft_xor_distrib]
  generalize le (l.take 22) = a
  generalize le ((l.drop 22).take 4) <<< 176 = b
  generalize (le (l.drop 26) <<< 32) <<< 176 = c
  rw [Nat.xor_comm b c, ← Nat.xor_assoc a, Nat.xor_assoc, Nat.xor_self, Nat.xor_zero]
theorem blank_length {l : List UInt8} (h : 26 ≤ l.length) : (blank l).length = l.length := by
  unfold blank
  simp only [List.length_append, List.length_take, List.length_drop, List.length_cons, List.length_nil]
  omega
/-- Bits within 32 that were turned are told. -/
theorem tells {b q : List UInt8} (hb : decErr b = 0) (hl : q.length = b.length) {W at_ : Nat} (hW : W ≠ 0) (hW2 : W < 4294967296) (hat : at_ ≤ 8 * b.length) (hle : le q = le b ^^^ (W <<< at_))
    (h : (q.take 22 = b.take 22 ∧ q.drop 26 = b.drop 26) ∨ (q.drop 22).take 4 = (b.drop 22).take 4) : decErr q ≠ 0 := by
  intro hq
  obtain ⟨b1, b2, b3, b4, b5, b6⟩ := decErr_zero hb
  obtain ⟨q1, q2, q3, q4, q5, q6⟩ := decErr_zero hq
  have hX : le q ^^^ le b = W <<< at_ := by
    rw [hle, Nat.xor_comm (le b), Nat.xor_assoc, Nat.xor_self, Nat.xor_zero]
  have hne : q ≠ b := by
    intro e
    rw [e, Nat.xor_self] at hX
    have := (Nat.shiftLeft_eq W at_).symm.trans hX.symm
    have hp : 0 < 2 ^ at_ := Nat.pow_pos (by decide)
    have := Nat.mul_pos (Nat.pos_of_ne_zero hW) hp
    omega
  rcases h with ⟨h1, h2⟩ | h
  · have hs : sumBytes q = sumBytes b := by unfold sumBytes; rw [h1, h2]
    rw [← q6, ← b6] at hs
    have e : (q.drop 22).take 4 = (b.drop 22).take 4 := by
      rw [← be_sub q1 22 4 (by omega), hs, be_sub b1 22 4 (by omega)]
    apply hne
    rw [← List.take_append_drop 22 q, split_at q 22 4, h1, e, h2, ← split_at b 22 4, List.take_append_drop]
  · have hs : sumBytes q = sumBytes b := by rw [← q6, ← b6, h]
    refine crcMore_ne (l := blank q) (m := blank b) (by rw [blank_length q1, blank_length b1, hl]) ?_ hW hW2 (by rw [blank_length q1, hl]; exact hat) hs
    rw [le_blank q1, le_blank b1, h]
    generalize le ((b.drop 22).take 4) <<< 176 = c
    rw [Nat.xor_assoc, Nat.xor_comm (le b) c, ← Nat.xor_assoc c, Nat.xor_self, Nat.zero_xor]
    exact hX
/-- A bit turned. -/
def flip (l : List UInt8) (i : Nat) : List UInt8 := l.set (i / 8) (l.getD (i / 8) 0 ^^^ UInt8.ofNat (2 ^ (i % 8)))
theorem le_set : ∀ (l : List UInt8) (k : Nat) (d : UInt8), k < l.length → le (l.set k (l.getD k 0 ^^^ d)) = le l ^^^ (d.toNat <<< (8 * k))
  | b :: l, 0, d, _ => by
    show le ((b ^^^ d) :: l) = _
    rw [le, le, UInt8.toNat_xor, Nat.xor_assoc, Nat.xor_comm d.toNat, ← Nat.xor_assoc]
    rfl
  | b :: l, k + 1, d, h => by
    have h' : k < l.length := by simpa using h
    show le (b :: l.set k (l.getD k 0 ^^^ d)) = _
    rw [le, le, le_set l k d h', Nat.shiftLeft_xor_distrib, ← Nat.shiftLeft_add, ← Nat.xor_assoc, show 8 * k + 8 = 8 * (k + 1) by omega]
theorem le_flip {l : List UInt8} {i : Nat} (h : i < 8 * l.length) : le (flip l i) = le l ^^^ (1 <<< i) := by
  unfold flip
  have hp : 2 ^ (i % 8) < 256 := by
    have : i % 8 ≤ 7 := by omega
    exact Nat.lt_of_le_of_lt (Nat.pow_le_pow_right (by decide) this) (by decide)
  rw [le_set l _ _ (by omega), UInt8.toNat_ofNat', Nat.mod_eq_of_lt (by simpa using hp)]
  congr 1
  rw [Nat.shiftLeft_eq, Nat.shiftLeft_eq, ← Nat.pow_add, Nat.one_mul, show i % 8 + 8 * (i / 8) = i by omega]
def sel (at_ mask lo hi j : Nat) : Bool := mask.testBit j && decide (at_ + j < 8 * hi) && decide (8 * lo ≤ at_ + j)
/-- The bytes, how many bits, which bits: behind j places. -/
def tur (b : List UInt8) (at_ mask lo hi : Nat) : Nat → List UInt8 × Nat × Nat
  | 0 => (b, 0, 0)
  | j + 1 => if sel at_ mask lo hi j then (flip (tur b at_ mask lo hi j).1 (at_ + j), (tur b at_ mask lo hi j).2.1 + 1, (tur b at_ mask lo hi j).2.2 ^^^ (1 <<< j)) else tur b at_ mask lo hi j
theorem tur_inv (b : List UInt8) {at_ mask lo hi : Nat} (hhi : hi ≤ b.length) : ∀ j, (tur b at_ mask lo hi j).1.length = b.length ∧ le (tur b at_ mask lo hi j).1 = le b ^^^ ((tur b at_ mask lo hi j).2.2 <<< at_) ∧ (tur b at_ mask lo hi j).2.2 < 2 ^ j ∧ ((tur b at_ mask lo hi j).2.1 ≠ 0 → (tur b at_ mask lo hi j).2.2 ≠ 0 ∧ at_ < 8 * b.length) ∧ (tur b at_ mask lo hi j).2.1 ≤ j ∧
    ∀ k, (k < lo ∨ hi ≤ k) → (tur b at_ mask lo hi j).1[k]? = b[k]?
  | 0 => ⟨rfl, by simp [tur], by simp [tur], fun h => absurd rfl h, Nat.le_refl _, fun k _ => rfl⟩
  | j + 1 => by
    obtain ⟨h1, h2, h3, h4, h6, h5⟩ := tur_inv b (at_ := at_) (mask := mask) (lo := lo) hhi j
    rw [tur]
    split
    · rename_i hs
      obtain ⟨⟨hm, ha⟩, hlo⟩ : (mask.testBit j = true ∧ at_ + j < 8 * hi) ∧ 8 * lo ≤ at_ + j := by simpa [sel] using hs
      have hlt : at_ + j < 8 * (tur b at_ mask lo hi j).1.length := by rw [h1]; omega
      refine ⟨by unfold flip; rw [List.length_set, h1], ?_, ?_, fun _ => ⟨?_, by omega⟩, Nat.succ_le_succ h6, fun k hk => ?_⟩
      · rw [le_flip hlt, h2, Nat.xor_assoc, Nat.shiftLeft_xor_distrib, ← Nat.shiftLeft_add, Nat.add_comm j]
      · refine Nat.xor_lt_two_pow (Nat.lt_of_lt_of_le h3 (Nat.pow_le_pow_right (by decide) (Nat.le_succ _))) ?_
        rw [Nat.one_shiftLeft]
        exact Nat.pow_lt_pow_right (by decide) (Nat.lt_succ_self _)
      · intro e
        have := xor_zero_eq e
        rw [Nat.one_shiftLeft] at this
        omega
      · unfold flip
        rw [List.getElem?_set_ne (by omega)]
        exact h5 k hk
    · exact ⟨h1, h2, Nat.lt_of_lt_of_le h3 (Nat.pow_le_pow_right (by decide) (Nat.le_succ _)), h4, Nat.le_succ_of_le h6, h5⟩
/-- A frame with bits turned, in one part of it, is refused. -/
theorem tur_tells {b : List UInt8} (hb : decErr b = 0) {at_ mask lo hi : Nat} (hpart : (lo = 0 ∧ hi = 22) ∨ (lo = 22 ∧ hi = 26) ∨ (lo = 26 ∧ hi = b.length)) (hn : (tur b at_ mask lo hi 32).2.1 ≠ 0) : decErr (tur b at_ mask lo hi 32).1 ≠ 0 := by
  have hb26 := (decErr_zero hb).1
  have hhi : hi ≤ b.length := by rcases hpart with ⟨-, rfl⟩ | ⟨-, rfl⟩ | ⟨-, rfl⟩ <;> omega
  obtain ⟨h1, h2, h3, h4, -, h5⟩ := tur_inv b (at_ := at_) (mask := mask) (lo := lo) hhi 32
  obtain ⟨h6, h7⟩ := h4 hn
  refine tells hb h1 h6 (by simpa using h3) (by omega) h2 ?_
  rcases hpart with ⟨rfl, rfl⟩ | ⟨rfl, rfl⟩ | ⟨rfl, hh⟩
  · refine .inr (List.ext_getElem? fun k => ?_)
    rw [List.getElem?_take, List.getElem?_take, List.getElem?_drop, List.getElem?_drop]
    split
    · exact h5 _ (.inr (by omega))
    · rfl
  · refine .inl ⟨List.ext_getElem? fun k => ?_, List.ext_getElem? fun k => ?_⟩
    · rw [List.getElem?_take, List.getElem?_take]
      split
      · exact h5 _ (.inl (by omega))
      · rfl
    · rw [List.getElem?_drop, List.getElem?_drop]
      exact h5 _ (.inr (by omega))
  · refine .inr (List.ext_getElem? fun k => ?_)
    rw [List.getElem?_take, List.getElem?_take, List.getElem?_drop, List.getElem?_drop]
    split
    · exact h5 _ (.inl (by omega))
    · rfl
end Wi
end Go.Proofs.YtbgfoobcpacfeaaDoor
