/- How many bits are set: the library's way of reckoning it, byte by byte: plain arithmetic. -/
import Derived.WalkKit
namespace Go.Proofs.YtckbckdaffdjmaaDoor
set_option linter.unusedVariables false
set_option maxRecDepth 100000
namespace Bm
/-- The number of ones among the lowest k bits. -/
def pop : Nat → Nat → Nat
  | 0, _ => 0
  | k + 1, x => x % 2 + pop k (x / 2)
theorem pop_zero : ∀ k, pop k 0 = 0
  | 0 => rfl
  | k + 1 => by rw [pop, Nat.zero_div, pop_zero k]
theorem pop_le : ∀ k x, pop k x ≤ k
  | 0, _ => Nat.le_refl _
  | k + 1, x => by have := pop_le k (x / 2); rw [pop]; omega
theorem pop_add : ∀ (k j x : Nat), pop (k + j) x = pop k x + pop j (x / 2 ^ k)
  | 0, j, x => by simp [pop]
  | k + 1, j, x => by
    rw [show k + 1 + j = (k + j) + 1 by omega, pop, pop, pop_add k j (x / 2), Nat.div_div_eq_div_mul, Nat.pow_succ, Nat.mul_comm 2 (2 ^ k)]
    omega
theorem pop_mod : ∀ (k x : Nat), pop k (x % 2 ^ k) = pop k x
  | 0, x => rfl
  | k + 1, x => by
    rw [pop, pop, Nat.pow_succ, Nat.mod_mul_left_mod]
    have h : x % (2 ^ k * 2) / 2 = (x / 2) % 2 ^ k := by rw [Nat.mul_comm, Nat.mod_mul_right_div_self]
    rw [h, pop_mod k]
/-- A word's mask, byte by byte. -/
def rep (m : Nat) : Nat → Nat
  | 0 => 0
  | k + 1 => m + 256 * rep m k
theorem and_split {a c : Nat} (ha : a < 256) (hc : c < 256) (b d : Nat) : (a + 256 * b) &&& (c + 256 * d) = (a &&& c) + 256 * (b &&& d) := by
  have hac : a &&& c < 2 ^ 8 := Nat.and_lt_two_pow _ hc
  apply Nat.eq_of_testBit_eq
  intro j
  rw [Nat.testBit_and, show a + 256 * b = 2 ^ 8 * b + a by omega, show c + 256 * d = 2 ^ 8 * d + c by omega, show (a &&& c) + 256 * (b &&& d) = 2 ^ 8 * (b &&& d) + (a &&& c) by omega,
    Nat.testBit_two_pow_mul_add b ha j, Nat.testBit_two_pow_mul_add d hc j, Nat.testBit_two_pow_mul_add (b &&& d) hac j]
  split
  · rw [Nat.testBit_and]
  · rw [Nat.testBit_and]
def g1 (a : Nat) : Nat := (a / 2 &&& 85) + (a &&& 85)
def g2 (a : Nat) : Nat := (a / 4 &&& 51) + (a &&& 51)
def g3 (a : Nat) : Nat := (a / 16 + a) &&& 15
def y1 (k x : Nat) : Nat := (x / 2 &&& rep 85 k) + (x &&& rep 85 k)
def y2 (k x : Nat) : Nat := (x / 4 &&& rep 51 k) + (x &&& rep 51 k)
def y3 (k x : Nat) : Nat := (x / 16 + x) &&& rep 15 k
theorem g_pop : ∀ a, a < 256 → g3 (g2 (g1 a)) = pop 8 a := by decide
theorem g_bound : ∀ a, a < 256 → g1 a < 256 ∧ g2 (g1 a) ≤ 68 ∧ g2 (g1 a) % 16 ≤ 4 := by decide
theorem m1 : ∀ a, a < 256 → ∀ t, t < 2 → (a / 2 + 128 * t) &&& 85 = a / 2 &&& 85 := by decide
theorem m2 : ∀ a, a < 256 → ∀ t, t < 4 → (a / 4 + 64 * t) &&& 51 = a / 4 &&& 51 := by decide
theorem y1_step {a : Nat} (ha : a < 256) (k r : Nat) : y1 (k + 1) (a + 256 * r) = g1 a + 256 * y1 k r := by
  unfold y1 g1
  rw [rep, and_split ha (by decide), show (a + 256 * r) / 2 = (a / 2 + 128 * (r % 2)) + 256 * (r / 2) by omega, and_split (by omega) (by decide), m1 a ha _ (by omega)]
  omega
theorem y2_step {a : Nat} (ha : a < 256) (k r : Nat) : y2 (k + 1) (a + 256 * r) = g2 a + 256 * y2 k r := by
  unfold y2 g2
  rw [rep, and_split ha (by decide), show (a + 256 * r) / 4 = (a / 4 + 64 * (r % 4)) + 256 * (r / 4) by omega, and_split (by omega) (by decide), m2 a ha _ (by omega)]
  omega
theorem y3_step {a : Nat} (ha : a ≤ 68) (k r : Nat) (hr : r % 16 ≤ 4) : y3 (k + 1) (a + 256 * r) = g3 a + 256 * y3 k r := by
  unfold y3 g3
  rw [rep, show (a + 256 * r) / 16 + (a + 256 * r) = (a / 16 + a + 16 * (r % 16)) + 256 * (r / 16 + r) by omega, and_split (by omega) (by decide)]
  have e : ∀ z, z &&& 15 = z % 16 := fun z => Nat.and_two_pow_sub_one_eq_mod z 4
  rw [e, e]
  omega
/-- The bytes of the third step, each the number of its ones. -/
def bytesP : Nat → Nat → Nat
  | 0, _ => 0
  | k + 1, x => pop 8 (x % 256) + 256 * bytesP k (x / 256)
theorem y_low (k x : Nat) : y2 k (y1 k x) % 16 ≤ 4 := by
  cases k with
  | zero => simp [y2, rep]
  | succ k =>
    rw [show x = x % 256 + 256 * (x / 256) by omega, y1_step (by omega), y2_step (g_bound _ (by omega)).1]
    have := (g_bound (x % 256) (by omega)).2.2
    omega
theorem y_all : ∀ (k x : Nat), y3 k (y2 k (y1 k x)) = bytesP k x
  | 0, x => by simp [y3, rep, bytesP]
  | k + 1, x => by
    obtain ⟨b1, b2, b3⟩ := g_bound (x % 256) (by omega)
    rw [show y1 (k + 1) x = y1 (k + 1) (x % 256 + 256 * (x / 256)) by rw [show x % 256 + 256 * (x / 256) = x by omega], y1_step (by omega), y2_step b1, y3_step b2 k _ (y_low k _), g_pop _ (by omega), y_all k, bytesP]
/-- What OnesCount64 reckons. -/
def ones (x : Nat) : Nat :=
  let z := y3 8 (y2 8 (y1 8 x))
  let z1 := z + z / 256
  let z2 := z1 + z1 / 65536
  let z3 := z2 + z2 / 4294967296
  z3 % 128
theorem dv (m a q : Nat) (h : a < m) : (a + m * q) / m = q := by rw [Nat.add_mul_div_left _ _ (by omega), Nat.div_eq_of_lt h, Nat.zero_add]
theorem ff1 (d0 d1 d2 d3 d4 d5 d6 d7 : Nat) : ((d0) + 256 * ((d1) + 256 * ((d2) + 256 * ((d3) + 256 * ((d4) + 256 * ((d5) + 256 * ((d6) + 256 * ((d7) + 256 * (0))))))))) + ((d1) + 256 * ((d2) + 256 * ((d3) + 256 * ((d4) + 256 * ((d5) + 256 * ((d6) + 256 * ((d7) + 256 * (0)))))))) = ((d0 + d1) + 256 * ((d1 + d2) + 256 * (0))) + 65536 * ((d2 + d3) + 256 * ((d3 + d4) + 256 * ((d4 + d5) + 256 * ((d5 + d6) + 256 * ((d6 + d7) + 256 * ((d7) + 256 * (0))))))) := by omega
theorem ff2 (d0 d1 d2 d3 d4 d5 d6 d7 : Nat) : ((d0 + d1) + 256 * ((d1 + d2) + 256 * (0))) + 65536 * ((d2 + d3) + 256 * ((d3 + d4) + 256 * ((d4 + d5) + 256 * ((d5 + d6) + 256 * ((d6 + d7) + 256 * ((d7) + 256 * (0))))))) + ((d2 + d3) + 256 * ((d3 + d4) + 256 * ((d4 + d5) + 256 * ((d5 + d6) + 256 * ((d6 + d7) + 256 * ((d7) + 256 * (0))))))) = ((d0 + d1 + d2 + d3) + 256 * ((d1 + d2 + d3 + d4) + 256 * ((d2 + d3 + d4 + d5) + 256 * ((d3 + d4 + d5 + d6) + 256 * (0))))) + 4294967296 * ((d4 + d5 + d6 + d7) + 256 * ((d5 + d6 + d7) + 256 * ((d6 + d7) + 256 * ((d7) + 256 * (0))))) := by omega
theorem ff3 (d0 d1 d2 d3 d4 d5 d6 d7 : Nat) : ((d0 + d1 + d2 + d3) + 256 * ((d1 + d2 + d3 + d4) + 256 * ((d2 + d3 + d4 + d5) + 256 * ((d3 + d4 + d5 + d6) + 256 * (0))))) + 4294967296 * ((d4 + d5 + d6 + d7) + 256 * ((d5 + d6 + d7) + 256 * ((d6 + d7) + 256 * ((d7) + 256 * (0))))) + ((d4 + d5 + d6 + d7) + 256 * ((d5 + d6 + d7) + 256 * ((d6 + d7) + 256 * ((d7) + 256 * (0))))) = (d0 + d1 + d2 + d3 + d4 + d5 + d6 + d7) + 256 * ((d1 + d2 + d3 + d4 + d5 + d6 + d7) + 256 * ((d2 + d3 + d4 + d5 + d6 + d7) + 256 * ((d3 + d4 + d5 + d6 + d7) + 256 * ((d4 + d5 + d6 + d7) + 256 * ((d5 + d6 + d7) + 256 * ((d6 + d7) + 256 * ((d7) + 256 * (0)))))))) := by omega
theorem bb0 {d0 : Nat} (h : d0 ≤ 8) : d0 < 256 := by omega
theorem bb1 {d0 d1 d2 : Nat} (h0 : d0 ≤ 8) (h1 : d1 ≤ 8) (h2 : d2 ≤ 8) : (d0 + d1) + 256 * ((d1 + d2) + 256 * (0)) < 65536 := by omega
theorem bb2 {d0 d1 d2 d3 d4 d5 d6 : Nat} (h0 : d0 ≤ 8) (h1 : d1 ≤ 8) (h2 : d2 ≤ 8) (h3 : d3 ≤ 8) (h4 : d4 ≤ 8) (h5 : d5 ≤ 8) (h6 : d6 ≤ 8) : (d0 + d1 + d2 + d3) + 256 * ((d1 + d2 + d3 + d4) + 256 * ((d2 + d3 + d4 + d5) + 256 * ((d3 + d4 + d5 + d6) + 256 * (0)))) < 4294967296 := by omega
theorem bb3 (s r : Nat) (h : s < 128) : (s + 256 * r) % 128 = s := by omega
theorem fold8 (d0 d1 d2 d3 d4 d5 d6 d7 : Nat) (h0 : d0 ≤ 8) (h1 : d1 ≤ 8) (h2 : d2 ≤ 8) (h3 : d3 ≤ 8) (h4 : d4 ≤ 8) (h5 : d5 ≤ 8) (h6 : d6 ≤ 8) (h7 : d7 ≤ 8) : ((d0) + 256 * ((d1) + 256 * ((d2) + 256 * ((d3) + 256 * ((d4) + 256 * ((d5) + 256 * ((d6) + 256 * ((d7) + 256 * (0))))))))) + ((d0) + 256 * ((d1) + 256 * ((d2) + 256 * ((d3) + 256 * ((d4) + 256 * ((d5) + 256 * ((d6) + 256 * ((d7) + 256 * (0))))))))) / 256 + (((d0) + 256 * ((d1) + 256 * ((d2) + 256 * ((d3) + 256 * ((d4) + 256 * ((d5) + 256 * ((d6) + 256 * ((d7) + 256 * (0))))))))) + ((d0) + 256 * ((d1) + 256 * ((d2) + 256 * ((d3) + 256 * ((d4) + 256 * ((d5) + 256 * ((d6) + 256 * ((d7) + 256 * (0))))))))) / 256) / 65536 + (((d0) + 256 * ((d1) + 256 * ((d2) + 256 * ((d3) + 256 * ((d4) + 256 * ((d5) + 256 * ((d6) + 256 * ((d7) + 256 * (0))))))))) + ((d0) + 256 * ((d1) + 256 * ((d2) + 256 * ((d3) + 256 * ((d4) + 256 * ((d5) + 256 * ((d6) + 256 * ((d7) + 256 * (0))))))))) / 256 + (((d0) + 256 * ((d1) + 256 * ((d2) + 256 * ((d3) + 256 * ((d4) + 256 * ((d5) + 256 * ((d6) + 256 * ((d7) + 256 * (0))))))))) + ((d0) + 256 * ((d1) + 256 * ((d2) + 256 * ((d3) + 256 * ((d4) + 256 * ((d5) + 256 * ((d6) + 256 * ((d7) + 256 * (0))))))))) / 256) / 65536) / 4294967296 = (d0 + d1 + d2 + d3 + d4 + d5 + d6 + d7) + 256 * ((d1 + d2 + d3 + d4 + d5 + d6 + d7) + 256 * ((d2 + d3 + d4 + d5 + d6 + d7) + 256 * ((d3 + d4 + d5 + d6 + d7) + 256 * ((d4 + d5 + d6 + d7) + 256 * ((d5 + d6 + d7) + 256 * ((d6 + d7) + 256 * ((d7) + 256 * (0)))))))) := by
  rw [dv 256 d0 ((d1) + 256 * ((d2) + 256 * ((d3) + 256 * ((d4) + 256 * ((d5) + 256 * ((d6) + 256 * ((d7) + 256 * (0)))))))) (bb0 h0), ff1, dv 65536 _ _ (bb1 h0 h1 h2), ff2, dv 4294967296 _ _ (bb2 h0 h1 h2 h3 h4 h5 h6), ff3]
theorem ones_pop (x : Nat) : ones x = pop 64 x := by
  unfold ones
  simp only [y_all, bytesP]
  have e : pop 64 x = pop 8 (x % 256) + pop 8 (x / 256 % 256) + pop 8 (x / 256 / 256 % 256) + pop 8 (x / 256 / 256 / 256 % 256) + pop 8 (x / 256 / 256 / 256 / 256 % 256) + pop 8 (x / 256 / 256 / 256 / 256 / 256 % 256) + pop 8 (x / 256 / 256 / 256 / 256 / 256 / 256 % 256) + pop 8 (x / 256 / 256 / 256 / 256 / 256 / 256 / 256 % 256) := by
    rw [show 64 = 8 + (8 + (8 + (8 + (8 + (8 + (8 + 8)))))) by rfl]
    simp only [pop_add, show (2 : Nat) ^ 8 = 256 by rfl]
    have p : ∀ z, pop 8 (z % 256) = pop 8 z := pop_mod 8
    simp only [p]
    omega
  rw [e]
  have b : ∀ z, pop 8 z ≤ 8 := pop_le 8
  generalize hd0 : pop 8 (x % 256) = d0
  generalize hd1 : pop 8 (x / 256 % 256) = d1
  generalize hd2 : pop 8 (x / 256 / 256 % 256) = d2
  generalize hd3 : pop 8 (x / 256 / 256 / 256 % 256) = d3
  generalize hd4 : pop 8 (x / 256 / 256 / 256 / 256 % 256) = d4
  generalize hd5 : pop 8 (x / 256 / 256 / 256 / 256 / 256 % 256) = d5
  generalize hd6 : pop 8 (x / 256 / 256 / 256 / 256 / 256 / 256 % 256) = d6
  generalize hd7 : pop 8 (x / 256 / 256 / 256 / 256 / 256 / 256 / 256 % 256) = d7
  have c0 := hd0 ▸ b _
  have c1 := hd1 ▸ b _
  have c2 := hd2 ▸ b _
  have c3 := hd3 ▸ b _
  have c4 := hd4 ▸ b _
  have c5 := hd5 ▸ b _
  have c6 := hd6 ▸ b _
  have c7 := hd7 ▸ b _
  clear hd0 hd1 hd2 hd3 hd4 hd5 hd6 hd7 b e
  rw [fold8 d0 d1 d2 d3 d4 d5 d6 d7 c0 c1 c2 c3 c4 c5 c6 c7]
  exact bb3 _ _ (by omega)
end Bm
end Go.Proofs.YtckbckdaffdjmaaDoor
