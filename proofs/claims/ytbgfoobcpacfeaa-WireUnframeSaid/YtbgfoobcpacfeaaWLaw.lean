/- Plain laws of numbers in bytes and of frames: what is written is read back, what is read is what was written. -/
import Derived.Test.YtbgfoobcpacfeaaWSpec
namespace Go.Proofs.Ytbgfoobcpacfeaa
namespace Wi

theorem unbe_foldl (l : List UInt8) : ∀ a : Nat, l.foldl (fun v c => v * 256 + c.toNat) a = a * 256 ^ l.length + unbe l := by
  induction l with
  | nil => intro a; simp [unbe]
  | cons b l ih =>
    intro a
    unfold unbe
    simp only [List.foldl_cons, List.length_cons]
    rw [ih, ih]
    have : (256 : Nat) ^ (l.length + 1) = 256 ^ l.length * 256 := Nat.pow_succ 256 l.length
    rw [this]
    simp only [Nat.zero_mul, Nat.zero_add, Nat.add_mul, Nat.mul_assoc, Nat.mul_comm 256]
    omega
theorem unbe_cons (b : UInt8) (l : List UInt8) : unbe (b :: l) = b.toNat * 256 ^ l.length + unbe l := by
  show List.foldl _ _ l = _
  rw [unbe_foldl]
  simp
theorem pow256 (n : Nat) : (256 : Nat) ^ n = 2 ^ (8 * n) := by rw [Nat.pow_mul]
theorem be_add (n : Nat) : ∀ v k : Nat, be n (v + k * 256 ^ n) = be n v := by
  induction n with
  | zero => intro v k; rfl
  | succ n ih =>
    intro v k
    have hp : (256 : Nat) ^ (n + 1) = 256 ^ n * 256 := Nat.pow_succ 256 n
    simp only [be]
    have e1 : v + k * 256 ^ (n + 1) = v + (k * 256) * 256 ^ n := by rw [hp, Nat.mul_comm (256 ^ n), Nat.mul_assoc]
    have e2 : UInt8.ofNat ((v + k * 256 ^ (n + 1)) >>> (8 * n)) = UInt8.ofNat (v >>> (8 * n)) := by
      rw [e1, Nat.shiftRight_eq_div_pow, Nat.shiftRight_eq_div_pow, ← pow256, Nat.add_mul_div_right _ _ (Nat.pow_pos (by decide))]
      apply UInt8.toNat_inj.1
      simp
    rw [e2, e1, ih]
theorem be_unbe : ∀ l : List UInt8, be l.length (unbe l) = l
  | [] => rfl
  | b :: l => by
    have hlt := unbe_lt l
    have hb := b.toNat_lt
    rw [unbe_cons, List.length_cons]
    simp only [be]
    rw [Nat.add_comm, be_add, be_unbe l]
    congr 1
    rw [Nat.shiftRight_eq_div_pow, ← pow256, Nat.add_mul_div_right _ _ (Nat.pow_pos (by decide)), Nat.div_eq_of_lt hlt, Nat.zero_add]
    apply UInt8.toNat_inj.1
    simp
theorem unbe_be (n : Nat) : ∀ v : Nat, unbe (be n v) = v % 256 ^ n := by
  induction n with
  | zero => intro v; simp [be, unbe]; omega
  | succ n ih =>
    intro v
    have hp : (256 : Nat) ^ (n + 1) = 256 ^ n * 256 := Nat.pow_succ 256 n
    simp only [be]
    rw [unbe_cons, be_length, ih, Nat.shiftRight_eq_div_pow, ← pow256, UInt8.toNat_ofNat', hp, Nat.mod_mul]
    have : (2 : Nat) ^ 8 = 256 := rfl
    rw [this, Nat.mul_comm (v / 256 ^ n % 256)]
    omega
theorem unbe_be_lt {n v : Nat} (h : v < 256 ^ n) : unbe (be n v) = v := by rw [unbe_be, Nat.mod_eq_of_lt h]
theorem be_unbe_n {l : List UInt8} {n : Nat} (h : l.length = n) : be n (unbe l) = l := by subst h; exact be_unbe l
theorem unbe_two (a b : UInt8) : unbe [a, b] = 256 * a.toNat + b.toNat := by simp [unbe]; omega
end Wi
end Go.Proofs.Ytbgfoobcpacfeaa
