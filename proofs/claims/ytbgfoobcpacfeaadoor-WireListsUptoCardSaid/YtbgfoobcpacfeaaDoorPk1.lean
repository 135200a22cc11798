/- Walks and plain laws of the packets and frames, joined from: WSpec. -/
/- The bytes of numbers, the sum of bytes, frames: plain functions. -/
namespace Go.Proofs.YtbgfoobcpacfeaaDoor
namespace Wi

/-- n bytes of a number, the highest first. -/
def be : Nat → Nat → List UInt8
  | 0, _ => []
  | n + 1, v => UInt8.ofNat (v >>> (8 * n)) :: be n v
theorem be_length : ∀ (n v : Nat), (be n v).length = n
  | 0, _ => rfl
  | n + 1, v => by simp [be, be_length n v]
theorem flat_length (n : Nat) : ∀ fs : List Nat, (fs.flatMap (be n)).length = n * fs.length
  | [] => by simp
  | a :: fs => by simp [be_length, flat_length n fs, Nat.mul_add]; omega
/-- The number of bytes, the highest first. -/
def unbe (l : List UInt8) : Nat := l.foldl (fun v c => v * 256 + c.toNat) 0

def crcBit (x : Nat) : Nat := if x % 2 = 1 then (x / 2) ^^^ 2197175160 else x / 2
def crcBits : Nat → Nat → Nat
  | 0, x => x
  | k + 1, x => crcBit (crcBits k x)
def crcByte (x : Nat) (b : UInt8) : Nat := crcBits 8 (x ^^^ b.toNat)
def crcFold (x : Nat) (l : List UInt8) : Nat := l.foldl crcByte x
def crcMore (c : Nat) (l : List UInt8) : Nat := 4294967295 - crcFold (4294967295 - c) l

theorem crcBit_lt {x : Nat} (h : x < 4294967296) : crcBit x < 4294967296 := by
  unfold crcBit
  split
  · exact Nat.xor_lt_two_pow (n := 32) (by omega) (by omega)
  · omega
theorem crcBits_lt {x : Nat} (h : x < 4294967296) : ∀ k, crcBits k x < 4294967296
  | 0 => h
  | k + 1 => crcBit_lt (crcBits_lt h k)
theorem crcByte_lt {x : Nat} (b : UInt8) (h : x < 4294967296) : crcByte x b < 4294967296 :=
  crcBits_lt (Nat.xor_lt_two_pow (n := 32) (by omega) (by have := b.toNat_lt; omega)) 8
theorem crcFold_lt {x : Nat} (h : x < 4294967296) : ∀ l, crcFold x l < 4294967296 := by
  intro l
  induction l generalizing x with
  | nil => exact h
  | cons b l ih => exact ih (crcByte_lt b h)
theorem crcFold_snoc (x : Nat) (l : List UInt8) (b : UInt8) : crcFold x (l ++ [b]) = crcByte (crcFold x l) b := by simp [crcFold]
theorem crcFold_append (x : Nat) (l m : List UInt8) : crcFold x (l ++ m) = crcFold (crcFold x l) m := by simp [crcFold]
theorem crcMore_lt (c : Nat) (l : List UInt8) : crcMore c l < 4294967296 := by unfold crcMore; omega
theorem crcMore_append {c : Nat} (hc : c < 4294967296) (l m : List UInt8) : crcMore (crcMore c l) m = crcMore c (l ++ m) := by
  unfold crcMore
  have := crcFold_lt (x := 4294967295 - c) (by omega) l
  rw [crcFold_append, show 4294967295 - (4294967295 - crcFold (4294967295 - c) l) = crcFold (4294967295 - c) l by omega]

theorem take_next {α : Type} {l : List α} {i : Nat} {b : α} (h : l[i]? = some b) : l.take (i + 1) = l.take i ++ [b] := by
  rw [List.take_add_one, h]; rfl
theorem unbe_snoc (l : List UInt8) (b : UInt8) : unbe (l ++ [b]) = unbe l * 256 + b.toNat := by simp [unbe]
theorem unbe_lt_snoc {l : List UInt8} (b : UInt8) {n : Nat} (h : unbe l < 256 ^ n) : unbe (l ++ [b]) < 256 ^ (n + 1) := by
  rw [unbe_snoc]
  have := b.toNat_lt
  have : (256 : Nat) ^ (n + 1) = 256 ^ n * 256 := Nat.pow_succ 256 n
  omega
theorem unbe_take_lt (l : List UInt8) : ∀ i, unbe (l.take i) < 256 ^ i := by
  intro i
  induction i with
  | zero => simp [unbe]
  | succ i ih =>
    cases h : l[i]? with
    | none =>
      have hl : l.length ≤ i := List.getElem?_eq_none_iff.1 h
      rw [List.take_of_length_le (by omega)]
      rw [List.take_of_length_le hl] at ih
      have : (256 : Nat) ^ (i + 1) = 256 ^ i * 256 := Nat.pow_succ 256 i
      omega
    | some b => rw [take_next h]; exact unbe_lt_snoc b ih
theorem unbe_lt (l : List UInt8) : unbe l < 256 ^ l.length := by
  have := unbe_take_lt l l.length
  rwa [List.take_length] at this
theorem or_byte (v : Nat) (b : UInt8) : (v * 256) ||| b.toNat = v * 256 + b.toNat := by
  have := Nat.shiftLeft_add_eq_or_of_lt (i := 8) (b := b.toNat) (by have := b.toNat_lt; omega) v
  rw [Nat.shiftLeft_eq] at this
  exact this.symm
def kindOk (k : Int) : Bool := decide (1 ≤ k) && decide (k ≤ 4)
def carries (k : Int) (n : Nat) : Bool := (decide (0 < n) == (k == 2)) && decide (n ≤ 2048)

/-- A frame. -/
structure Fr where
  kind : Int
  from_ : Nat
  to : Nat
  seq : Nat
  ack : Nat
  pay : List UInt8

def Fr.Ok (x : Fr) : Prop := x.from_ < 4294967296 ∧ x.to < 4294967296 ∧ x.seq < 4294967296 ∧ x.ack < 4294967296
def kindByte (k : Int) : UInt8 := UInt8.ofNat (k % 256).toNat
def head (x : Fr) : List UInt8 := [82, 70, kindByte x.kind, 1] ++ be 4 x.from_ ++ be 4 x.to ++ be 4 x.seq ++ be 4 x.ack ++ be 2 x.pay.length
def framed (x : Fr) (sum : Nat) : List UInt8 := head x ++ be 4 sum ++ x.pay
def sumOf (x : Fr) : Nat := crcMore 0 (framed x 0)
def enc (x : Fr) : List UInt8 := framed x (sumOf x)
def encErr (x : Fr) : Int := if kindOk x.kind then (if carries x.kind x.pay.length then 0 else 75) else 74
def encOut (x : Fr) : List UInt8 := if kindOk x.kind then (if carries x.kind x.pay.length then enc x else []) else []
theorem head_length (x : Fr) : (head x).length = 22 := by simp [head, be_length]
theorem framed_length (x : Fr) (s : Nat) : (framed x s).length = 26 + x.pay.length := by simp [framed, head_length, be_length]; omega
theorem framed_laid (x : Fr) (s : Nat) : (framed x 0).take 22 ++ (be 4 s ++ (framed x 0).drop (22 + (be 4 s).length)) = framed x s := by
  have h := head_length x
  have e : framed x 0 = head x ++ (be 4 0 ++ x.pay) := by simp [framed]
  rw [e, be_length, List.take_append_of_le_length (by omega), List.take_of_length_le (by omega), List.drop_append, h, List.drop_of_length_le (by omega), List.nil_append,
    show 22 + 4 - 22 = 4 by rfl, List.drop_append, be_length, List.drop_of_length_le (by rw [be_length]; omega)]
  simp [framed]
def kindAt (b : List UInt8) : Int := ((b.getD 2 0).toNat : Int)
def lenAt (b : List UInt8) : Nat := unbe ((b.drop 20).take 2)
def markOk (b : List UInt8) : Bool := unbe (b.take 2) == 21062 && b.getD 3 0 == 1
def zero : Fr := ⟨0, 0, 0, 0, 0, []⟩
/-- The sum that a frame's bytes ought to have. -/
def sumBytes (b : List UInt8) : Nat := crcMore 0 (b.take 22 ++ [0, 0, 0, 0] ++ b.drop 26)
def decErr (b : List UInt8) : Int :=
  if b.length < 26 then 71 else if markOk b = false then 72 else if kindOk (kindAt b) = false then 74 else if carries (kindAt b) (lenAt b) = false then 75
  else if b.length < 26 + lenAt b then 71 else if 26 + lenAt b < b.length then 76 else if unbe ((b.drop 22).take 4) ≠ sumBytes b then 73 else 0
def readFr (b : List UInt8) : Fr := ⟨kindAt b, unbe ((b.drop 4).take 4), unbe ((b.drop 8).take 4), unbe ((b.drop 12).take 4), unbe ((b.drop 16).take 4), b.drop 26⟩
def decFr (b : List UInt8) : Fr := if decErr b = 0 then readFr b else zero
end Wi
end Go.Proofs.YtbgfoobcpacfeaaDoor
