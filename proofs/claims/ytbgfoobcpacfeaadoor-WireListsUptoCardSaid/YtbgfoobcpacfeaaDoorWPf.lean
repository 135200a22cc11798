/- A frame's bytes are read back as the frame: a plain law. -/
import Derived.Test.YtbgfoobcpacfeaaDoorPk8
import Derived.Test.YtbgfoobcpacfeaaDoorWLaw2
namespace Go.Proofs.YtbgfoobcpacfeaaDoor
set_option linter.unusedVariables false
namespace Wi
theorem enc_parts (x : Fr) (s : Nat) : (framed x s).take 2 = [82, 70] ∧ (framed x s).getD 3 0 = 1 ∧ (framed x s).getD 2 0 = kindByte x.kind ∧ ((framed x s).drop 4).take 4 = be 4 x.from_ ∧ ((framed x s).drop 8).take 4 = be 4 x.to ∧ ((framed x s).drop 12).take 4 = be 4 x.seq ∧ ((framed x s).drop 16).take 4 = be 4 x.ack ∧ ((framed x s).drop 20).take 2 = be 2 x.pay.length ∧ ((framed x s).drop 22).take 4 = be 4 s ∧ (framed x s).drop 26 = x.pay ∧ (framed x s).take 22 = head x :=
  ⟨rfl, rfl, rfl, rfl, rfl, rfl, rfl, rfl, rfl, rfl, rfl⟩
theorem p4 : (256 : Nat) ^ 4 = 4294967296 := rfl
theorem sumOf_lt (x : Fr) : sumOf x < 4294967296 := by unfold sumOf crcMore; omega
/-- What is written as a frame is read back as it. -/
theorem dec_enc {x : Fr} (hx : x.Ok) (h : encErr x = 0) : decErr (enc x) = 0 ∧ decFr (enc x) = x ∧ encOut x = enc x ∧ (enc x).length = 26 + x.pay.length := by
  obtain ⟨x1, x2, x3, x4⟩ := hx
  unfold encErr at h
  have hk : kindOk x.kind = true := by
    cases hk : kindOk x.kind
    · rw [if_neg (by rw [hk]; decide)] at h; cases h
    · rfl
  rw [if_pos hk] at h
  have hc : carries x.kind x.pay.length = true := by
    cases hc : carries x.kind x.pay.length
    · rw [if_neg (by rw [hc]; decide)] at h; cases h
    · rfl
  obtain ⟨k1, k2⟩ : 1 ≤ x.kind ∧ x.kind ≤ 4 := by simpa [kindOk] using hk
  have hp : x.pay.length ≤ 2048 := by
    have := hc
    simp [carries] at this
    exact this.2
  obtain ⟨e1, e2, e3, e4, e5, e6, e7, e8, e9, e10, e11⟩ := enc_parts x (sumOf x)
  have hlen : (enc x).length = 26 + x.pay.length := framed_length x _
  have hkind : kindAt (enc x) = x.kind := by
    unfold kindAt enc
    rw [e3]
    unfold kindByte
    rw [UInt8.toNat_ofNat']
    omega
  have hl : lenAt (enc x) = x.pay.length := by
    unfold lenAt enc
    rw [e8]
    exact unbe_be_lt (by have : (256 : Nat) ^ 2 = 65536 := rfl; omega)
  have hmark : markOk (enc x) = true := by
    unfold markOk enc
    rw [e1, e2]
    decide
  have hs : unbe (((enc x).drop 22).take 4) = sumBytes (enc x) := by
    unfold enc
    rw [e9, unbe_be_lt (by rw [p4]; exact sumOf_lt x)]
    unfold sumBytes
    rw [e11, e10]
    have e0 : be 4 0 = [0, 0, 0, 0] := by decide
    have ef : framed x 0 = head x ++ [0, 0, 0, 0] ++ x.pay := by unfold framed; rw [e0]
    unfold sumOf
    rw [ef]
  have hd : decErr (enc x) = 0 := by
    unfold decErr
    rw [hlen, hkind, hl, if_neg (by omega), if_neg (by rw [hmark]; decide), if_neg (by rw [hk]; decide), if_neg (by rw [hc]; decide), if_neg (by omega), if_neg (by omega), if_neg (by rw [hs]; simp)]
  refine ⟨hd, ?_, ?_, hlen⟩
  · unfold decFr
    rw [if_pos hd]
    unfold readFr
    rw [hkind]
    unfold enc
    rw [e4, e5, e6, e7, e10, unbe_be_lt (by rw [p4]; exact x1), unbe_be_lt (by rw [p4]; exact x2), unbe_be_lt (by rw [p4]; exact x3), unbe_be_lt (by rw [p4]; exact x4)]
  · unfold encOut
    rw [if_pos hk, if_pos hc]
theorem encOut_err {x : Fr} (h : encErr x ≠ 0) : encOut x = [] := by
  unfold encOut
  unfold encErr at h
  split at h
  · rename_i hk
    rw [if_pos hk]
    split at h
    · exact absurd rfl h
    · rename_i hc; rw [if_neg hc]
  · rename_i hk; rw [if_neg hk]
theorem decFr_err {b : List UInt8} (h : decErr b ≠ 0) : decFr b = zero := by unfold decFr; rw [if_neg h]
theorem decFr_ok {b : List UInt8} (h : decErr b = 0) : (decFr b).Ok := by
  have e : decFr b = readFr b := by unfold decFr; rw [if_pos h]
  have hl : 26 ≤ b.length := (decErr_zero h).1
  rw [e]
  have k : ∀ n, unbe ((b.drop n).take 4) < 4294967296 := fun n => Nat.lt_of_lt_of_le (unbe_lt _) (Nat.pow_le_pow_right (n := 256) (by decide) (show ((b.drop n).take 4).length ≤ 4 by rw [List.length_take]; omega))
  exact ⟨k 4, k 8, k 12, k 16⟩
end Wi
end Go.Proofs.YtbgfoobcpacfeaaDoor
