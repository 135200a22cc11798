/- Plain laws of frames: what is written is read back as it was; what is read was written so. -/
import Derived.Test.YtbgfoobcpacfeaaDoorPk8
namespace Go.Proofs.YtbgfoobcpacfeaaDoor
namespace Wi
section
variable {l : List UInt8}

theorem take_two {a b : UInt8} {k : Nat} (ha : l[k]? = some a) (hb : l[k + 1]? = some b) : (l.drop k).take 2 = [a, b] := by
  have h1 : (l.drop k)[0]? = some a := by rw [List.getElem?_drop]; exact ha
  have h2 : (l.drop k)[1]? = some b := by rw [List.getElem?_drop]; exact hb
  have e : (l.drop k).take 2 = ((l.drop k).take 1) ++ [b] := take_next h2
  have e1 : (l.drop k).take 1 = ((l.drop k).take 0) ++ [a] := take_next h1
  rw [e, e1]; rfl
theorem getD_some {k : Nat} (h : k < l.length) : l[k]? = some (l.getD k 0) := by
  rw [List.getD_eq_getElem?_getD, List.getElem?_eq_getElem h]; rfl
theorem lenAt_eq (hl : 26 ≤ l.length) : lenAt l = 256 * (l.getD 20 0).toNat + (l.getD 21 0).toNat := by
  unfold lenAt
  rw [take_two (getD_some (by omega)) (getD_some (by omega)), unbe_two]
theorem markOk_eq (hl : 26 ≤ l.length) : markOk l = (l.getD 0 0 == 82 && (l.getD 1 0 == 70 && l.getD 3 0 == 1)) := by
  unfold markOk
  have h := take_two (l := l) (k := 0) (getD_some (by omega)) (getD_some (by omega))
  rw [List.drop_zero] at h
  rw [h, unbe_two]
  have h0 := (l.getD 0 0).toNat_lt
  have h1 := (l.getD 1 0).toNat_lt
  rw [← Bool.and_assoc]
  congr 1
  generalize l.getD 0 0 = x at *
  generalize l.getD 1 0 = y at *
  have e1 : (x == 82) = decide (x.toNat = 82) := by rw [Bool.eq_iff_iff]; simp [← UInt8.toNat_inj]
  have e2 : (y == 70) = decide (y.toNat = 70) := by rw [Bool.eq_iff_iff]; simp [← UInt8.toNat_inj]
  rw [e1, e2, Bool.eq_iff_iff]
  simp only [beq_iff_eq, Bool.and_eq_true, decide_eq_true_eq]
  omega
theorem split_at (l : List UInt8) (k n : Nat) : l.drop k = (l.drop k).take n ++ l.drop (k + n) := by
  rw [← List.drop_drop, List.take_append_drop]
theorem be_sub (hl : 26 ≤ l.length) (k n : Nat) (hk : k + n ≤ 26) : be n (unbe ((l.drop k).take n)) = (l.drop k).take n :=
  be_unbe_n (by rw [List.length_take, List.length_drop]; omega)
theorem head_read (hl : 26 ≤ l.length) (hm : markOk l = true) (hn : l.length = 26 + lenAt l) : head (readFr l) = l.take 22 := by
  have h0 : l.getD 0 0 = 82 ∧ l.getD 1 0 = 70 ∧ l.getD 3 0 = 1 := by
    rw [markOk_eq hl] at hm
    simpa using hm
  have hk : kindByte (kindAt l) = l.getD 2 0 := by
    unfold kindByte kindAt
    have := (l.getD 2 0).toNat_lt
    apply UInt8.toNat_inj.1
    rw [UInt8.toNat_ofNat']
    omega
  have hp : (l.drop 26).length = lenAt l := by rw [List.length_drop]; omega
  have e4 : l.take 4 = [l.getD 0 0, l.getD 1 0, l.getD 2 0, l.getD 3 0] := by
    rw [take_next (getD_some (l := l) (k := 3) (by omega)), take_next (getD_some (l := l) (k := 2) (by omega)), take_next (getD_some (l := l) (k := 1) (by omega)), take_next (getD_some (l := l) (k := 0) (by omega))]
    rfl
  have es : l.take 22 = l.take 4 ++ (l.drop 4).take 4 ++ (l.drop 8).take 4 ++ (l.drop 12).take 4 ++ (l.drop 16).take 4 ++ (l.drop 20).take 2 := by
    have t : ∀ a b : Nat, l.take (a + b) = l.take a ++ (l.drop a).take b := fun a b => by rw [List.take_add]
    rw [show (22 : Nat) = 20 + 2 by rfl, t, show (20 : Nat) = 16 + 4 by rfl, t, show (16 : Nat) = 12 + 4 by rfl, t, show (12 : Nat) = 8 + 4 by rfl, t, show (8 : Nat) = 4 + 4 by rfl, t]
  have hlen2 : be 2 (lenAt l) = (l.drop 20).take 2 := be_sub hl 20 2 (by omega)
  rw [es, e4, h0.1, h0.2.1, h0.2.2]
  unfold head readFr
  simp only
  rw [hk, hp, hlen2, be_sub hl 4 4 (by omega), be_sub hl 8 4 (by omega), be_sub hl 12 4 (by omega), be_sub hl 16 4 (by omega)]
theorem framed_read (hl : 26 ≤ l.length) (hm : markOk l = true) (hn : l.length = 26 + lenAt l) (s : Nat) : framed (readFr l) s = l.take 22 ++ be 4 s ++ l.drop 26 := by
  unfold framed
  rw [head_read hl hm hn]
  rfl
theorem sumOf_read (hl : 26 ≤ l.length) (hm : markOk l = true) (hn : l.length = 26 + lenAt l) : sumOf (readFr l) = sumBytes l := by
  unfold sumOf sumBytes
  rw [framed_read hl hm hn]
  rfl
theorem decErr_zero (h : decErr l = 0) : 26 ≤ l.length ∧ markOk l = true ∧ kindOk (kindAt l) = true ∧ carries (kindAt l) (lenAt l) = true ∧ l.length = 26 + lenAt l ∧ unbe ((l.drop 22).take 4) = sumBytes l := by
  unfold decErr at h
  split at h; · cases h
  split at h; · cases h
  split at h; · cases h
  split at h; · cases h
  split at h; · cases h
  split at h; · cases h
  split at h; · cases h
  rename_i h1 h2 h3 h4 h5 h6 h7
  exact ⟨by omega, by simpa using h2, by simpa using h3, by simpa using h4, by omega, by simpa using h7⟩
/-- What is read as a frame is that frame's bytes. -/
theorem enc_dec (h : decErr l = 0) : encErr (decFr l) = 0 ∧ enc (decFr l) = l := by
  obtain ⟨h1, h2, h3, h4, h5, h6⟩ := decErr_zero h
  have hp : (l.drop 26).length = lenAt l := by rw [List.length_drop]; omega
  have e : decFr l = readFr l := by unfold decFr; rw [if_pos h]
  rw [e]
  constructor
  · unfold encErr
    rw [show (readFr l).kind = kindAt l from rfl, show (readFr l).pay = l.drop 26 from rfl, hp, if_pos h3, if_pos h4]
  · unfold enc
    rw [framed_read h1 h2 h5, sumOf_read h1 h2 h5, ← h6, be_sub h1 22 4 (by omega)]
    rw [List.append_assoc, ← split_at, List.take_append_drop]
end
end Wi
end Go.Proofs.YtbgfoobcpacfeaaDoor
