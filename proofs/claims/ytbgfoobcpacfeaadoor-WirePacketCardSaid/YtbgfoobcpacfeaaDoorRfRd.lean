/- The document's own reader: what the whole of a packet is read as. -/
import Derived.Test.YtbgfoobcpacfeaaDoorPk8
import Derived.Test.YtbgfoobcpacfeaaDoorRfFits
namespace Go.Proofs.YtbgfoobcpacfeaaDoor
open Go.RowKit
set_option maxRecDepth 100000
set_option linter.unusedVariables false
set_option linter.unusedSimpArgs false

namespace Wi
def Res.left {α : Type} : Res α → List UInt8
  | .ok _ r => r
  | .bad r => r
theorem rNum_suffix (s : List (Int × Int)) : ∀ (k v : Nat) (l : List UInt8), (rNum s k v l).left <:+ l
  | 0, v, l => by simp only [rNum, Res.left]; exact List.suffix_refl _
  | k + 1, v, [] => by simp only [rNum, Res.left]; exact List.suffix_refl _
  | k + 1, v, c :: l => by
    rw [rNum]
    split
    · exact (rNum_suffix s k (v * 256 + c.toNat) l).trans (List.suffix_cons c l)
    · exact List.suffix_refl _
theorem rNum_lt (s : List (Int × Int)) : ∀ (k v m : Nat) (l : List UInt8) (x : Nat) (r : List UInt8), v < 256 ^ m → rNum s k v l = .ok x r → x < 256 ^ (m + k)
  | 0, v, m, l, x, r, hv, h => by
    simp only [rNum, Res.ok.injEq] at h
    rw [← h.1]; exact hv
  | k + 1, v, m, [], x, r, hv, h => by simp [rNum] at h
  | k + 1, v, m, c :: l, x, r, hv, h => by
    rw [rNum] at h
    split at h
    · have h8 := c.toNat_lt
      have := rNum_lt s k (v * 256 + c.toNat) (m + 1) l x r (by rw [Nat.pow_succ]; omega) h
      rw [show m + (k + 1) = m + 1 + k by omega]
      exact this
    · cases h
theorem rdSum_suffix (z : Bool) : ∀ (k : Nat) (l : List UInt8), (rdSum z k l).left <:+ l
  | 0, l => by simp only [rdSum, Res.left]; exact List.suffix_refl _
  | k + 1, [] => by simp only [rdSum, Res.left]; exact List.suffix_refl _
  | k + 1, c :: l => by
    rw [rdSum]
    split
    · exact List.suffix_refl _
    · have := rdSum_suffix z k l
      cases h : rdSum z k l <;> rw [h] at this <;> exact this.trans (List.suffix_cons c l)
theorem drop_of_suffix {r l : List UInt8} {n : Nat} (h : r <:+ l.drop n) : l.drop (l.length - r.length) = r := (List.suffix_iff_eq_drop.1 (h.trans (List.drop_suffix _ _))).symm

def rD (c : Nat) (p : Pk) (l : List UInt8) : Res Pk := if rHas c 128 then
    match rNum (rLengths c p) 2 0 l with
    | .ok n r => if r.length < n then .bad [] else .ok { p with data := r.take n } (r.drop n)
    | .bad r => .bad r
  else .ok p l
def rS (c : Nat) (p : Pk) (l : List UInt8) : Res Pk := if rHas c 64 then
    match rdSum (decide (c = 15) && decide (p.flags = 1)) 32 l with
    | .ok s r => rD c { p with sum := s } r
    | .bad r => .bad r
  else rD c p l
def rG (c : Nat) (p : Pk) (l : List UInt8) : Res Pk := if rHas c 32 then
    if l.length < 32 then .bad [] else rS c { p with g1 := unbe (l.take 8), g2 := unbe ((l.drop 8).take 8), g3 := unbe ((l.drop 16).take 8), g4 := unbe ((l.drop 24).take 8) } (l.drop 32)
  else rS c p l
def rF (c k : Nat) (p : Pk) (l : List UInt8) : Res Pk := if rHas c (2 ^ k) then
    match rNum (rNumbers c (2 ^ k : Nat) p) 4 0 l with
    | .ok v r => .ok (p.setNum k v) r
    | .bad r => .bad r
  else .ok p l
def rN (c : Nat) : Nat → Pk → List UInt8 → Res Pk
  | 0, p, l => rG c p l
  | n + 1, p, l => match rF c (4 - n) p l with
    | .ok q r => rN c n q r
    | .bad r => .bad r
def rRest (c : Nat) (l : List UInt8) : Res Pk := rN c 5 (Pk.zero c) l
theorem rN_at (c i : Nat) (hi : i < 5) (p : Pk) (l : List UInt8) : rN c (5 - i) p l = match rF c i p l with
    | .ok q r => rN c (5 - (i + 1)) q r
    | .bad r => .bad r := by
  rw [show 5 - i = (4 - i) + 1 by omega, rN, show 4 - (4 - i) = i by omega, show 5 - (i + 1) = 4 - i by omega]
theorem setNum_cmd (p : Pk) (k : Int) (x : Nat) : (p.setNum k x).cmd = p.cmd := by
  unfold Pk.setNum
  repeat' split
  all_goals rfl
theorem setNum_data (p : Pk) (k : Int) (x : Nat) : (p.setNum k x).data = p.data := by
  unfold Pk.setNum
  repeat' split
  all_goals rfl
end Wi
theorem RNumPost.form {w w' : World} {r len : Nat} {bs : Value} {res : Wi.Res Nat} {e : Ending} (h : RNumPost w r bs len res e w') : ∃ x t rest, e = .returned (.tuple #[.int .i64 (x : Nat), .bool t]) ∧ RRd w' r bs (len - rest.length) ∧ w.grownBy w' (some r) ∧ res = if t then .ok x rest else .bad rest := by
  cases res with
  | ok v rest => exact ⟨v, true, rest, h.1, h.2.1, h.2.2, rfl⟩
  | bad rest => exact ⟨0, false, rest, h.1, h.2.1, h.2.2, rfl⟩
theorem RSumPost.form {w w' : World} {r len : Nat} {bs : Value} {res : Wi.Res (List UInt8)} {e : Ending} (h : RSumPost w r bs len res e w') : ∃ (s : List UInt8) (t : Bool) (rest : List UInt8), s.length = 32 ∧ e = .returned (.tuple #[.agg (s.map bv).toArray, .bool t]) ∧ RRd w' r bs (len - rest.length) ∧ w.grownBy w' (some r) ∧ res = if t then .ok s rest else .bad rest := by
  cases res with
  | ok s rest => exact ⟨s, true, rest, h.1, h.2.1, h.2.2.1, h.2.2.2, rfl⟩
  | bad rest =>
    obtain ⟨⟨s, h1, h2⟩, h3, h4⟩ := h
    exact ⟨s, false, rest, h1, h2, h3, h4, rfl⟩
/-- The packet as it is read so far: the reader stands at a place, the packet lies in the call's own memory. -/
structure RSt (w : World) (r : Nat) (bs : Value) (len c at_ : Nat) (q : Wi.Pk) (w' : World) : Prop where
  ok : q.Ok
  cmd : q.cmd = c
  data : q.data = []
  p : PkAt w' (w.heap.size + 1) q (.slice none 0 0)
  z : PkAt w' w.heap.size (Wi.Pk.zero 0) (.slice none 0 0)
  rd : RRd w' r bs at_
  le : at_ ≤ len
  g : w.grownBy w' (some r)
section
variable {w w' w'' : World} {r len c at_ : Nat} {bs : Value} {q : Wi.Pk}
theorem RSt.below (h : RSt w r bs len c at_ q w') (hb : Below w'.heap.size w' w'') : RSt w r bs len c at_ q w'' :=
  ⟨h.ok, h.cmd, h.data, h.p.below hb, h.z.below hb, h.rd.below hb, h.le, World.grownBy.trans h.g (below_grown hb)⟩
theorem RSt.read (h : RSt w r bs len c at_ q w') (hr : r < w.heap.size) (hg : w'.grownBy w'' (some r)) {n : Nat} (hR : RRd w'' r bs n) (hn : n ≤ len) : RSt w r bs len c n q w'' :=
  ⟨h.ok, h.cmd, h.data, h.p.grown hg (fun e => by injection e; omega), h.z.grown hg (fun e => by injection e; omega), hR, hn, World.grownBy.trans h.g hg⟩
theorem RSt.put (h : RSt w r bs len c at_ q w') (hr : r < w.heap.size) (o : Nat) (vs : List Value) (q' : Wi.Pk) (he : setAll (pkL q (.slice none 0 0)) o vs = pkL q' (.slice none 0 0)) (h1 : q'.Ok) (h2 : q'.cmd = c) (h3 : q'.data = []) : RSt w r bs len c at_ q' (w'.setCells (w.heap.size + 1) o vs) :=
  have hg := setCells_grown w' (w.heap.size + 1) o vs
  ⟨h1, h2, h3, h.p.store o vs q' _ he, h.z.grown hg (fun e => by injection e; omega), blk_grown h.rd hg (fun e => by injection e; omega), h.le, grown_own h.g hg (by omega)⟩
theorem RSt.size (h : RSt w r bs len c at_ q w') : w.heap.size + 2 ≤ w'.heap.size := by have := h.p.lt; omega
end
/-- What the document's 'rest' answers. -/
def RRestPost (w : World) (r : Nat) (bs : Value) (len : Nat) (res : Wi.Res Wi.Pk) (e : Ending) (w' : World) : Prop :=
  match res with
  | .ok q rest => ∃ pv, e = .returned (.tuple #[.agg (pkL q pv).toArray, .bool true]) ∧ q.Ok ∧ OB w.heap.size w' pv q.data ∧ RRd w' r bs (len - rest.length) ∧ w.grownBy w' (some r)
  | .bad rest => ∃ q, e = .returned (.tuple #[.agg (pkL q (.slice none 0 0)).toArray, .bool false]) ∧ q.Ok ∧ RRd w' r bs (len - rest.length) ∧ w.grownBy w' (some r)
/-- Behind i of the five numbers. -/
def RRestI (w : World) (r : Nat) (bs : Value) (l : List UInt8) (c : Nat) (res : Wi.Res Wi.Pk) (i : Nat) (a : Act) (w' : World) : Prop :=
  ∃ q at_, (∃ U : Nat → Value, a = ⟨#[.pointer (some ⟨r, 0, none⟩), .int .i64 c, U 2, U 3, .pointer (some ⟨w.heap.size, 0, none⟩), .bool false, .pointer (some ⟨w.heap.size + 1, 0, none⟩), .int .i64 i, U 8, U 9, U 10, U 11, U 12, U 13, U 14, U 15, U 16, U 17, U 18, U 19, U 20, U 21, U 22, U 23, U 24, U 25, U 26, U 27, U 28, U 29, U 30, U 31, U 32, U 33, U 34, U 35, U 36, U 37, U 38, U 39, U 40, U 41, U 42, U 43, U 44, U 45, U 46, U 47, U 48, U 49, U 50, U 51, U 52, U 53, U 54, U 55, U 56, U 57, U 58, U 59, U 60, U 61, U 62, U 63, U 64, U 65, U 66, U 67, U 68, U 69, U 70, U 71, U 72, U 73, U 74, U 75, U 76, U 77, U 78, U 79, U 80, U 81, U 82, U 83, U 84, U 85, U 86, U 87, U 88, U 89, U 90, U 91, U 92, U 93, U 94, U 95, U 96, U 97, U 98, U 99, U 100, U 101, U 102, U 103, U 104, U 105, U 106, U 107, U 108, U 109, U 110, U 111, U 112, U 113, U 114, U 115, U 116, U 117, U 118, U 119, U 120, U 121, U 122, U 123, U 124, U 125, U 126, U 127, U 128, U 129, U 130, U 131, U 132, U 133, U 134, U 135, U 136, U 137, U 138], []⟩) ∧ RSt w r bs l.length c at_ q w' ∧ res = Wi.rN c (5 - i) q (l.drop at_)
/-- Behind the identifiers, behind the digest. -/
def RRestC (w : World) (r : Nat) (bs : Value) (l : List UInt8) (c : Nat) (res : Wi.Res Wi.Pk) (F : Wi.Pk → List UInt8 → Wi.Res Wi.Pk) (a : Act) (w' : World) : Prop :=
  ∃ t q at_, (∃ U : Nat → Value, a = ⟨#[.pointer (some ⟨r, 0, none⟩), .int .i64 c, U 2, U 3, .pointer (some ⟨w.heap.size, 0, none⟩), .bool false, .pointer (some ⟨w.heap.size + 1, 0, none⟩), U 7, U 8, U 9, U 10, .bool t, U 12, U 13, U 14, U 15, U 16, U 17, U 18, U 19, U 20, U 21, U 22, U 23, U 24, U 25, U 26, U 27, U 28, U 29, U 30, U 31, U 32, U 33, U 34, U 35, U 36, U 37, U 38, U 39, U 40, U 41, U 42, U 43, U 44, U 45, U 46, U 47, U 48, U 49, U 50, U 51, U 52, U 53, U 54, U 55, U 56, U 57, U 58, U 59, U 60, U 61, U 62, U 63, U 64, U 65, U 66, U 67, U 68, U 69, U 70, U 71, U 72, U 73, U 74, U 75, U 76, U 77, U 78, U 79, U 80, U 81, U 82, U 83, U 84, U 85, U 86, U 87, U 88, U 89, U 90, U 91, U 92, U 93, U 94, U 95, U 96, U 97, U 98, U 99, U 100, U 101, U 102, U 103, U 104, U 105, U 106, U 107, U 108, U 109, U 110, U 111, U 112, U 113, U 114, U 115, U 116, U 117, U 118, U 119, U 120, U 121, U 122, U 123, U 124, U 125, U 126, U 127, U 128, U 129, U 130, U 131, U 132, U 133, U 134, U 135, U 136, U 137, U 138], []⟩) ∧ RSt w r bs l.length c at_ q w' ∧ res = if t then F q (l.drop at_) else .bad (l.drop at_)
theorem rnumber_enter : Og.Enters Tryd.prog 90 := fun args w => by kernel_rfl
theorem rgens_enter : Og.Enters Tryd.prog 92 := fun args w => by kernel_rfl
theorem rsum_enter : Og.Enters Tryd.prog 93 := fun args w => by kernel_rfl
theorem rlay_enter : Og.Enters Tryd.prog 91 := fun args w => by kernel_rfl
end Go.Proofs.YtbgfoobcpacfeaaDoor
