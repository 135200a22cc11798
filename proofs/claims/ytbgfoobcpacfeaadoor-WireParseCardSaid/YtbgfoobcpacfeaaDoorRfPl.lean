/- The document's reading and writing of packets, and the program's: the same. (Printed by wip/w7gen/mkrfpl.py.) -/
import Derived.Test.YtbgfoobcpacfeaaDoorPk8
import Derived.Test.YtbgfoobcpacfeaaDoorRfEnc
import Derived.Test.YtbgfoobcpacfeaaDoorRfRd
import Derived.Test.YtbgfoobcpacfeaaDoorWPl4
namespace Go.Proofs.YtbgfoobcpacfeaaDoor
open Go.RowKit
set_option maxRecDepth 100000
set_option linter.unusedVariables false
set_option linter.unusedSimpArgs false
namespace Wi
def castS (l : List (Nat × Nat)) : List (Int × Int) := l.map fun s => ((s.1 : Int), (s.2 : Int))
theorem meetsI_cast (lo hi : Nat) : ∀ l, meetsI (castS l) (lo : Int) (hi : Int) = meets l lo hi
  | [] => rfl
  | s :: l => by
    have ih := meetsI_cast lo hi l
    unfold meetsI castS meets at *
    rw [List.map_cons, List.any_cons, List.any_cons, ih]
    congr 1
    rw [Bool.and_comm]
    congr 1 <;> simp
theorem rInside_cast (x : Nat) : ∀ l, rInside (x : Int) (castS l) = meets l x x
  | [] => rfl
  | s :: l => by
    have ih := rInside_cast x l
    unfold rInside castS meets at *
    rw [List.map_cons, List.any_cons, List.any_cons, ih]
    congr 1
    congr 1 <;> simp
theorem rNum_cast (s : List (Nat × Nat)) : ∀ (k v : Nat) (l : List UInt8), rNum (castS s) k v l = rdNum s k v l
  | 0, v, l => rfl
  | k + 1, v, [] => rfl
  | k + 1, v, c :: l => by
    rw [rNum, rdNum, meetsI_cast, rNum_cast s k]

def fnum (c k : Nat) : FuncId := ((fieldsOf c).findSome? fun x => match x with
  | .num j f => if j.toNat == k then some f else none
  | _ => none).getD 0
def fsum (c : Nat) : FuncId := ((fieldsOf c).findSome? fun x => match x with
  | .sum f => some f
  | _ => none).getD 0
def fdat (c : Nat) : FuncId := ((fieldsOf c).findSome? fun x => match x with
  | .dat f => some f
  | _ => none).getD 0
def tailD (c : Nat) : List Fd := if rHas c 128 then [.dat (fdat c)] else []
def tailS (c : Nat) : List Fd := if rHas c 64 then .sum (fsum c) :: tailD c else tailD c
def tailG (c : Nat) : List Fd := if rHas c 32 then .gens :: tailS c else tailS c
def numsFs (c : Nat) : Nat → List Fd
  | 0 => tailG c
  | n + 1 => if rHas c (2 ^ (4 - n)) then .num (4 - n : Nat) (fnum c (4 - n)) :: numsFs c n else numsFs c n
theorem cmds {c : Nat} (h1 : 1 ≤ c) (h2 : c < 26) : c = 1 ∨ c = 2 ∨ c = 3 ∨ c = 4 ∨ c = 5 ∨ c = 6 ∨ c = 7 ∨ c = 8 ∨ c = 9 ∨ c = 10 ∨ c = 11 ∨ c = 12 ∨ c = 13 ∨ c = 14 ∨ c = 15 ∨ c = 16 ∨ c = 17 ∨ c = 18 ∨ c = 19 ∨ c = 20 ∨ c = 21 ∨ c = 22 ∨ c = 23 ∨ c = 24 ∨ c = 25 := by omega
theorem shape {c : Nat} (h1 : 1 ≤ c) (h2 : c < 26) : fieldsOf (c : Nat) = numsFs c 5 := by
  rcases cmds h1 h2 with rfl | rfl | rfl | rfl | rfl | rfl | rfl | rfl | rfl | rfl | rfl | rfl | rfl | rfl | rfl | rfl | rfl | rfl | rfl | rfl | rfl | rfl | rfl | rfl | rfl
  all_goals kernel_rfl
theorem ks {k : Nat} (h : k < 5) : k = 0 ∨ k = 1 ∨ k = 2 ∨ k = 3 ∨ k = 4 := by omega
/-- What a number may be: the two tables agree. -/
theorem spans_num {c k : Nat} {p : Pk} (h1 : 1 ≤ c) (h2 : c < 26) (hk : k < 5) (hh : rHas c (2 ^ k) = true) (hb : c = 7 → k = 3 → p.block ≤ 63) : rNumbers (c : Nat) (2 ^ k : Nat) p = castS (spansOf (fnum c k) p) := by
  rcases cmds h1 h2 with rfl | rfl | rfl | rfl | rfl | rfl | rfl | rfl | rfl | rfl | rfl | rfl | rfl | rfl | rfl | rfl | rfl | rfl | rfl | rfl | rfl | rfl | rfl | rfl | rfl
  · rcases ks hk with rfl | rfl | rfl | rfl | rfl
    · kernel_rfl
    · exact absurd hh (by decide)
    · exact absurd hh (by decide)
    · kernel_rfl
    · kernel_rfl
  · rcases ks hk with rfl | rfl | rfl | rfl | rfl
    · exact absurd hh (by decide)
    · exact absurd hh (by decide)
    · exact absurd hh (by decide)
    · exact absurd hh (by decide)
    · exact absurd hh (by decide)
  · rcases ks hk with rfl | rfl | rfl | rfl | rfl
    · exact absurd hh (by decide)
    · exact absurd hh (by decide)
    · exact absurd hh (by decide)
    · exact absurd hh (by decide)
    · exact absurd hh (by decide)
  · rcases ks hk with rfl | rfl | rfl | rfl | rfl
    · exact absurd hh (by decide)
    · kernel_rfl
    · exact absurd hh (by decide)
    · kernel_rfl
    · kernel_rfl
  · rcases ks hk with rfl | rfl | rfl | rfl | rfl
    · exact absurd hh (by decide)
    · exact absurd hh (by decide)
    · exact absurd hh (by decide)
    · kernel_rfl
    · kernel_rfl
  · rcases ks hk with rfl | rfl | rfl | rfl | rfl
    · exact absurd hh (by decide)
    · exact absurd hh (by decide)
    · exact absurd hh (by decide)
    · exact absurd hh (by decide)
    · kernel_rfl
  · rcases ks hk with rfl | rfl | rfl | rfl | rfl
    · exact absurd hh (by decide)
    · kernel_rfl
    · exact absurd hh (by decide)
    · have hb := hb rfl rfl
      have e1 : rNumbers (7 : Nat) (2 ^ 3 : Nat) p = [(1, if 64 - ((p.block : Nat) : Int) > 8 then 8 else 64 - ((p.block : Nat) : Int))] := by kernel_rfl
      have e2 : castS (spansOf (fnum 7 3) p) = [(1, ((min 8 ((4294967360 - p.block) % 4294967296) : Nat) : Int))] := by kernel_rfl
      rw [e1, e2]
      congr 2
      split <;> omega
    · exact absurd hh (by decide)
  · rcases ks hk with rfl | rfl | rfl | rfl | rfl
    · kernel_rfl
    · kernel_rfl
    · kernel_rfl
    · exact absurd hh (by decide)
    · exact absurd hh (by decide)
  · rcases ks hk with rfl | rfl | rfl | rfl | rfl
    · kernel_rfl
    · kernel_rfl
    · kernel_rfl
    · exact absurd hh (by decide)
    · exact absurd hh (by decide)
  · rcases ks hk with rfl | rfl | rfl | rfl | rfl
    · kernel_rfl
    · kernel_rfl
    · exact absurd hh (by decide)
    · exact absurd hh (by decide)
    · exact absurd hh (by decide)
  · rcases ks hk with rfl | rfl | rfl | rfl | rfl
    · kernel_rfl
    · kernel_rfl
    · exact absurd hh (by decide)
    · exact absurd hh (by decide)
    · exact absurd hh (by decide)
  · rcases ks hk with rfl | rfl | rfl | rfl | rfl
    · kernel_rfl
    · kernel_rfl
    · exact absurd hh (by decide)
    · exact absurd hh (by decide)
    · kernel_rfl
  · rcases ks hk with rfl | rfl | rfl | rfl | rfl
    · exact absurd hh (by decide)
    · exact absurd hh (by decide)
    · kernel_rfl
    · kernel_rfl
    · exact absurd hh (by decide)
  · rcases ks hk with rfl | rfl | rfl | rfl | rfl
    · exact absurd hh (by decide)
    · exact absurd hh (by decide)
    · kernel_rfl
    · kernel_rfl
    · exact absurd hh (by decide)
  · rcases ks hk with rfl | rfl | rfl | rfl | rfl
    · kernel_rfl
    · kernel_rfl
    · exact absurd hh (by decide)
    · exact absurd hh (by decide)
    · kernel_rfl
  · rcases ks hk with rfl | rfl | rfl | rfl | rfl
    · kernel_rfl
    · kernel_rfl
    · exact absurd hh (by decide)
    · exact absurd hh (by decide)
    · exact absurd hh (by decide)
  · rcases ks hk with rfl | rfl | rfl | rfl | rfl
    · kernel_rfl
    · kernel_rfl
    · exact absurd hh (by decide)
    · exact absurd hh (by decide)
    · exact absurd hh (by decide)
  · rcases ks hk with rfl | rfl | rfl | rfl | rfl
    · kernel_rfl
    · kernel_rfl
    · exact absurd hh (by decide)
    · exact absurd hh (by decide)
    · exact absurd hh (by decide)
  · rcases ks hk with rfl | rfl | rfl | rfl | rfl
    · exact absurd hh (by decide)
    · exact absurd hh (by decide)
    · exact absurd hh (by decide)
    · kernel_rfl
    · exact absurd hh (by decide)
  · rcases ks hk with rfl | rfl | rfl | rfl | rfl
    · kernel_rfl
    · kernel_rfl
    · exact absurd hh (by decide)
    · exact absurd hh (by decide)
    · exact absurd hh (by decide)
  · rcases ks hk with rfl | rfl | rfl | rfl | rfl
    · kernel_rfl
    · kernel_rfl
    · exact absurd hh (by decide)
    · exact absurd hh (by decide)
    · kernel_rfl
  · rcases ks hk with rfl | rfl | rfl | rfl | rfl
    · exact absurd hh (by decide)
    · exact absurd hh (by decide)
    · exact absurd hh (by decide)
    · kernel_rfl
    · exact absurd hh (by decide)
  · rcases ks hk with rfl | rfl | rfl | rfl | rfl
    · exact absurd hh (by decide)
    · exact absurd hh (by decide)
    · exact absurd hh (by decide)
    · exact absurd hh (by decide)
    · exact absurd hh (by decide)
  · rcases ks hk with rfl | rfl | rfl | rfl | rfl
    · kernel_rfl
    · kernel_rfl
    · exact absurd hh (by decide)
    · exact absurd hh (by decide)
    · exact absurd hh (by decide)
  · rcases ks hk with rfl | rfl | rfl | rfl | rfl
    · kernel_rfl
    · kernel_rfl
    · exact absurd hh (by decide)
    · exact absurd hh (by decide)
    · kernel_rfl
theorem spans_dat {c : Nat} {p : Pk} (h1 : 1 ≤ c) (h2 : c < 26) (hh : rHas c 128 = true) : rLengths (c : Nat) p = castS (spansOf (fdat c) p) := by
  rcases cmds h1 h2 with rfl | rfl | rfl | rfl | rfl | rfl | rfl | rfl | rfl | rfl | rfl | rfl | rfl | rfl | rfl | rfl | rfl | rfl | rfl | rfl | rfl | rfl | rfl | rfl | rfl
  · exact absurd hh (by decide)
  · kernel_rfl
  · exact absurd hh (by decide)
  · exact absurd hh (by decide)
  · exact absurd hh (by decide)
  · exact absurd hh (by decide)
  · kernel_rfl
  · kernel_rfl
  · exact absurd hh (by decide)
  · exact absurd hh (by decide)
  · exact absurd hh (by decide)
  · exact absurd hh (by decide)
  · exact absurd hh (by decide)
  · exact absurd hh (by decide)
  · exact absurd hh (by decide)
  · exact absurd hh (by decide)
  · kernel_rfl
  · exact absurd hh (by decide)
  · exact absurd hh (by decide)
  · exact absurd hh (by decide)
  · exact absurd hh (by decide)
  · exact absurd hh (by decide)
  · exact absurd hh (by decide)
  · exact absurd hh (by decide)
  · have e1 : rLengths (25 : Nat) p = if p.flags = 0 then [(1, 1024)] else [(0, 0)] := by kernel_rfl
    have e2 : spansOf (fdat 25) p = if p.flags = 0 then [(1, 1024)] else [(0, 0)] := by kernel_rfl
    rw [e1, e2]
    split <;> rfl
theorem zero_sum {c : Nat} {p : Pk} (h1 : 1 ≤ c) (h2 : c < 26) (hh : rHas c 64 = true) : zeroOf (fsum c) p = (decide (c = 15) && decide (p.flags = 1)) := by
  rcases cmds h1 h2 with rfl | rfl | rfl | rfl | rfl | rfl | rfl | rfl | rfl | rfl | rfl | rfl | rfl | rfl | rfl | rfl | rfl | rfl | rfl | rfl | rfl | rfl | rfl | rfl | rfl
  · exact absurd hh (by decide)
  · exact absurd hh (by decide)
  · kernel_rfl
  · exact absurd hh (by decide)
  · exact absurd hh (by decide)
  · exact absurd hh (by decide)
  · exact absurd hh (by decide)
  · exact absurd hh (by decide)
  · exact absurd hh (by decide)
  · exact absurd hh (by decide)
  · exact absurd hh (by decide)
  · exact absurd hh (by decide)
  · exact absurd hh (by decide)
  · exact absurd hh (by decide)
  · have e : zeroOf (fsum 15) p = (p.flags == 1) := by kernel_rfl
    rw [e]
    rfl
  · exact absurd hh (by decide)
  · exact absurd hh (by decide)
  · exact absurd hh (by decide)
  · exact absurd hh (by decide)
  · kernel_rfl
  · exact absurd hh (by decide)
  · exact absurd hh (by decide)
  · exact absurd hh (by decide)
  · exact absurd hh (by decide)
  · exact absurd hh (by decide)

/-! Reading. -/
theorem rD_eq {c : Nat} (h1 : 1 ≤ c) (h2 : c < 26) (p : Pk) (l : List UInt8) : rD c p l = rdAll (tailD c) p l := by
  unfold rD tailD
  cases hh : rHas c 128
  · rfl
  · rw [if_pos rfl, if_pos rfl, rdAll, rdF, spans_dat h1 h2 hh, rNum_cast]
    cases rdNum (spansOf (fdat c) p) 2 0 l with
    | ok n r =>
      simp only
      split <;> rfl
    | bad r => rfl
theorem rS_eq {c : Nat} (h1 : 1 ≤ c) (h2 : c < 26) (p : Pk) (l : List UInt8) : rS c p l = rdAll (tailS c) p l := by
  unfold rS tailS
  cases hh : rHas c 64
  · exact rD_eq h1 h2 p l
  · rw [if_pos rfl, if_pos rfl, rdAll, rdF, zero_sum h1 h2 hh]
    cases rdSum (decide (c = 15) && decide (p.flags = 1)) 32 l with
    | ok s r => exact rD_eq h1 h2 _ r
    | bad r => rfl
theorem rG_eq {c : Nat} (h1 : 1 ≤ c) (h2 : c < 26) (p : Pk) (l : List UInt8) : rG c p l = rdAll (tailG c) p l := by
  unfold rG tailG
  cases hh : rHas c 32
  · exact rS_eq h1 h2 p l
  · rw [if_pos rfl, if_pos rfl, rdAll, rdF]
    by_cases h : l.length < 32
    · rw [if_pos h, if_pos h]
    · rw [if_neg h, if_neg h]
      exact rS_eq h1 h2 _ _
theorem block7 {p : Pk} {l r : List UInt8} {v : Nat} (h : rdNum (spansOf (fnum 7 1) p) 4 0 l = .ok v r) : v ≤ 63 := by
  obtain ⟨_, _, _, _, hm⟩ := rdNum_inv _ 4 0 l v r h
  have hm := hm (by decide)
  have e : spansOf (fnum 7 1) p = [(0, 63)] := by kernel_rfl
  rw [e] at hm
  simpa [meets] using hm
theorem rN_eq {c : Nat} (h1 : 1 ≤ c) (h2 : c < 26) : ∀ (n : Nat) (p : Pk) (l : List UInt8), n ≤ 5 → (c = 7 → n ≤ 3 → p.block ≤ 63) → rN c n p l = rdAll (numsFs c n) p l
  | 0, p, l, _, _ => rG_eq h1 h2 p l
  | n + 1, p, l, hn, hb => by
    rw [rN, numsFs, rF]
    cases hh : rHas c (2 ^ (4 - n))
    · refine rN_eq h1 h2 n p l (by omega) fun hc hn3 => ?_
      subst hc
      by_cases h3 : n = 3
      · subst h3; exact absurd hh (by decide)
      · exact hb rfl (by omega)
    · rw [if_pos rfl, if_pos rfl, rdAll, rdF, spans_num h1 h2 (by omega) hh (fun hc hk => hb hc (by omega)), rNum_cast]
      cases hq : rdNum (spansOf (fnum c (4 - n)) p) 4 0 l with
      | ok v r =>
        refine rN_eq h1 h2 n _ r (by omega) fun hc hn3 => ?_
        subst hc
        by_cases h3 : n = 3
        · subst h3
          have := block7 hq
          exact this
        · have := hb rfl (by omega)
          unfold Pk.setNum
          repeat' split
          all_goals first | exact this | omega
      | bad r => rfl
/-- What the document reads is what the program reads. -/
theorem rRest_eq {c : Nat} (h1 : 1 ≤ c) (h2 : c < 26) (l : List UInt8) : rRest c l = rdAll (fieldsOf (c : Nat)) (Pk.zero c) l := by
  unfold rRest
  rw [shape h1 h2]
  exact rN_eq h1 h2 5 _ l (Nat.le_refl 5) (fun _ h => by omega)

/-! Writing. -/
theorem flatMap_if {α β : Type} (b : Bool) (x : α) (l : List α) (f : α → List β) : (if b = true then x :: l else l).flatMap f = (if b = true then f x else []) ++ l.flatMap f := by cases b <;> simp
theorem mem_if {α : Type} (b : Bool) (x y : α) (l : List α) : y ∈ (if b = true then x :: l else l) ↔ (b = true ∧ y = x) ∨ y ∈ l := by cases b <;> simp
theorem mem_fs {c : Nat} {x : Fd} : x ∈ numsFs c 5 ↔ (∃ k : Nat, k < 5 ∧ rHas c (2 ^ k) = true ∧ x = .num (k : Nat) (fnum c k)) ∨ (rHas c 32 = true ∧ x = .gens) ∨ (rHas c 64 = true ∧ x = .sum (fsum c)) ∨ (rHas c 128 = true ∧ x = .dat (fdat c)) := by
  simp only [numsFs, tailG, tailS, tailD, mem_if, List.not_mem_nil, or_false]
  constructor
  · rintro (⟨h, e⟩ | ⟨h, e⟩ | ⟨h, e⟩ | ⟨h, e⟩ | ⟨h, e⟩ | h | h | h)
    · exact .inl ⟨0, by omega, h, e⟩
    · exact .inl ⟨1, by omega, h, e⟩
    · exact .inl ⟨2, by omega, h, e⟩
    · exact .inl ⟨3, by omega, h, e⟩
    · exact .inl ⟨4, by omega, h, e⟩
    · exact .inr (.inl h)
    · exact .inr (.inr (.inl h))
    · exact .inr (.inr (.inr h))
  · rintro (⟨k, hk, h, e⟩ | h | h | h)
    · rcases ks hk with rfl | rfl | rfl | rfl | rfl
      · exact .inl ⟨h, e⟩
      · exact .inr (.inl ⟨h, e⟩)
      · exact .inr (.inr (.inl ⟨h, e⟩))
      · exact .inr (.inr (.inr (.inl ⟨h, e⟩)))
      · exact .inr (.inr (.inr (.inr (.inl ⟨h, e⟩))))
    · exact .inr (.inr (.inr (.inr (.inr (.inl h)))))
    · exact .inr (.inr (.inr (.inr (.inr (.inr (.inl h))))))
    · exact .inr (.inr (.inr (.inr (.inr (.inr (.inr h))))))
theorem packed_eq {p : Pk} {c : Nat} (hc : p.cmd = c) (h1 : 1 ≤ c) (h2 : c < 26) : packed p = rBytes p c := by
  unfold packed rBytes
  rw [hc, shape h1 h2]
  congr 1
  · unfold cmdByte
    congr 1
    omega
  · simp only [numsFs, tailG, tailS, tailD, flatMap_if, List.flatMap_nil, List.append_nil, wrF, rB5, rBG, rBS, rBD]
    simp [List.range, List.range.loop]
theorem eqk_num {p : Pk} {k : Nat} (hk : k < 5) (c : Int) : Eqk k p (Pk.zero c) ↔ p.num k = 0 := by
  rcases ks hk with rfl | rfl | rfl | rfl | rfl
  all_goals exact Iff.rfl
/-- Does the packet fit: the same by both. -/
theorem fits_iff {p : Pk} {c : Nat} (h1 : 1 ≤ c) (h2 : c < 26) : rFits p c = true ↔ (∀ x ∈ numsFs c 5, okF p x = true) ∧ (∀ k, k < 7 → (∃ x ∈ numsFs c 5, k = key x) ∨ Eqk k p (Pk.zero c)) ∧ (rHas c 128 = false → p.data = []) := by
  unfold rFits
  simp only [Bool.and_eq_true, List.all_eq_true, List.mem_range]
  constructor
  · rintro ⟨⟨⟨hN, hG⟩, hS⟩, hD⟩
    have hblk : c = 7 → p.block ≤ 63 := by
      intro e
      subst e
      have h := hN 1 (by decide)
      unfold rOkN at h
      rw [show rHas 7 (2 ^ 1) = true by decide, if_pos rfl, spans_num h1 h2 (by decide) (by decide) (fun _ h => by cases h), rInside_cast] at h
      have e : spansOf (fnum 7 1) p = [(0, 63)] := by kernel_rfl
      rw [e, show p.num ((1 : Nat) : Int) = p.block from rfl] at h
      simpa [meets] using h
    refine ⟨fun x hx => ?_, fun k hk => ?_, fun hd => ?_⟩
    · rcases mem_fs.1 hx with ⟨k, hk, hh, rfl⟩ | ⟨hh, rfl⟩ | ⟨hh, rfl⟩ | ⟨hh, rfl⟩
      · have h := hN k hk
        unfold rOkN at h
        rw [hh, if_pos rfl, spans_num h1 h2 hk hh (fun e _ => hblk e), rInside_cast] at h
        exact h
      · rfl
      · unfold rOkS at hS
        rw [hh] at hS
        show (!zeroOf (fsum c) p || decide (p.sum = zeros)) = true
        rw [zero_sum h1 h2 hh]
        rw [Bool.true_and] at hS
        by_cases a : c = 15
        · by_cases b : p.flags = 1
          · subst a; simpa [b] using hS
          · simp [b]
        · simp [a]
      · unfold rOkD at hD
        rw [hh, if_pos rfl, spans_dat h1 h2 hh, rInside_cast] at hD
        exact hD
    · by_cases hk5 : k < 5
      · cases hh : rHas c (2 ^ k)
        · right
          have h := hN k hk5
          unfold rOkN at h
          rw [hh, if_neg (by decide)] at h
          rw [eqk_num hk5]
          simpa using h
        · exact .inl ⟨_, mem_fs.2 (.inl ⟨k, hk5, hh, rfl⟩), by simp [key]⟩
      · rcases (show k = 5 ∨ k = 6 by omega) with rfl | rfl
        · cases hh : rHas c 32
          · right
            unfold rOkG at hG
            rw [hh] at hG
            simp at hG
            exact ⟨hG.1.1.1, hG.1.1.2, hG.1.2, hG.2⟩
          · exact .inl ⟨_, mem_fs.2 (.inr (.inl ⟨hh, rfl⟩)), rfl⟩
        · cases hh : rHas c 64
          · right
            unfold rOkS at hS
            rw [hh] at hS
            simp at hS
            exact hS
          · exact .inl ⟨_, mem_fs.2 (.inr (.inr (.inl ⟨hh, rfl⟩))), rfl⟩
    · unfold rOkD at hD
      rw [hd, if_neg (by decide)] at hD
      simpa using hD
  · rintro ⟨ha, hp, hd⟩
    have hblk : c = 7 → p.block ≤ 63 := by
      intro e
      subst e
      have h := ha _ (mem_fs.2 (.inl ⟨1, by decide, by decide, rfl⟩))
      replace h : meets (spansOf (fnum 7 1) p) p.block p.block = true := h
      have e : spansOf (fnum 7 1) p = [(0, 63)] := by kernel_rfl
      rw [e] at h
      simpa [meets] using h
    have hnot : ∀ k, k < 5 → rHas c (2 ^ k) = false → ¬ ∃ x ∈ numsFs c 5, k = key x := by
      rintro k hk hh ⟨x, hx, e⟩
      rcases mem_fs.1 hx with ⟨j, hj, hhj, rfl⟩ | ⟨_, rfl⟩ | ⟨_, rfl⟩ | ⟨_, rfl⟩
      · have : k = j := by simpa [key] using e
        subst this
        rw [hh] at hhj; cases hhj
      · have : k = 5 := e; omega
      · have : k = 6 := e; omega
      · have : k = 7 := e; omega
    refine ⟨⟨⟨fun k hk => ?_, ?_⟩, ?_⟩, ?_⟩
    · unfold rOkN
      cases hh : rHas c (2 ^ k)
      · rw [if_neg (by decide)]
        rcases hp k (by omega) with h | h
        · exact absurd h (hnot k hk hh)
        · rw [eqk_num hk] at h
          simp [h]
      · rw [if_pos rfl, spans_num h1 h2 hk hh (fun e _ => hblk e), rInside_cast]
        exact ha _ (mem_fs.2 (.inl ⟨k, hk, hh, rfl⟩))
    · unfold rOkG
      cases hh : rHas c 32
      · rcases hp 5 (by decide) with ⟨x, hx, e⟩ | h
        · rcases mem_fs.1 hx with ⟨j, hj, hhj, rfl⟩ | ⟨h', rfl⟩ | ⟨_, rfl⟩ | ⟨_, rfl⟩
          · have : 5 = j := by simpa [key] using e
            omega
          · rw [hh] at h'; cases h'
          · cases e
          · cases e
        · obtain ⟨a, b, d, e⟩ := h
          have z : (Pk.zero c).g1 = 0 ∧ (Pk.zero c).g2 = 0 ∧ (Pk.zero c).g3 = 0 ∧ (Pk.zero c).g4 = 0 := ⟨rfl, rfl, rfl, rfl⟩
          rw [z.1] at a; rw [z.2.1] at b; rw [z.2.2.1] at d; rw [z.2.2.2] at e
          simp [a, b, d, e]
      · rfl
    · unfold rOkS
      cases hh : rHas c 64
      · rcases hp 6 (by decide) with ⟨x, hx, e⟩ | h
        · rcases mem_fs.1 hx with ⟨j, hj, hhj, rfl⟩ | ⟨_, rfl⟩ | ⟨h', rfl⟩ | ⟨_, rfl⟩
          · have : 6 = j := by simpa [key] using e
            omega
          · cases e
          · rw [hh] at h'; cases h'
          · cases e
        · have h : p.sum = zeros := h
          simp [h]
      · have h := ha _ (mem_fs.2 (.inr (.inr (.inl ⟨hh, rfl⟩))))
        replace h : (!zeroOf (fsum c) p || decide (p.sum = zeros)) = true := h
        rw [zero_sum h1 h2 hh] at h
        rw [Bool.true_and]
        by_cases a : c = 15
        · by_cases b : p.flags = 1
          · subst a; simpa [b] using h
          · have : ¬ ((p.flags : Nat) : Int) = 1 := by omega
            simp [this]
        · have : ¬ ((c : Nat) : Int) = 15 := by omega
          simp [this]
    · unfold rOkD
      cases hh : rHas c 128
      · rw [if_neg (by decide), hd hh]
        rfl
      · rw [if_pos rfl, spans_dat h1 h2 hh, rInside_cast]
        exact ha _ (mem_fs.2 (.inr (.inr (.inr ⟨hh, rfl⟩))))
theorem holdsD_fs {c : Nat} : holdsD (numsFs c 5) = rHas c 128 := by
  unfold holdsD
  cases hh : rHas c 128
  · rw [List.any_eq_false]
    intro x hx
    rcases mem_fs.1 hx with ⟨j, hj, hhj, rfl⟩ | ⟨_, rfl⟩ | ⟨_, rfl⟩ | ⟨h, rfl⟩
    · exact Bool.false_ne_true
    · exact Bool.false_ne_true
    · exact Bool.false_ne_true
    · rw [hh] at h; cases h
  · rw [List.any_eq_true]
    exact ⟨_, mem_fs.2 (.inr (.inr (.inr ⟨hh, rfl⟩))), rfl⟩
theorem err_eq (p : Pk) : rErr p = packErr p := by
  unfold rErr packErr
  by_cases hk : 1 ≤ p.cmd ∧ p.cmd ≤ 25
  · obtain ⟨c, hc⟩ : ∃ c : Nat, p.cmd = c := ⟨p.cmd.toNat, by omega⟩
    have h1 : 1 ≤ c := by omega
    have h2 : c < 26 := by omega
    have hkb : ¬ knownB p.cmd = false := by
      rw [hc]
      unfold knownB
      simp
      omega
    rw [if_pos hk, if_neg hkb, show p.cmd.toNat = c by omega, hc, shape h1 h2, holdsD_fs]
    have hnum : ∀ x ∈ numsFs c 5, numOk x = true := fun x hx => by
      have hkb' : knownB (c : Nat) = true := by rw [← hc]; simpa using hkb
      exact ((fields_good hkb').2 x (by rw [shape h1 h2]; exact hx)).1
    have hpl : plain ((numsFs c 5).foldl clearF p) = true ↔ ∀ k, k < 7 → (∃ x ∈ numsFs c 5, k = key x) ∨ Eqk k p (Pk.zero c) := by
      rw [plain_iff _ (c : Nat)]
      constructor
      · intro h k hk
        by_cases e : ∃ x ∈ numsFs c 5, k = key x
        · exact .inl e
        · exact .inr ((clear_same _ p hnum k (fun x hx he => e ⟨x, hx, he⟩)).symm.trans (h k hk))
      · intro h k hk
        exact clear_all _ _ p hnum k (h k hk)
    have hf := fits_iff (p := p) h1 h2
    cases hfit : rFits p c
    · rw [hfit] at hf
      rw [if_neg (by decide)]
      by_cases ha : (numsFs c 5).all (okF p) = false
      · rw [if_pos ha]
      · rw [if_neg ha]
        by_cases hb : plain ((numsFs c 5).foldl clearF p) = false
        · rw [if_pos hb]
        · rw [if_neg hb]
          by_cases hd : 0 < p.data.length ∧ rHas c 128 = false
          · rw [if_pos hd]
          · exfalso
            have : false = true := hf.2 ⟨by simpa using ha, hpl.1 (by simpa using hb), fun h => by
              cases hdd : p.data with
              | nil => rfl
              | cons d r => exact absurd ⟨by rw [hdd]; simp, h⟩ hd⟩
            cases this
    · obtain ⟨a, b, d⟩ := hf.1 hfit
      rw [if_pos rfl, if_neg (by simpa using a), if_neg (by rw [hpl.2 b]; decide), if_neg]
      rintro ⟨e1, e2⟩
      rw [d e2] at e1
      exact absurd e1 (by decide)
  · rw [if_neg hk, if_pos]
    unfold knownB
    simp
    omega
theorem out_eq (p : Pk) : rOut p = packOut p := by
  unfold rOut packOut
  rw [err_eq]
  by_cases h : packErr p = 0
  · rw [if_pos h, if_pos h]
    have hk := (packErr_ok h).1
    obtain ⟨h1, h2⟩ : 1 ≤ p.cmd ∧ p.cmd < 26 := by simpa [knownB] using hk
    exact (packed_eq (c := p.cmd.toNat) (by omega) (by omega) (by omega)).symm
  · rw [if_neg h, if_neg h]
end Wi
end Go.Proofs.YtbgfoobcpacfeaaDoor
