/- The identifiers tell the truth: the verdict of each shape. No program in sight. -/
import Derived.Test.YtboanmhibbhceaaTruthLaw
namespace Go.Proofs.Ytboanmhibbhceaa
set_option linter.unusedVariables false
namespace Truth

def disk (w : Bool) : Int := if w = true then 2 else 0
def within (x y : List Int) : Bool := x.all fun e => y.contains e
theorem within_true {x y : List Int} : within x y = true ↔ ∀ e, e ∈ x → e ∈ y := by simp [within]
theorem within_false {x y : List Int} : within x y = false ↔ ∃ e, e ∈ x ∧ e ∉ y := by
  rw [← Bool.not_eq_true, within_true]; simp

/-- Node 0's verdict, settled by the disks. -/
def verdict (a b : Nd) : Int × Int × Int := Spec.settle (Spec.first a.g false b.g false).1 (Spec.first a.g false b.g false).2 (disk a.whole) (disk b.whole)
/-- What the data ask for, seen from a. -/
def truth (a b : Nd) : Int :=
  if a.whole = false ∧ b.whole = false then 4 else if b.whole = false then 1 else if a.whole = false then 2
  else if within b.has a.has = true ∧ within a.has b.has = true then 0 else if within b.has a.has = true then 1 else if within a.has b.has = true then 2 else 3

theorem ne_beq {x y : Int} (h : x ≠ y) : (x == y) = false := by simpa using h
theorem mtch_ne {x y : Int} (h : x ≠ y) : Spec.mtch x y = false := by unfold Spec.mtch; rw [ne_beq h]; rfl
theorem mtch_self {x : Int} (h : ok x) : Spec.mtch x x = true := by unfold Spec.mtch; simp [h.1, h.2]
theorem mtch_zero (x : Int) : Spec.mtch 0 x = false := by unfold Spec.mtch; simp
theorem old_ne {x : Int} {g : G} (h1 : x ≠ g.o) (h2 : x ≠ g.p) : Spec.old x g = false := by unfold Spec.old; rw [mtch_ne h1, mtch_ne h2]; rfl

variable {a b : Nd}

theorem Synced.verdict (h : Synced a b) : verdict a b = (0, 6, 0) := by
  have n1 : Spec.isNew a.g = false := isNew_no h.okc
  have n2 : Spec.isNew b.g = false := isNew_no (by rw [← h.c]; exact h.okc)
  have q : (a.g.c == b.g.c) = true := by simpa using h.c
  have b1 : (a.g.b != 0) = false := by simpa using h.mb
  have b2 : (b.g.b != 0) = false := by simpa using h.nb
  have e : Spec.first a.g false b.g false = (0, 6) := by unfold Spec.first; rw [n1, n2, q, b1, b2]
  unfold Truth.verdict
  rw [e, h.mw, h.nw]; rfl

theorem Ahead.first (h : Ahead a b) : Spec.first a.g false b.g false = (1, 9) := by
  have n1 : Spec.isNew a.g = false := isNew_no h.okc
  have n2 : Spec.isNew b.g = false := isNew_no (by rw [← h.b]; exact h.okb)
  have q : (a.g.c == b.g.c) = false := ne_beq h.c
  have m1 : Spec.mtch a.g.b b.g.c = true := by rw [h.b]; exact mtch_self (by rw [← h.b]; exact h.okb)
  have m2 : Spec.mtch b.g.b a.g.c = false := by rw [h.nb]; exact mtch_zero _
  unfold Spec.first; rw [n1, n2, q, m1, m2]
theorem Ahead.first' (h : Ahead b a) : Spec.first a.g false b.g false = (2, 9) := by
  have n1 : Spec.isNew b.g = false := isNew_no h.okc
  have n2 : Spec.isNew a.g = false := isNew_no (by rw [← h.b]; exact h.okb)
  have q : (a.g.c == b.g.c) = false := ne_beq h.c.symm
  have m1 : Spec.mtch b.g.b a.g.c = true := by rw [h.b]; exact mtch_self (by rw [← h.b]; exact h.okb)
  have m2 : Spec.mtch a.g.b b.g.c = false := by rw [h.nb]; exact mtch_zero _
  unfold Spec.first; rw [n1, n2, q, m1, m2]
theorem Ahead.verdict (h : Ahead a b) : verdict a b = (1, 9, 0) := by unfold Truth.verdict; rw [h.first, h.mw, h.nw]; rfl
theorem Ahead.verdict' (h : Ahead b a) : Truth.verdict a b = (2, 9, 0) := by unfold Truth.verdict; rw [h.first', h.mw, h.nw]; rfl

theorem Both.verdict (h : Both a b) : verdict a b = (5, 12, 0) := by
  have n1 : Spec.isNew a.g = false := isNew_no h.okm
  have n2 : Spec.isNew b.g = false := isNew_no h.okn
  have q : (a.g.c == b.g.c) = false := ne_beq h.c
  have m1 : Spec.mtch a.g.b b.g.c = false := mtch_ne h.ncb.symm
  have m2 : Spec.mtch b.g.b a.g.c = false := by rw [← h.b]; exact mtch_ne h.mcb.symm
  have o1 : Spec.old b.g.c a.g = false := old_ne h.no h.np
  have o2 : Spec.old a.g.c b.g = false := old_ne h.mo h.mp
  have e : Spec.first a.g false b.g false = (5, 12) := by
    unfold Spec.first; rw [n1, n2, q, m1, m2, o1, o2]
    show Spec.apart a.g b.g = (5, 12)
    unfold Spec.apart
    rw [if_pos (by rw [← h.b]; exact mtch_self h.okb)]
  unfold Truth.verdict
  rw [e, h.mw, h.nw]; rfl

theorem New.verdict (h : New a b) : verdict a b = (0, 1, 0) := by
  have n1 : Spec.isNew a.g = true := by unfold Spec.isNew; rw [h.mc]; rfl
  have n2 : Spec.isNew b.g = true := by unfold Spec.isNew; rw [h.nc]; rfl
  have e : Spec.first a.g false b.g false = (0, 1) := by unfold Spec.first; rw [n1, n2]
  unfold Truth.verdict
  rw [e, h.mw, h.nw]; rfl

/-- Unrelated: no rule before the fourteenth. -/
theorem first_seven {g h : G} (e : (Spec.first g false h false).1 = 7) : Spec.isNew g = false ∧ Spec.isNew h = false ∧ Spec.mtch g.b h.c = false ∧ Spec.mtch h.b g.c = false ∧ Spec.old h.c g = false ∧ Spec.old g.c h = false := by
  unfold Spec.first at e
  split at e <;> first | (exfalso; revert e; decide) | (refine ⟨?_, ?_, ?_, ?_, ?_, ?_⟩ <;> assumption)

theorem first_range (g h : G) (gx hx : Bool) : 0 ≤ (Spec.first g gx h hx).1 ∧ (Spec.first g gx h hx).1 ≤ 7 ∧ 1 ≤ (Spec.first g gx h hx).2 ∧ (Spec.first g gx h hx).2 ≤ 14 := by
  have ha : ∀ g h, 0 ≤ (Spec.apart g h).1 ∧ (Spec.apart g h).1 ≤ 7 ∧ 1 ≤ (Spec.apart g h).2 ∧ (Spec.apart g h).2 ≤ 14 := by
    intro g h
    unfold Spec.apart
    split
    · decide
    · split <;> decide
  unfold Spec.first
  split
  all_goals first | decide | exact ha g h

theorem settle_own {k r : Int} (h0 : 0 ≤ k) (h7 : k ≤ 7) (hn : k ≠ 7) (hr : 1 ≤ r) : ∃ z, 1 ≤ z ∧ (Spec.settle k r 2 0 = (1, z, 0) ∨ Spec.settle k r 2 0 = (3, z, 0)) := by
  have hk : k = 0 ∨ k = 1 ∨ k = 2 ∨ k = 3 ∨ k = 4 ∨ k = 5 ∨ k = 6 := by omega
  rcases hk with rfl | rfl | rfl | rfl | rfl | rfl | rfl
  · exact ⟨20, by decide, .inl rfl⟩
  · exact ⟨r, hr, .inl rfl⟩
  · exact ⟨20, by decide, .inl rfl⟩
  · exact ⟨r, hr, .inr rfl⟩
  · exact ⟨20, by decide, .inr rfl⟩
  · exact ⟨20, by decide, .inl rfl⟩
  · exact ⟨20, by decide, .inr rfl⟩
theorem settle_peer {k r : Int} (h0 : 0 ≤ k) (h7 : k ≤ 7) (hn : k ≠ 7) (hr : 1 ≤ r) : ∃ z, 1 ≤ z ∧ (Spec.settle k r 0 2 = (2, z, 0) ∨ Spec.settle k r 0 2 = (4, z, 0)) := by
  have hk : k = 0 ∨ k = 1 ∨ k = 2 ∨ k = 3 ∨ k = 4 ∨ k = 5 ∨ k = 6 := by omega
  rcases hk with rfl | rfl | rfl | rfl | rfl | rfl | rfl
  · exact ⟨20, by decide, .inl rfl⟩
  · exact ⟨20, by decide, .inl rfl⟩
  · exact ⟨r, hr, .inl rfl⟩
  · exact ⟨20, by decide, .inr rfl⟩
  · exact ⟨r, hr, .inr rfl⟩
  · exact ⟨20, by decide, .inl rfl⟩
  · exact ⟨20, by decide, .inr rfl⟩

theorem old_self {x : Int} {g : G} (h : ok x) (e : g.o = x) : Spec.old x g = true := by unfold Spec.old; rw [e, mtch_self h]; rfl

theorem Half.verdict (h : Half a b) : ∃ z, 1 ≤ z ∧ (verdict a b = (1, z, 0) ∨ verdict a b = (3, z, 0)) := by
  obtain ⟨r0, r7, z1, _⟩ := first_range a.g b.g false false
  have hn : (Spec.first a.g false b.g false).1 ≠ 7 := fun e => by
    obtain ⟨_, e2, e3, _, e5, _⟩ := first_seven e
    rcases h.rel with r | ⟨ro, r | r⟩
    · unfold Spec.isNew at e2; rw [r] at e2; cases e2
    · rw [r, mtch_self ro] at e3; cases e3
    · rw [old_self ro r] at e5; cases e5
  unfold Truth.verdict
  rw [h.mw, h.nw]
  exact settle_own r0 r7 hn z1
theorem Half.verdict' (h : Half b a) : ∃ z, 1 ≤ z ∧ (Truth.verdict a b = (2, z, 0) ∨ Truth.verdict a b = (4, z, 0)) := by
  obtain ⟨r0, r7, z1, _⟩ := first_range a.g b.g false false
  have hn : (Spec.first a.g false b.g false).1 ≠ 7 := fun e => by
    obtain ⟨e1, _, _, e4, _, e6⟩ := first_seven e
    rcases h.rel with r | ⟨ro, r | r⟩
    · unfold Spec.isNew at e1; rw [r] at e1; cases e1
    · rw [r, mtch_self ro] at e4; cases e4
    · rw [old_self ro r] at e6; cases e6
  unfold Truth.verdict
  rw [h.mw, h.nw]
  exact settle_peer r0 r7 hn z1

/-! ### the truth of each shape -/
theorem Synced.truth (h : Synced a b) : truth a b = 0 := by
  unfold Truth.truth
  rw [if_neg (by rw [h.mw]; rintro ⟨h, _⟩; cases h), if_neg (by rw [h.nw]; decide), if_neg (by rw [h.mw]; decide), if_pos ⟨within_true.2 fun e he => (h.has e).2 he, within_true.2 fun e he => (h.has e).1 he⟩]
theorem Ahead.truth (h : Ahead a b) : truth a b = 1 := by
  unfold Truth.truth
  have h1 : within b.has a.has = true := within_true.2 h.sub
  have h2 : within a.has b.has = false := within_false.2 h.more
  rw [if_neg (by rw [h.mw]; rintro ⟨h, _⟩; cases h), if_neg (by rw [h.nw]; decide), if_neg (by rw [h.mw]; decide), if_neg (by rw [h2]; rintro ⟨_, h⟩; cases h), if_pos h1]
theorem Ahead.truth' (h : Ahead b a) : Truth.truth a b = 2 := by
  unfold Truth.truth
  have h1 : within a.has b.has = true := within_true.2 h.sub
  have h2 : within b.has a.has = false := within_false.2 h.more
  rw [if_neg (by rw [h.mw]; rintro ⟨_, h⟩; cases h), if_neg (by rw [h.mw]; decide), if_neg (by rw [h.nw]; decide), if_neg (by rw [h2]; rintro ⟨h, _⟩; cases h), if_neg (by rw [h2]; decide), if_pos h1]
theorem Both.truth (h : Both a b) : truth a b = 3 := by
  unfold Truth.truth
  have h1 : within b.has a.has = false := within_false.2 h.nmore
  have h2 : within a.has b.has = false := within_false.2 h.mmore
  rw [if_neg (by rw [h.mw]; rintro ⟨h, _⟩; cases h), if_neg (by rw [h.nw]; decide), if_neg (by rw [h.mw]; decide), if_neg (by rw [h2]; rintro ⟨_, h⟩; cases h), if_neg (by rw [h1]; decide), if_neg (by rw [h2]; decide)]
theorem Half.truth (h : Half a b) : truth a b = 1 := by
  unfold Truth.truth
  rw [if_neg (by rw [h.mw]; rintro ⟨h, _⟩; cases h), if_pos h.nw]
theorem Half.truth' (h : Half b a) : Truth.truth a b = 2 := by
  unfold Truth.truth
  rw [if_neg (by rw [h.mw]; rintro ⟨_, h⟩; cases h), if_neg (by rw [h.mw]; decide), if_pos h.nw]
theorem New.truth (h : New a b) : truth a b = 4 := by
  unfold Truth.truth
  rw [if_pos ⟨h.mw, h.nw⟩]
end Truth
end Go.Proofs.Ytboanmhibbhceaa
