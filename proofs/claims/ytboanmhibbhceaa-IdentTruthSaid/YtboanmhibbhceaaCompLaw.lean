/- The program's first rule that answers is the document's verdict. No program in sight. -/
import Derived.Test.YtboanmhibbhceaaRefComp3
import Derived.Test.YtboanmhibbhceaaComp
namespace Go.Proofs.Ytboanmhibbhceaa
open Go.RowKit
set_option linter.unusedVariables false
set_option linter.unusedSimpArgs false

theorem mtch_comm (x y : Int) : Spec.mtch x y = Spec.mtch y x := by
  unfold Spec.mtch
  by_cases h : x = y
  · subst h; rfl
  · have a : (x == y) = false := by simpa using h
    have b : (y == x) = false := by simpa using fun e : y = x => h e.symm
    rw [a, b]; rfl

theorem or9 (a b c d e f g h i : Bool) : ((a || (b || c)) || (d || (e || f)) || (g || (h || i))) = ((a || (d || g)) || (b || (e || h)) || (c || (f || i))) := by
  cases a <;> cases b <;> cases c <;> cases d <;> cases e <;> cases f <;> cases g <;> cases h <;> cases i <;> rfl

theorem shared_comm (g h : G) : (Spec.rel g.b h || Spec.rel g.o h || Spec.rel g.p h) = (Spec.rel h.b g || Spec.rel h.o g || Spec.rel h.p g) := by
  unfold Spec.rel Spec.old
  rw [or9, mtch_comm g.b h.b, mtch_comm g.o h.b, mtch_comm g.p h.b, mtch_comm g.b h.o, mtch_comm g.o h.o, mtch_comm g.p h.o, mtch_comm g.b h.p, mtch_comm g.o h.p, mtch_comm g.p h.p]

theorem alike_of (g h : G) : Spec.mtch g.c h.c = ((g.c == h.c) && !Spec.isNew g) := by
  unfold Spec.mtch Spec.isNew
  cases g.c == h.c <;> simp [bne]

theorem apart_comm (g h : G) : Spec.apart h g = Spec.apart g h := by
  unfold Spec.apart
  rw [mtch_comm h.b g.b, shared_comm h g]

theorem apart_eq {fi gx hx : Bool} {g h : G} : (if (Spec.sameBitmap ⟨fi, g, gx, h, hx⟩ != -1) = true then (Spec.sameBitmap ⟨fi, g, gx, h, hx⟩, (12 : Int)) else if (Spec.related ⟨fi, g, gx, h, hx⟩ != -1) = true then (Spec.related ⟨fi, g, gx, h, hx⟩, 13) else (7, 14)) = Spec.apart g h := by
  unfold Spec.apart Spec.sameBitmap Spec.related
  cases Spec.mtch g.b h.b <;> cases Spec.rel g.b h <;> cases Spec.rel g.o h <;> cases Spec.rel g.p h <;> simp

theorem apart_vals (g h : G) : Spec.mirror (Spec.apart g h).1 = (Spec.apart g h).1 := by
  unfold Spec.apart
  split
  · rfl
  · split <;> rfl

theorem none_of (g h : G) : (g.b = 0 ∧ h.b = 0) ↔ ((g.b != 0) = false ∧ (h.b != 0) = false) := by simp

theorem cmp_own (g h : G) (gx hx : Bool) : Spec.compare ⟨true, g, gx, h, hx⟩ = Spec.first g gx h hx := by
  unfold Spec.compare
  rw [apart_eq]
  unfold Spec.first
  simp only [Spec.bothNew, Spec.oneNew, Spec.oneCrashed, Spec.bothCrashed, Spec.oneCounts, Spec.noneCounts, Spec.bothCount, Spec.bothAhead, Spec.oneAhead, Spec.bothBehind, Spec.oneBehind, none_of, alike_of g h]
  generalize Spec.apart g h = ap
  generalize Spec.isNew g = n1
  generalize Spec.isNew h = n2
  generalize (g.c == h.c) = q
  generalize (g.b != 0) = b1
  generalize (h.b != 0) = b2
  generalize Spec.mtch g.b h.c = m1
  generalize Spec.mtch h.b g.c = m2
  generalize Spec.old g.c h = o1
  generalize Spec.old h.c g = o2
  cases n1 <;> cases n2
  · cases q
    · cases m1 <;> cases m2
      · cases o1 <;> cases o2 <;> rfl
      all_goals rfl
    · cases gx <;> cases hx
      · cases b1 <;> cases b2 <;> rfl
      all_goals rfl
  all_goals rfl

theorem cmp_peer (g h : G) (gx hx : Bool) : Spec.compare ⟨false, g, gx, h, hx⟩ = (Spec.mirror (Spec.first h hx g gx).1, (Spec.first h hx g gx).2) := by
  unfold Spec.compare
  rw [apart_eq]
  unfold Spec.first
  have hc : (h.c == g.c) = (g.c == h.c) := by
    by_cases e : g.c = h.c
    · rw [e]
    · have a : (g.c == h.c) = false := by simpa using e
      have b : (h.c == g.c) = false := by simpa using fun e' : h.c = g.c => e e'.symm
      rw [a, b]
  rw [hc, apart_comm g h]
  simp only [Spec.bothNew, Spec.oneNew, Spec.oneCrashed, Spec.bothCrashed, Spec.oneCounts, Spec.noneCounts, Spec.bothCount, Spec.bothAhead, Spec.oneAhead, Spec.bothBehind, Spec.oneBehind, none_of, alike_of g h]
  have hav := apart_vals g h
  generalize Spec.apart g h = ap at *
  generalize Spec.isNew g = n1
  generalize Spec.isNew h = n2
  generalize (g.c == h.c) = q
  generalize (g.b != 0) = b1
  generalize (h.b != 0) = b2
  generalize Spec.mtch g.b h.c = m1
  generalize Spec.mtch h.b g.c = m2
  generalize Spec.old g.c h = o1
  generalize Spec.old h.c g = o2
  cases n1 <;> cases n2
  · cases q
    · cases m1 <;> cases m2
      · cases o1 <;> cases o2
        · show ap = (Spec.mirror ap.1, ap.2)
          rw [hav]
        all_goals rfl
      all_goals rfl
    · cases gx <;> cases hx
      · cases b1 <;> cases b2 <;> rfl
      all_goals rfl
  all_goals rfl
end Go.Proofs.Ytboanmhibbhceaa
