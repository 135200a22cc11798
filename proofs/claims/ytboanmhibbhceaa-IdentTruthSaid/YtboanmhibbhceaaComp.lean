/- Compare of the program: the first of the fourteen rules that answers. (Printed by wip/mkcomp.py.) -/
import Derived.Test.YtboanmhibbhceaaPairs3
namespace Go.Proofs.Ytboanmhibbhceaa
open Go.RowKit
set_option linter.unusedVariables false
set_option linter.unusedSimpArgs false

namespace Spec
def compare (p : Pr) : Int × Int :=
  if (bothNew p != -1) = true then (bothNew p, 1) else
  if (oneNew p != -1) = true then (oneNew p, 2) else
  if (oneCrashed p != -1) = true then (oneCrashed p, 3) else
  if (bothCrashed p != -1) = true then (bothCrashed p, 4) else
  if (oneCounts p != -1) = true then (oneCounts p, 5) else
  if (noneCounts p != -1) = true then (noneCounts p, 6) else
  if (bothCount p != -1) = true then (bothCount p, 7) else
  if (bothAhead p != -1) = true then (bothAhead p, 8) else
  if (oneAhead p != -1) = true then (oneAhead p, 9) else
  if (bothBehind p != -1) = true then (bothBehind p, 10) else
  if (oneBehind p != -1) = true then (oneBehind p, 11) else
  if (sameBitmap p != -1) = true then (sameBitmap p, 12) else
  if (related p != -1) = true then (related p, 13) else
  (7, 14)
end Spec
theorem compare_1 {p : Pr} (e1 : (Spec.bothNew p != -1) = true) : Spec.compare p = (Spec.bothNew p, 1) := by unfold Spec.compare; rw [if_pos e1]
theorem compare_2 {p : Pr} (e1 : (Spec.bothNew p != -1) = false) (e2 : (Spec.oneNew p != -1) = true) : Spec.compare p = (Spec.oneNew p, 2) := by unfold Spec.compare; rw [if_neg (by rw [e1]; decide)]; rw [if_pos e2]
theorem compare_3 {p : Pr} (e1 : (Spec.bothNew p != -1) = false) (e2 : (Spec.oneNew p != -1) = false) (e3 : (Spec.oneCrashed p != -1) = true) : Spec.compare p = (Spec.oneCrashed p, 3) := by unfold Spec.compare; rw [if_neg (by rw [e1]; decide)]; rw [if_neg (by rw [e2]; decide)]; rw [if_pos e3]
theorem compare_4 {p : Pr} (e1 : (Spec.bothNew p != -1) = false) (e2 : (Spec.oneNew p != -1) = false) (e3 : (Spec.oneCrashed p != -1) = false) (e4 : (Spec.bothCrashed p != -1) = true) : Spec.compare p = (Spec.bothCrashed p, 4) := by unfold Spec.compare; rw [if_neg (by rw [e1]; decide)]; rw [if_neg (by rw [e2]; decide)]; rw [if_neg (by rw [e3]; decide)]; rw [if_pos e4]
theorem compare_5 {p : Pr} (e1 : (Spec.bothNew p != -1) = false) (e2 : (Spec.oneNew p != -1) = false) (e3 : (Spec.oneCrashed p != -1) = false) (e4 : (Spec.bothCrashed p != -1) = false) (e5 : (Spec.oneCounts p != -1) = true) : Spec.compare p = (Spec.oneCounts p, 5) := by unfold Spec.compare; rw [if_neg (by rw [e1]; decide)]; rw [if_neg (by rw [e2]; decide)]; rw [if_neg (by rw [e3]; decide)]; rw [if_neg (by rw [e4]; decide)]; rw [if_pos e5]
theorem compare_6 {p : Pr} (e1 : (Spec.bothNew p != -1) = false) (e2 : (Spec.oneNew p != -1) = false) (e3 : (Spec.oneCrashed p != -1) = false) (e4 : (Spec.bothCrashed p != -1) = false) (e5 : (Spec.oneCounts p != -1) = false) (e6 : (Spec.noneCounts p != -1) = true) : Spec.compare p = (Spec.noneCounts p, 6) := by unfold Spec.compare; rw [if_neg (by rw [e1]; decide)]; rw [if_neg (by rw [e2]; decide)]; rw [if_neg (by rw [e3]; decide)]; rw [if_neg (by rw [e4]; decide)]; rw [if_neg (by rw [e5]; decide)]; rw [if_pos e6]
theorem compare_7 {p : Pr} (e1 : (Spec.bothNew p != -1) = false) (e2 : (Spec.oneNew p != -1) = false) (e3 : (Spec.oneCrashed p != -1) = false) (e4 : (Spec.bothCrashed p != -1) = false) (e5 : (Spec.oneCounts p != -1) = false) (e6 : (Spec.noneCounts p != -1) = false) (e7 : (Spec.bothCount p != -1) = true) : Spec.compare p = (Spec.bothCount p, 7) := by unfold Spec.compare; rw [if_neg (by rw [e1]; decide)]; rw [if_neg (by rw [e2]; decide)]; rw [if_neg (by rw [e3]; decide)]; rw [if_neg (by rw [e4]; decide)]; rw [if_neg (by rw [e5]; decide)]; rw [if_neg (by rw [e6]; decide)]; rw [if_pos e7]
theorem compare_8 {p : Pr} (e1 : (Spec.bothNew p != -1) = false) (e2 : (Spec.oneNew p != -1) = false) (e3 : (Spec.oneCrashed p != -1) = false) (e4 : (Spec.bothCrashed p != -1) = false) (e5 : (Spec.oneCounts p != -1) = false) (e6 : (Spec.noneCounts p != -1) = false) (e7 : (Spec.bothCount p != -1) = false) (e8 : (Spec.bothAhead p != -1) = true) : Spec.compare p = (Spec.bothAhead p, 8) := by unfold Spec.compare; rw [if_neg (by rw [e1]; decide)]; rw [if_neg (by rw [e2]; decide)]; rw [if_neg (by rw [e3]; decide)]; rw [if_neg (by rw [e4]; decide)]; rw [if_neg (by rw [e5]; decide)]; rw [if_neg (by rw [e6]; decide)]; rw [if_neg (by rw [e7]; decide)]; rw [if_pos e8]
theorem compare_9 {p : Pr} (e1 : (Spec.bothNew p != -1) = false) (e2 : (Spec.oneNew p != -1) = false) (e3 : (Spec.oneCrashed p != -1) = false) (e4 : (Spec.bothCrashed p != -1) = false) (e5 : (Spec.oneCounts p != -1) = false) (e6 : (Spec.noneCounts p != -1) = false) (e7 : (Spec.bothCount p != -1) = false) (e8 : (Spec.bothAhead p != -1) = false) (e9 : (Spec.oneAhead p != -1) = true) : Spec.compare p = (Spec.oneAhead p, 9) := by unfold Spec.compare; rw [if_neg (by rw [e1]; decide)]; rw [if_neg (by rw [e2]; decide)]; rw [if_neg (by rw [e3]; decide)]; rw [if_neg (by rw [e4]; decide)]; rw [if_neg (by rw [e5]; decide)]; rw [if_neg (by rw [e6]; decide)]; rw [if_neg (by rw [e7]; decide)]; rw [if_neg (by rw [e8]; decide)]; rw [if_pos e9]
theorem compare_10 {p : Pr} (e1 : (Spec.bothNew p != -1) = false) (e2 : (Spec.oneNew p != -1) = false) (e3 : (Spec.oneCrashed p != -1) = false) (e4 : (Spec.bothCrashed p != -1) = false) (e5 : (Spec.oneCounts p != -1) = false) (e6 : (Spec.noneCounts p != -1) = false) (e7 : (Spec.bothCount p != -1) = false) (e8 : (Spec.bothAhead p != -1) = false) (e9 : (Spec.oneAhead p != -1) = false) (e10 : (Spec.bothBehind p != -1) = true) : Spec.compare p = (Spec.bothBehind p, 10) := by unfold Spec.compare; rw [if_neg (by rw [e1]; decide)]; rw [if_neg (by rw [e2]; decide)]; rw [if_neg (by rw [e3]; decide)]; rw [if_neg (by rw [e4]; decide)]; rw [if_neg (by rw [e5]; decide)]; rw [if_neg (by rw [e6]; decide)]; rw [if_neg (by rw [e7]; decide)]; rw [if_neg (by rw [e8]; decide)]; rw [if_neg (by rw [e9]; decide)]; rw [if_pos e10]
theorem compare_11 {p : Pr} (e1 : (Spec.bothNew p != -1) = false) (e2 : (Spec.oneNew p != -1) = false) (e3 : (Spec.oneCrashed p != -1) = false) (e4 : (Spec.bothCrashed p != -1) = false) (e5 : (Spec.oneCounts p != -1) = false) (e6 : (Spec.noneCounts p != -1) = false) (e7 : (Spec.bothCount p != -1) = false) (e8 : (Spec.bothAhead p != -1) = false) (e9 : (Spec.oneAhead p != -1) = false) (e10 : (Spec.bothBehind p != -1) = false) (e11 : (Spec.oneBehind p != -1) = true) : Spec.compare p = (Spec.oneBehind p, 11) := by unfold Spec.compare; rw [if_neg (by rw [e1]; decide)]; rw [if_neg (by rw [e2]; decide)]; rw [if_neg (by rw [e3]; decide)]; rw [if_neg (by rw [e4]; decide)]; rw [if_neg (by rw [e5]; decide)]; rw [if_neg (by rw [e6]; decide)]; rw [if_neg (by rw [e7]; decide)]; rw [if_neg (by rw [e8]; decide)]; rw [if_neg (by rw [e9]; decide)]; rw [if_neg (by rw [e10]; decide)]; rw [if_pos e11]
theorem compare_12 {p : Pr} (e1 : (Spec.bothNew p != -1) = false) (e2 : (Spec.oneNew p != -1) = false) (e3 : (Spec.oneCrashed p != -1) = false) (e4 : (Spec.bothCrashed p != -1) = false) (e5 : (Spec.oneCounts p != -1) = false) (e6 : (Spec.noneCounts p != -1) = false) (e7 : (Spec.bothCount p != -1) = false) (e8 : (Spec.bothAhead p != -1) = false) (e9 : (Spec.oneAhead p != -1) = false) (e10 : (Spec.bothBehind p != -1) = false) (e11 : (Spec.oneBehind p != -1) = false) (e12 : (Spec.sameBitmap p != -1) = true) : Spec.compare p = (Spec.sameBitmap p, 12) := by unfold Spec.compare; rw [if_neg (by rw [e1]; decide)]; rw [if_neg (by rw [e2]; decide)]; rw [if_neg (by rw [e3]; decide)]; rw [if_neg (by rw [e4]; decide)]; rw [if_neg (by rw [e5]; decide)]; rw [if_neg (by rw [e6]; decide)]; rw [if_neg (by rw [e7]; decide)]; rw [if_neg (by rw [e8]; decide)]; rw [if_neg (by rw [e9]; decide)]; rw [if_neg (by rw [e10]; decide)]; rw [if_neg (by rw [e11]; decide)]; rw [if_pos e12]
theorem compare_13 {p : Pr} (e1 : (Spec.bothNew p != -1) = false) (e2 : (Spec.oneNew p != -1) = false) (e3 : (Spec.oneCrashed p != -1) = false) (e4 : (Spec.bothCrashed p != -1) = false) (e5 : (Spec.oneCounts p != -1) = false) (e6 : (Spec.noneCounts p != -1) = false) (e7 : (Spec.bothCount p != -1) = false) (e8 : (Spec.bothAhead p != -1) = false) (e9 : (Spec.oneAhead p != -1) = false) (e10 : (Spec.bothBehind p != -1) = false) (e11 : (Spec.oneBehind p != -1) = false) (e12 : (Spec.sameBitmap p != -1) = false) (e13 : (Spec.related p != -1) = true) : Spec.compare p = (Spec.related p, 13) := by unfold Spec.compare; rw [if_neg (by rw [e1]; decide)]; rw [if_neg (by rw [e2]; decide)]; rw [if_neg (by rw [e3]; decide)]; rw [if_neg (by rw [e4]; decide)]; rw [if_neg (by rw [e5]; decide)]; rw [if_neg (by rw [e6]; decide)]; rw [if_neg (by rw [e7]; decide)]; rw [if_neg (by rw [e8]; decide)]; rw [if_neg (by rw [e9]; decide)]; rw [if_neg (by rw [e10]; decide)]; rw [if_neg (by rw [e11]; decide)]; rw [if_neg (by rw [e12]; decide)]; rw [if_pos e13]
theorem compare_14 {p : Pr} (e1 : (Spec.bothNew p != -1) = false) (e2 : (Spec.oneNew p != -1) = false) (e3 : (Spec.oneCrashed p != -1) = false) (e4 : (Spec.bothCrashed p != -1) = false) (e5 : (Spec.oneCounts p != -1) = false) (e6 : (Spec.noneCounts p != -1) = false) (e7 : (Spec.bothCount p != -1) = false) (e8 : (Spec.bothAhead p != -1) = false) (e9 : (Spec.oneAhead p != -1) = false) (e10 : (Spec.bothBehind p != -1) = false) (e11 : (Spec.oneBehind p != -1) = false) (e12 : (Spec.sameBitmap p != -1) = false) (e13 : (Spec.related p != -1) = false) : Spec.compare p = (7, 14) := by unfold Spec.compare; rw [if_neg (by rw [e1]; decide)]; rw [if_neg (by rw [e2]; decide)]; rw [if_neg (by rw [e3]; decide)]; rw [if_neg (by rw [e4]; decide)]; rw [if_neg (by rw [e5]; decide)]; rw [if_neg (by rw [e6]; decide)]; rw [if_neg (by rw [e7]; decide)]; rw [if_neg (by rw [e8]; decide)]; rw [if_neg (by rw [e9]; decide)]; rw [if_neg (by rw [e10]; decide)]; rw [if_neg (by rw [e11]; decide)]; rw [if_neg (by rw [e12]; decide)]; rw [if_neg (by rw [e13]; decide)]

section
variable {P : Program}

theorem has_cell {w : World} {b : Nat} {c : Array Value} {t : TypeId} (h : w.heap[b]? = some (.cells c t (0, 0))) (o : Nat) : w.cell? ⟨b, o, none⟩ = c[o]? := by simp [World.cell?, h]

@[go_sem] theorem run_store_func {w : World} {a : Addr} {m : Mode} (f : Fn) (x y : Array Value) : (store a (.func f x y) m).run P w = stored P w a (.func f x y) m := run_store P w a _ m rfl

theorem loop_head {c : Code} {Q : Exit → Act → World → Prop} {a : Act} {w0 W : World} {n B b10 b11 bs : Nat} {c10 cp cs : Array Value} {t10 tp ts : TypeId}
    (h10 : W.heap[b10]? = some (.cells c10 t10 (0, 0))) (h11 : W.heap[b11]? = some (.cells cp tp (0, 0))) (hs : W.heap[bs]? = some (.cells cs ts (0, 0))) (hB : Below B w0 W)
    (h : ∀ w2, Below B w0 w2 → (∀ o, w2.cell? ⟨b11, o, none⟩ = cp[o]?) → (∀ o, w2.cell? ⟨bs, o, none⟩ = cs[o]?) → b10 < w2.heap.size → b11 < w2.heap.size → bs < w2.heap.size → Code.rounds P c Q n a (w2.wb b10 c10 t10)) :
    (Code.loop c).wp P Q a W := by
  have lt : ∀ {b : Nat} {o : Obj}, W.heap[b]? = some o → b < W.heap.size := fun h => by
    rcases Nat.lt_or_ge _ W.heap.size with h' | h'
    · exact h'
    · rw [Array.getElem?_eq_none h'] at h; cases h
  refine wp_loop_rounds n ?_
  have := h W hB (has_cell h11) (has_cell hs) (lt h10) (lt h11) (lt hs)
  rwa [wb_self h10] at this

theorem round_next {w0 w w1 : World} {B b10 b11 bs : Nat} {c10 cr cp cs : Array Value} {t10 tr : TypeId}
    (hb1 : Below ((w.alloc (.cells cr tr)).wb b10 c10 t10).heap.size ((w.alloc (.cells cr tr)).wb b10 c10 t10) w1) (hB : Below B w0 w) (hp : ∀ o, w.cell? ⟨b11, o, none⟩ = cp[o]?) (hs : ∀ o, w.cell? ⟨bs, o, none⟩ = cs[o]?)
    (l10 : b10 < w.heap.size) (l11 : b11 < w.heap.size) (ls : bs < w.heap.size) (hB0 : B ≤ w.heap.size) (h10 : B ≤ b10) (n1 : b10 ≠ b11) (n2 : b10 ≠ bs) :
    ∃ w2, w1 = w2.wb b10 c10 t10 ∧ Below B w0 w2 ∧ (∀ o, w2.cell? ⟨b11, o, none⟩ = cp[o]?) ∧ (∀ o, w2.cell? ⟨bs, o, none⟩ = cs[o]?) ∧ (∀ o, w2.cell? ⟨w.heap.size, o, none⟩ = cr[o]?)
      ∧ b10 < w2.heap.size ∧ b11 < w2.heap.size ∧ bs < w2.heap.size ∧ w.heap.size < w2.heap.size ∧ b10 < w.heap.size := by
  have hz := hb1.size
  simp only [size_wb, World.size_alloc] at hz
  have hc := (bcell hb1).1
  simp only [size_wb, World.size_alloc] at hc
  have h1 : w1.heap[b10]? = some (.cells c10 t10 (0, 0)) := (hb1.block _ (by simp; omega)).trans (heap_wb (by simp; omega))
  refine ⟨w1, (wb_self h1).symm, ?_, fun o => ?_, fun o => ?_, fun o => ?_, by omega, by omega, by omega, by omega, l10⟩
  · exact Below.trans (below_wb (hB.alloc hB0 _) h10) (hb1.mono (by simp; omega))
  · rw [hc _ _ (by omega), cell?_wb_ne n1, ← hp o]; unfold World.cell?; rw [heap_old _ _ _ l11]
  · rw [hc _ _ (by omega), cell?_wb_ne n2, ← hs o]; unfold World.cell?; rw [heap_old _ _ _ ls]
  · rw [hc _ _ (by omega), cell?_wb_ne (Nat.ne_of_lt l10)]; exact has_cell (heap_new _ _ _ rfl) o
end
end Go.Proofs.Ytboanmhibbhceaa
