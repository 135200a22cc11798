/- A world with a block laid over it: how a walk reads and writes blocks of its own behind a call of which 'Below' alone is known. -/
import Derived.Test.YtckbckdaffdjmaaDoorReg
namespace Go.Proofs.YtckbckdaffdjmaaDoor
open Go.RowKit

/-- Block b is just the cells c, of type t. -/
def _root_.Go.World.wb (w : World) (b : Nat) (c : Array Value) (t : TypeId) : World := { w with heap := w.heap.setIfInBounds b (.cells c t (0, 0)) }

section
variable {w : World} {b : Nat} {c : Array Value} {t : TypeId}
theorem wb_self (h : w.heap[b]? = some (.cells c t (0, 0))) : w.wb b c t = w := by
  unfold World.wb
  have e : w.heap.setIfInBounds b (.cells c t (0, 0)) = w.heap := by
    apply Array.ext_getElem?
    intro i
    rw [Array.getElem?_setIfInBounds]
    split
    · rename_i hi
      subst hi
      split
      · exact h.symm
      · rename_i hn; rw [Array.getElem?_eq_none (by omega)]
    · rfl
  rw [e]
@[simp] theorem size_wb : (w.wb b c t).heap.size = w.heap.size := by simp [World.wb]
@[go_sem] theorem size_wb' : (w.wb b c t).heap.size = w.heap.size := by simp [World.wb]
theorem heap_wb (h : b < w.heap.size) : (w.wb b c t).heap[b]? = some (.cells c t (0, 0)) := by simp [World.wb, h]
theorem heap_wb_ne {k : Nat} (h : b ≠ k) : (w.wb b c t).heap[k]? = w.heap[k]? := by simp [World.wb, Array.getElem?_setIfInBounds_ne h]
@[go_sem] theorem cell?_wb_same {o : Nat} (h : b < w.heap.size) : (w.wb b c t).cell? ⟨b, o, none⟩ = c[o]? := by simp [World.cell?, heap_wb h]
@[go_sem] theorem cell?_wb_ne {a : Addr} (h : b ≠ a.block) : (w.wb b c t).cell? a = w.cell? a := by simp [World.cell?, heap_wb_ne h]
@[go_sem] theorem frozen?_wb_same {o : Nat} (h : b < w.heap.size) : (w.wb b c t).frozen? ⟨b, o, none⟩ = false := by simp [World.frozen?, heap_wb h]
@[go_sem] theorem frozen?_wb_ne {a : Addr} (h : b ≠ a.block) : (w.wb b c t).frozen? a = w.frozen? a := by simp [World.frozen?, heap_wb_ne h]
@[go_sem] theorem setCell_wb_same {o : Nat} {v : Value} : (w.wb b c t).setCell ⟨b, o, none⟩ v = w.wb b (c.setIfInBounds o v) t := by
  unfold World.wb World.setCell
  simp only [World.mk.injEq, and_true]
  apply Array.ext_getElem?
  intro i
  simp only [Array.getElem?_modify, Array.getElem?_setIfInBounds]
  by_cases hi : b = i
  · subst hi; simp
  · simp [hi]
@[go_sem] theorem setCell_wb_ne {a : Addr} {v : Value} (h : b ≠ a.block) : (w.wb b c t).setCell a v = (w.setCell a v).wb b c t := by
  unfold World.wb World.setCell
  simp only [World.mk.injEq, and_true]
  apply Array.ext_getElem?
  intro i
  simp only [Array.getElem?_modify, Array.getElem?_setIfInBounds, Array.size_modify]
  by_cases hi : b = i
  · subst hi; simp [Ne.symm h]
  · simp [hi]
@[go_sem] theorem alloc_wb {o : Obj} (h : b < w.heap.size) : (w.wb b c t).alloc o = (w.alloc o).wb b c t := by
  unfold World.wb World.alloc
  simp only [World.mk.injEq, and_true]
  apply Array.ext_getElem?
  intro i
  simp only [Array.getElem?_push, Array.getElem?_setIfInBounds, Array.size_setIfInBounds, Array.size_push]
  by_cases hi : b = i
  · subst hi; simp [Nat.ne_of_lt h, h]; omega
  · simp [hi]
@[go_sem] theorem drew_wb : (w.wb b c t).drew = (w.drew).wb b c t := rfl
@[go_sem] theorem drawn_wb : ({ (w.wb b c t) with drawn := (w.wb b c t).drawn + 1 } : World) = (w.drew).wb b c t := rfl
theorem below_wb {B : Nat} {a : World} (h : Below B a w) (hb : B ≤ b) : Below B a (w.wb b c t) :=
  h.trans ⟨rfl, rfl, rfl, by simp, fun k hk => heap_wb_ne (by omega)⟩

theorem bcell {W w1 : World} (hb : Below W.heap.size W w1) : (∀ b o, b < W.heap.size → w1.cell? ⟨b, o, none⟩ = W.cell? ⟨b, o, none⟩) ∧ (∀ b o, b < W.heap.size → w1.frozen? ⟨b, o, none⟩ = W.frozen? ⟨b, o, none⟩) :=
  ⟨fun b o h => hb.cell (p := ⟨b, o, none⟩) h, fun b o h => hb.frozen (p := ⟨b, o, none⟩) h⟩
theorem bcellB {W w1 : World} {B : Nat} (hb : Below B W w1) : (∀ b o, b < B → w1.cell? ⟨b, o, none⟩ = W.cell? ⟨b, o, none⟩) ∧ (∀ b o, b < B → w1.frozen? ⟨b, o, none⟩ = W.frozen? ⟨b, o, none⟩) :=
  ⟨fun b o h => hb.cell (p := ⟨b, o, none⟩) h, fun b o h => hb.frozen (p := ⟨b, o, none⟩) h⟩
theorem below_alloc1 (w : World) (o1 : Obj) : Below w.heap.size w (w.alloc o1) := (Below.refl _ _).alloc (Nat.le_refl _) o1
theorem below_alloc2 (w : World) (o1 o2 : Obj) : Below w.heap.size w ((w.alloc o1).alloc o2) := (below_alloc1 w o1).alloc (by simp) o2
theorem below_alloc3 (w : World) (o1 o2 o3 : Obj) : Below w.heap.size w (((w.alloc o1).alloc o2).alloc o3) := (below_alloc2 w o1 o2).alloc (by simp; omega) o3

end

theorem heap_new (w : World) (o : Obj) (k : Nat) (h : k = w.heap.size) : (w.alloc o).heap[k]? = some o := by subst h; show (w.heap.push o)[w.heap.size]? = _; simp
theorem heap_old (w : World) (o : Obj) (k : Nat) (h : k < w.heap.size) : (w.alloc o).heap[k]? = w.heap[k]? := by
  show (w.heap.push o)[k]? = _
  rw [Array.getElem?_push, if_neg (by omega)]
theorem heap_drew (w : World) (k : Nat) : w.drew.heap[k]? = w.heap[k]? := rfl

/-! Behind a call that leaves all that was there: the blocks of one's own, laid over the new world. -/
theorem behind_alloc1 {w w1 : World} {c1 : Array Value} {t1 : TypeId} (hb : Below (w.alloc (.cells c1 t1)).heap.size (w.alloc (.cells c1 t1)) w1) :
    ∃ w2, w1 = (w2.wb (w.heap.size) c1 t1) ∧ Below w.heap.size w w2 ∧ w.heap.size < w2.heap.size := by
  have hz := hb.size
  simp only [World.size_alloc] at hz
  have h1 : w1.heap[w.heap.size]? = some (.cells c1 t1 (0, 0)) := (hb.block _ (by first | omega | (simp; done) | (simp; omega))).trans (heap_new _ _ _ (by simp))
  refine ⟨w1, by rw [wb_self h1], ?_, by omega⟩
  exact Below.trans (Below.alloc (Below.refl _ _) (by first | omega | (simp; done) | (simp; omega)) _) (hb.mono (by first | omega | (simp; done) | (simp; omega)))
theorem behind_alloc2 {w w1 : World} {c1 c2 : Array Value} {t1 t2 : TypeId} (hb : Below ((w.alloc (.cells c1 t1)).alloc (.cells c2 t2)).heap.size ((w.alloc (.cells c1 t1)).alloc (.cells c2 t2)) w1) :
    ∃ w2, w1 = ((w2.wb (w.heap.size) c1 t1).wb (w.heap.size + 1) c2 t2) ∧ Below w.heap.size w w2 ∧ w.heap.size < w2.heap.size ∧ w.heap.size + 1 < w2.heap.size := by
  have hz := hb.size
  simp only [World.size_alloc] at hz
  have h1 : w1.heap[w.heap.size]? = some (.cells c1 t1 (0, 0)) := (hb.block _ (by first | omega | (simp; done) | (simp; omega))).trans ((heap_old _ _ _ (by first | omega | (simp; done) | (simp; omega))).trans (heap_new _ _ _ (by simp)))
  have h2 : w1.heap[w.heap.size + 1]? = some (.cells c2 t2 (0, 0)) := (hb.block _ (by first | omega | (simp; done) | (simp; omega))).trans (heap_new _ _ _ (by simp))
  refine ⟨w1, by rw [wb_self h1, wb_self h2], ?_, by omega, by omega⟩
  exact Below.trans (Below.alloc (Below.alloc (Below.refl _ _) (by first | omega | (simp; done) | (simp; omega)) _) (by first | omega | (simp; done) | (simp; omega)) _) (hb.mono (by first | omega | (simp; done) | (simp; omega)))
theorem behind_alloc3 {w w1 : World} {c1 c2 c3 : Array Value} {t1 t2 t3 : TypeId} (hb : Below (((w.alloc (.cells c1 t1)).alloc (.cells c2 t2)).alloc (.cells c3 t3)).heap.size (((w.alloc (.cells c1 t1)).alloc (.cells c2 t2)).alloc (.cells c3 t3)) w1) :
    ∃ w2, w1 = (((w2.wb (w.heap.size) c1 t1).wb (w.heap.size + 1) c2 t2).wb (w.heap.size + 2) c3 t3) ∧ Below w.heap.size w w2 ∧ w.heap.size < w2.heap.size ∧ w.heap.size + 1 < w2.heap.size ∧ w.heap.size + 2 < w2.heap.size := by
  have hz := hb.size
  simp only [World.size_alloc] at hz
  have h1 : w1.heap[w.heap.size]? = some (.cells c1 t1 (0, 0)) := (hb.block _ (by first | omega | (simp; done) | (simp; omega))).trans ((heap_old _ _ _ (by first | omega | (simp; done) | (simp; omega))).trans ((heap_old _ _ _ (by first | omega | (simp; done) | (simp; omega))).trans (heap_new _ _ _ (by simp))))
  have h2 : w1.heap[w.heap.size + 1]? = some (.cells c2 t2 (0, 0)) := (hb.block _ (by first | omega | (simp; done) | (simp; omega))).trans ((heap_old _ _ _ (by first | omega | (simp; done) | (simp; omega))).trans (heap_new _ _ _ (by simp)))
  have h3 : w1.heap[w.heap.size + 2]? = some (.cells c3 t3 (0, 0)) := (hb.block _ (by first | omega | (simp; done) | (simp; omega))).trans (heap_new _ _ _ (by simp))
  refine ⟨w1, by rw [wb_self h1, wb_self h2, wb_self h3], ?_, by omega, by omega, by omega⟩
  exact Below.trans (Below.alloc (Below.alloc (Below.alloc (Below.refl _ _) (by first | omega | (simp; done) | (simp; omega)) _) (by first | omega | (simp; done) | (simp; omega)) _) (by first | omega | (simp; done) | (simp; omega)) _) (hb.mono (by first | omega | (simp; done) | (simp; omega)))
theorem behind_alloc4 {w w1 : World} {c1 c2 c3 c4 : Array Value} {t1 t2 t3 t4 : TypeId} (hb : Below ((((w.alloc (.cells c1 t1)).alloc (.cells c2 t2)).alloc (.cells c3 t3)).alloc (.cells c4 t4)).heap.size ((((w.alloc (.cells c1 t1)).alloc (.cells c2 t2)).alloc (.cells c3 t3)).alloc (.cells c4 t4)) w1) :
    ∃ w2, w1 = ((((w2.wb (w.heap.size) c1 t1).wb (w.heap.size + 1) c2 t2).wb (w.heap.size + 2) c3 t3).wb (w.heap.size + 3) c4 t4) ∧ Below w.heap.size w w2 ∧ w.heap.size < w2.heap.size ∧ w.heap.size + 1 < w2.heap.size ∧ w.heap.size + 2 < w2.heap.size ∧ w.heap.size + 3 < w2.heap.size := by
  have hz := hb.size
  simp only [World.size_alloc] at hz
  have h1 : w1.heap[w.heap.size]? = some (.cells c1 t1 (0, 0)) := (hb.block _ (by first | omega | (simp; done) | (simp; omega))).trans ((heap_old _ _ _ (by first | omega | (simp; done) | (simp; omega))).trans ((heap_old _ _ _ (by first | omega | (simp; done) | (simp; omega))).trans ((heap_old _ _ _ (by first | omega | (simp; done) | (simp; omega))).trans (heap_new _ _ _ (by simp)))))
  have h2 : w1.heap[w.heap.size + 1]? = some (.cells c2 t2 (0, 0)) := (hb.block _ (by first | omega | (simp; done) | (simp; omega))).trans ((heap_old _ _ _ (by first | omega | (simp; done) | (simp; omega))).trans ((heap_old _ _ _ (by first | omega | (simp; done) | (simp; omega))).trans (heap_new _ _ _ (by simp))))
  have h3 : w1.heap[w.heap.size + 2]? = some (.cells c3 t3 (0, 0)) := (hb.block _ (by first | omega | (simp; done) | (simp; omega))).trans ((heap_old _ _ _ (by first | omega | (simp; done) | (simp; omega))).trans (heap_new _ _ _ (by simp)))
  have h4 : w1.heap[w.heap.size + 3]? = some (.cells c4 t4 (0, 0)) := (hb.block _ (by first | omega | (simp; done) | (simp; omega))).trans (heap_new _ _ _ (by simp))
  refine ⟨w1, by rw [wb_self h1, wb_self h2, wb_self h3, wb_self h4], ?_, by omega, by omega, by omega, by omega⟩
  exact Below.trans (Below.alloc (Below.alloc (Below.alloc (Below.alloc (Below.refl _ _) (by first | omega | (simp; done) | (simp; omega)) _) (by first | omega | (simp; done) | (simp; omega)) _) (by first | omega | (simp; done) | (simp; omega)) _) (by first | omega | (simp; done) | (simp; omega)) _) (hb.mono (by first | omega | (simp; done) | (simp; omega)))
theorem behind_alloc5 {w w1 : World} {c1 c2 c3 c4 c5 : Array Value} {t1 t2 t3 t4 t5 : TypeId} (hb : Below (((((w.alloc (.cells c1 t1)).alloc (.cells c2 t2)).alloc (.cells c3 t3)).alloc (.cells c4 t4)).alloc (.cells c5 t5)).heap.size (((((w.alloc (.cells c1 t1)).alloc (.cells c2 t2)).alloc (.cells c3 t3)).alloc (.cells c4 t4)).alloc (.cells c5 t5)) w1) :
    ∃ w2, w1 = (((((w2.wb (w.heap.size) c1 t1).wb (w.heap.size + 1) c2 t2).wb (w.heap.size + 2) c3 t3).wb (w.heap.size + 3) c4 t4).wb (w.heap.size + 4) c5 t5) ∧ Below w.heap.size w w2 ∧ w.heap.size < w2.heap.size ∧ w.heap.size + 1 < w2.heap.size ∧ w.heap.size + 2 < w2.heap.size ∧ w.heap.size + 3 < w2.heap.size ∧ w.heap.size + 4 < w2.heap.size := by
  have hz := hb.size
  simp only [World.size_alloc] at hz
  have h1 : w1.heap[w.heap.size]? = some (.cells c1 t1 (0, 0)) := (hb.block _ (by first | omega | (simp; done) | (simp; omega))).trans ((heap_old _ _ _ (by first | omega | (simp; done) | (simp; omega))).trans ((heap_old _ _ _ (by first | omega | (simp; done) | (simp; omega))).trans ((heap_old _ _ _ (by first | omega | (simp; done) | (simp; omega))).trans ((heap_old _ _ _ (by first | omega | (simp; done) | (simp; omega))).trans (heap_new _ _ _ (by simp))))))
  have h2 : w1.heap[w.heap.size + 1]? = some (.cells c2 t2 (0, 0)) := (hb.block _ (by first | omega | (simp; done) | (simp; omega))).trans ((heap_old _ _ _ (by first | omega | (simp; done) | (simp; omega))).trans ((heap_old _ _ _ (by first | omega | (simp; done) | (simp; omega))).trans ((heap_old _ _ _ (by first | omega | (simp; done) | (simp; omega))).trans (heap_new _ _ _ (by simp)))))
  have h3 : w1.heap[w.heap.size + 2]? = some (.cells c3 t3 (0, 0)) := (hb.block _ (by first | omega | (simp; done) | (simp; omega))).trans ((heap_old _ _ _ (by first | omega | (simp; done) | (simp; omega))).trans ((heap_old _ _ _ (by first | omega | (simp; done) | (simp; omega))).trans (heap_new _ _ _ (by simp))))
  have h4 : w1.heap[w.heap.size + 3]? = some (.cells c4 t4 (0, 0)) := (hb.block _ (by first | omega | (simp; done) | (simp; omega))).trans ((heap_old _ _ _ (by first | omega | (simp; done) | (simp; omega))).trans (heap_new _ _ _ (by simp)))
  have h5 : w1.heap[w.heap.size + 4]? = some (.cells c5 t5 (0, 0)) := (hb.block _ (by first | omega | (simp; done) | (simp; omega))).trans (heap_new _ _ _ (by simp))
  refine ⟨w1, by rw [wb_self h1, wb_self h2, wb_self h3, wb_self h4, wb_self h5], ?_, by omega, by omega, by omega, by omega, by omega⟩
  exact Below.trans (Below.alloc (Below.alloc (Below.alloc (Below.alloc (Below.alloc (Below.refl _ _) (by first | omega | (simp; done) | (simp; omega)) _) (by first | omega | (simp; done) | (simp; omega)) _) (by first | omega | (simp; done) | (simp; omega)) _) (by first | omega | (simp; done) | (simp; omega)) _) (by first | omega | (simp; done) | (simp; omega)) _) (hb.mono (by first | omega | (simp; done) | (simp; omega)))
theorem behind_alloc6 {w w1 : World} {c1 c2 c3 c4 c5 c6 : Array Value} {t1 t2 t3 t4 t5 t6 : TypeId} (hb : Below ((((((w.alloc (.cells c1 t1)).alloc (.cells c2 t2)).alloc (.cells c3 t3)).alloc (.cells c4 t4)).alloc (.cells c5 t5)).alloc (.cells c6 t6)).heap.size ((((((w.alloc (.cells c1 t1)).alloc (.cells c2 t2)).alloc (.cells c3 t3)).alloc (.cells c4 t4)).alloc (.cells c5 t5)).alloc (.cells c6 t6)) w1) :
    ∃ w2, w1 = ((((((w2.wb (w.heap.size) c1 t1).wb (w.heap.size + 1) c2 t2).wb (w.heap.size + 2) c3 t3).wb (w.heap.size + 3) c4 t4).wb (w.heap.size + 4) c5 t5).wb (w.heap.size + 5) c6 t6) ∧ Below w.heap.size w w2 ∧ w.heap.size < w2.heap.size ∧ w.heap.size + 1 < w2.heap.size ∧ w.heap.size + 2 < w2.heap.size ∧ w.heap.size + 3 < w2.heap.size ∧ w.heap.size + 4 < w2.heap.size ∧ w.heap.size + 5 < w2.heap.size := by
  have hz := hb.size
  simp only [World.size_alloc] at hz
  have h1 : w1.heap[w.heap.size]? = some (.cells c1 t1 (0, 0)) := (hb.block _ (by first | omega | (simp; done) | (simp; omega))).trans ((heap_old _ _ _ (by first | omega | (simp; done) | (simp; omega))).trans ((heap_old _ _ _ (by first | omega | (simp; done) | (simp; omega))).trans ((heap_old _ _ _ (by first | omega | (simp; done) | (simp; omega))).trans ((heap_old _ _ _ (by first | omega | (simp; done) | (simp; omega))).trans ((heap_old _ _ _ (by first | omega | (simp; done) | (simp; omega))).trans (heap_new _ _ _ (by simp)))))))
  have h2 : w1.heap[w.heap.size + 1]? = some (.cells c2 t2 (0, 0)) := (hb.block _ (by first | omega | (simp; done) | (simp; omega))).trans ((heap_old _ _ _ (by first | omega | (simp; done) | (simp; omega))).trans ((heap_old _ _ _ (by first | omega | (simp; done) | (simp; omega))).trans ((heap_old _ _ _ (by first | omega | (simp; done) | (simp; omega))).trans ((heap_old _ _ _ (by first | omega | (simp; done) | (simp; omega))).trans (heap_new _ _ _ (by simp))))))
  have h3 : w1.heap[w.heap.size + 2]? = some (.cells c3 t3 (0, 0)) := (hb.block _ (by first | omega | (simp; done) | (simp; omega))).trans ((heap_old _ _ _ (by first | omega | (simp; done) | (simp; omega))).trans ((heap_old _ _ _ (by first | omega | (simp; done) | (simp; omega))).trans ((heap_old _ _ _ (by first | omega | (simp; done) | (simp; omega))).trans (heap_new _ _ _ (by simp)))))
  have h4 : w1.heap[w.heap.size + 3]? = some (.cells c4 t4 (0, 0)) := (hb.block _ (by first | omega | (simp; done) | (simp; omega))).trans ((heap_old _ _ _ (by first | omega | (simp; done) | (simp; omega))).trans ((heap_old _ _ _ (by first | omega | (simp; done) | (simp; omega))).trans (heap_new _ _ _ (by simp))))
  have h5 : w1.heap[w.heap.size + 4]? = some (.cells c5 t5 (0, 0)) := (hb.block _ (by first | omega | (simp; done) | (simp; omega))).trans ((heap_old _ _ _ (by first | omega | (simp; done) | (simp; omega))).trans (heap_new _ _ _ (by simp)))
  have h6 : w1.heap[w.heap.size + 5]? = some (.cells c6 t6 (0, 0)) := (hb.block _ (by first | omega | (simp; done) | (simp; omega))).trans (heap_new _ _ _ (by simp))
  refine ⟨w1, by rw [wb_self h1, wb_self h2, wb_self h3, wb_self h4, wb_self h5, wb_self h6], ?_, by omega, by omega, by omega, by omega, by omega, by omega⟩
  exact Below.trans (Below.alloc (Below.alloc (Below.alloc (Below.alloc (Below.alloc (Below.alloc (Below.refl _ _) (by first | omega | (simp; done) | (simp; omega)) _) (by first | omega | (simp; done) | (simp; omega)) _) (by first | omega | (simp; done) | (simp; omega)) _) (by first | omega | (simp; done) | (simp; omega)) _) (by first | omega | (simp; done) | (simp; omega)) _) (by first | omega | (simp; done) | (simp; omega)) _) (hb.mono (by first | omega | (simp; done) | (simp; omega)))
theorem behind_wb1 {w w1 : World} {B b1 : Nat} {c1 : Array Value} {t1 : TypeId} (hb : Below (w.wb b1 c1 t1).heap.size (w.wb b1 c1 t1) w1) (l1 : b1 < w.heap.size) (e1 : B ≤ b1)  :
    ∃ w2, w1 = (w2.wb b1 c1 t1) ∧ Below B w w2 ∧ w.heap.size ≤ w2.heap.size ∧ b1 < w2.heap.size := by
  have hz := hb.size
  simp only [size_wb] at hz
  have h1 : w1.heap[b1]? = some (.cells c1 t1 (0, 0)) := (hb.block _ (by first | omega | (simp; done) | (simp; omega))).trans (heap_wb (by first | omega | (simp; done) | (simp; omega)))
  refine ⟨w1, by rw [wb_self h1], ?_, hz, by omega⟩
  exact Below.trans (below_wb (Below.refl _ _) e1) (hb.mono (by first | omega | (simp; done) | (simp; omega)))
theorem behind_wb2 {w w1 : World} {B b1 b2 : Nat} {c1 c2 : Array Value} {t1 t2 : TypeId} (hb : Below ((w.wb b1 c1 t1).wb b2 c2 t2).heap.size ((w.wb b1 c1 t1).wb b2 c2 t2) w1) (l1 : b1 < w.heap.size) (l2 : b2 < w.heap.size) (e1 : B ≤ b1) (e2 : B ≤ b2) (n12 : b2 ≠ b1) :
    ∃ w2, w1 = ((w2.wb b1 c1 t1).wb b2 c2 t2) ∧ Below B w w2 ∧ w.heap.size ≤ w2.heap.size ∧ b1 < w2.heap.size ∧ b2 < w2.heap.size := by
  have hz := hb.size
  simp only [size_wb] at hz
  have h1 : w1.heap[b1]? = some (.cells c1 t1 (0, 0)) := (hb.block _ (by first | omega | (simp; done) | (simp; omega))).trans ((heap_wb_ne n12).trans (heap_wb (by first | omega | (simp; done) | (simp; omega))))
  have h2 : w1.heap[b2]? = some (.cells c2 t2 (0, 0)) := (hb.block _ (by first | omega | (simp; done) | (simp; omega))).trans (heap_wb (by first | omega | (simp; done) | (simp; omega)))
  refine ⟨w1, by rw [wb_self h1, wb_self h2], ?_, hz, by omega, by omega⟩
  exact Below.trans (below_wb (below_wb (Below.refl _ _) e1) e2) (hb.mono (by first | omega | (simp; done) | (simp; omega)))
theorem behind_wb3 {w w1 : World} {B b1 b2 b3 : Nat} {c1 c2 c3 : Array Value} {t1 t2 t3 : TypeId} (hb : Below (((w.wb b1 c1 t1).wb b2 c2 t2).wb b3 c3 t3).heap.size (((w.wb b1 c1 t1).wb b2 c2 t2).wb b3 c3 t3) w1) (l1 : b1 < w.heap.size) (l2 : b2 < w.heap.size) (l3 : b3 < w.heap.size) (e1 : B ≤ b1) (e2 : B ≤ b2) (e3 : B ≤ b3) (n12 : b2 ≠ b1) (n13 : b3 ≠ b1) (n23 : b3 ≠ b2) :
    ∃ w2, w1 = (((w2.wb b1 c1 t1).wb b2 c2 t2).wb b3 c3 t3) ∧ Below B w w2 ∧ w.heap.size ≤ w2.heap.size ∧ b1 < w2.heap.size ∧ b2 < w2.heap.size ∧ b3 < w2.heap.size := by
  have hz := hb.size
  simp only [size_wb] at hz
  have h1 : w1.heap[b1]? = some (.cells c1 t1 (0, 0)) := (hb.block _ (by first | omega | (simp; done) | (simp; omega))).trans ((heap_wb_ne n13).trans ((heap_wb_ne n12).trans (heap_wb (by first | omega | (simp; done) | (simp; omega)))))
  have h2 : w1.heap[b2]? = some (.cells c2 t2 (0, 0)) := (hb.block _ (by first | omega | (simp; done) | (simp; omega))).trans ((heap_wb_ne n23).trans (heap_wb (by first | omega | (simp; done) | (simp; omega))))
  have h3 : w1.heap[b3]? = some (.cells c3 t3 (0, 0)) := (hb.block _ (by first | omega | (simp; done) | (simp; omega))).trans (heap_wb (by first | omega | (simp; done) | (simp; omega)))
  refine ⟨w1, by rw [wb_self h1, wb_self h2, wb_self h3], ?_, hz, by omega, by omega, by omega⟩
  exact Below.trans (below_wb (below_wb (below_wb (Below.refl _ _) e1) e2) e3) (hb.mono (by first | omega | (simp; done) | (simp; omega)))
theorem behind_wb4 {w w1 : World} {B b1 b2 b3 b4 : Nat} {c1 c2 c3 c4 : Array Value} {t1 t2 t3 t4 : TypeId} (hb : Below ((((w.wb b1 c1 t1).wb b2 c2 t2).wb b3 c3 t3).wb b4 c4 t4).heap.size ((((w.wb b1 c1 t1).wb b2 c2 t2).wb b3 c3 t3).wb b4 c4 t4) w1) (l1 : b1 < w.heap.size) (l2 : b2 < w.heap.size) (l3 : b3 < w.heap.size) (l4 : b4 < w.heap.size) (e1 : B ≤ b1) (e2 : B ≤ b2) (e3 : B ≤ b3) (e4 : B ≤ b4) (n12 : b2 ≠ b1) (n13 : b3 ≠ b1) (n14 : b4 ≠ b1) (n23 : b3 ≠ b2) (n24 : b4 ≠ b2) (n34 : b4 ≠ b3) :
    ∃ w2, w1 = ((((w2.wb b1 c1 t1).wb b2 c2 t2).wb b3 c3 t3).wb b4 c4 t4) ∧ Below B w w2 ∧ w.heap.size ≤ w2.heap.size ∧ b1 < w2.heap.size ∧ b2 < w2.heap.size ∧ b3 < w2.heap.size ∧ b4 < w2.heap.size := by
  have hz := hb.size
  simp only [size_wb] at hz
  have h1 : w1.heap[b1]? = some (.cells c1 t1 (0, 0)) := (hb.block _ (by first | omega | (simp; done) | (simp; omega))).trans ((heap_wb_ne n14).trans ((heap_wb_ne n13).trans ((heap_wb_ne n12).trans (heap_wb (by first | omega | (simp; done) | (simp; omega))))))
  have h2 : w1.heap[b2]? = some (.cells c2 t2 (0, 0)) := (hb.block _ (by first | omega | (simp; done) | (simp; omega))).trans ((heap_wb_ne n24).trans ((heap_wb_ne n23).trans (heap_wb (by first | omega | (simp; done) | (simp; omega)))))
  have h3 : w1.heap[b3]? = some (.cells c3 t3 (0, 0)) := (hb.block _ (by first | omega | (simp; done) | (simp; omega))).trans ((heap_wb_ne n34).trans (heap_wb (by first | omega | (simp; done) | (simp; omega))))
  have h4 : w1.heap[b4]? = some (.cells c4 t4 (0, 0)) := (hb.block _ (by first | omega | (simp; done) | (simp; omega))).trans (heap_wb (by first | omega | (simp; done) | (simp; omega)))
  refine ⟨w1, by rw [wb_self h1, wb_self h2, wb_self h3, wb_self h4], ?_, hz, by omega, by omega, by omega, by omega⟩
  exact Below.trans (below_wb (below_wb (below_wb (below_wb (Below.refl _ _) e1) e2) e3) e4) (hb.mono (by first | omega | (simp; done) | (simp; omega)))
theorem behind_wb5 {w w1 : World} {B b1 b2 b3 b4 b5 : Nat} {c1 c2 c3 c4 c5 : Array Value} {t1 t2 t3 t4 t5 : TypeId} (hb : Below (((((w.wb b1 c1 t1).wb b2 c2 t2).wb b3 c3 t3).wb b4 c4 t4).wb b5 c5 t5).heap.size (((((w.wb b1 c1 t1).wb b2 c2 t2).wb b3 c3 t3).wb b4 c4 t4).wb b5 c5 t5) w1) (l1 : b1 < w.heap.size) (l2 : b2 < w.heap.size) (l3 : b3 < w.heap.size) (l4 : b4 < w.heap.size) (l5 : b5 < w.heap.size) (e1 : B ≤ b1) (e2 : B ≤ b2) (e3 : B ≤ b3) (e4 : B ≤ b4) (e5 : B ≤ b5) (n12 : b2 ≠ b1) (n13 : b3 ≠ b1) (n14 : b4 ≠ b1) (n15 : b5 ≠ b1) (n23 : b3 ≠ b2) (n24 : b4 ≠ b2) (n25 : b5 ≠ b2) (n34 : b4 ≠ b3) (n35 : b5 ≠ b3) (n45 : b5 ≠ b4) :
    ∃ w2, w1 = (((((w2.wb b1 c1 t1).wb b2 c2 t2).wb b3 c3 t3).wb b4 c4 t4).wb b5 c5 t5) ∧ Below B w w2 ∧ w.heap.size ≤ w2.heap.size ∧ b1 < w2.heap.size ∧ b2 < w2.heap.size ∧ b3 < w2.heap.size ∧ b4 < w2.heap.size ∧ b5 < w2.heap.size := by
  have hz := hb.size
  simp only [size_wb] at hz
  have h1 : w1.heap[b1]? = some (.cells c1 t1 (0, 0)) := (hb.block _ (by first | omega | (simp; done) | (simp; omega))).trans ((heap_wb_ne n15).trans ((heap_wb_ne n14).trans ((heap_wb_ne n13).trans ((heap_wb_ne n12).trans (heap_wb (by first | omega | (simp; done) | (simp; omega)))))))
  have h2 : w1.heap[b2]? = some (.cells c2 t2 (0, 0)) := (hb.block _ (by first | omega | (simp; done) | (simp; omega))).trans ((heap_wb_ne n25).trans ((heap_wb_ne n24).trans ((heap_wb_ne n23).trans (heap_wb (by first | omega | (simp; done) | (simp; omega))))))
  have h3 : w1.heap[b3]? = some (.cells c3 t3 (0, 0)) := (hb.block _ (by first | omega | (simp; done) | (simp; omega))).trans ((heap_wb_ne n35).trans ((heap_wb_ne n34).trans (heap_wb (by first | omega | (simp; done) | (simp; omega)))))
  have h4 : w1.heap[b4]? = some (.cells c4 t4 (0, 0)) := (hb.block _ (by first | omega | (simp; done) | (simp; omega))).trans ((heap_wb_ne n45).trans (heap_wb (by first | omega | (simp; done) | (simp; omega))))
  have h5 : w1.heap[b5]? = some (.cells c5 t5 (0, 0)) := (hb.block _ (by first | omega | (simp; done) | (simp; omega))).trans (heap_wb (by first | omega | (simp; done) | (simp; omega)))
  refine ⟨w1, by rw [wb_self h1, wb_self h2, wb_self h3, wb_self h4, wb_self h5], ?_, hz, by omega, by omega, by omega, by omega, by omega⟩
  exact Below.trans (below_wb (below_wb (below_wb (below_wb (below_wb (Below.refl _ _) e1) e2) e3) e4) e5) (hb.mono (by first | omega | (simp; done) | (simp; omega)))
theorem behind_wb6 {w w1 : World} {B b1 b2 b3 b4 b5 b6 : Nat} {c1 c2 c3 c4 c5 c6 : Array Value} {t1 t2 t3 t4 t5 t6 : TypeId} (hb : Below ((((((w.wb b1 c1 t1).wb b2 c2 t2).wb b3 c3 t3).wb b4 c4 t4).wb b5 c5 t5).wb b6 c6 t6).heap.size ((((((w.wb b1 c1 t1).wb b2 c2 t2).wb b3 c3 t3).wb b4 c4 t4).wb b5 c5 t5).wb b6 c6 t6) w1) (l1 : b1 < w.heap.size) (l2 : b2 < w.heap.size) (l3 : b3 < w.heap.size) (l4 : b4 < w.heap.size) (l5 : b5 < w.heap.size) (l6 : b6 < w.heap.size) (e1 : B ≤ b1) (e2 : B ≤ b2) (e3 : B ≤ b3) (e4 : B ≤ b4) (e5 : B ≤ b5) (e6 : B ≤ b6) (n12 : b2 ≠ b1) (n13 : b3 ≠ b1) (n14 : b4 ≠ b1) (n15 : b5 ≠ b1) (n16 : b6 ≠ b1) (n23 : b3 ≠ b2) (n24 : b4 ≠ b2) (n25 : b5 ≠ b2) (n26 : b6 ≠ b2) (n34 : b4 ≠ b3) (n35 : b5 ≠ b3) (n36 : b6 ≠ b3) (n45 : b5 ≠ b4) (n46 : b6 ≠ b4) (n56 : b6 ≠ b5) :
    ∃ w2, w1 = ((((((w2.wb b1 c1 t1).wb b2 c2 t2).wb b3 c3 t3).wb b4 c4 t4).wb b5 c5 t5).wb b6 c6 t6) ∧ Below B w w2 ∧ w.heap.size ≤ w2.heap.size ∧ b1 < w2.heap.size ∧ b2 < w2.heap.size ∧ b3 < w2.heap.size ∧ b4 < w2.heap.size ∧ b5 < w2.heap.size ∧ b6 < w2.heap.size := by
  have hz := hb.size
  simp only [size_wb] at hz
  have h1 : w1.heap[b1]? = some (.cells c1 t1 (0, 0)) := (hb.block _ (by first | omega | (simp; done) | (simp; omega))).trans ((heap_wb_ne n16).trans ((heap_wb_ne n15).trans ((heap_wb_ne n14).trans ((heap_wb_ne n13).trans ((heap_wb_ne n12).trans (heap_wb (by first | omega | (simp; done) | (simp; omega))))))))
  have h2 : w1.heap[b2]? = some (.cells c2 t2 (0, 0)) := (hb.block _ (by first | omega | (simp; done) | (simp; omega))).trans ((heap_wb_ne n26).trans ((heap_wb_ne n25).trans ((heap_wb_ne n24).trans ((heap_wb_ne n23).trans (heap_wb (by first | omega | (simp; done) | (simp; omega)))))))
  have h3 : w1.heap[b3]? = some (.cells c3 t3 (0, 0)) := (hb.block _ (by first | omega | (simp; done) | (simp; omega))).trans ((heap_wb_ne n36).trans ((heap_wb_ne n35).trans ((heap_wb_ne n34).trans (heap_wb (by first | omega | (simp; done) | (simp; omega))))))
  have h4 : w1.heap[b4]? = some (.cells c4 t4 (0, 0)) := (hb.block _ (by first | omega | (simp; done) | (simp; omega))).trans ((heap_wb_ne n46).trans ((heap_wb_ne n45).trans (heap_wb (by first | omega | (simp; done) | (simp; omega)))))
  have h5 : w1.heap[b5]? = some (.cells c5 t5 (0, 0)) := (hb.block _ (by first | omega | (simp; done) | (simp; omega))).trans ((heap_wb_ne n56).trans (heap_wb (by first | omega | (simp; done) | (simp; omega))))
  have h6 : w1.heap[b6]? = some (.cells c6 t6 (0, 0)) := (hb.block _ (by first | omega | (simp; done) | (simp; omega))).trans (heap_wb (by first | omega | (simp; done) | (simp; omega)))
  refine ⟨w1, by rw [wb_self h1, wb_self h2, wb_self h3, wb_self h4, wb_self h5, wb_self h6], ?_, hz, by omega, by omega, by omega, by omega, by omega, by omega⟩
  exact Below.trans (below_wb (below_wb (below_wb (below_wb (below_wb (below_wb (Below.refl _ _) e1) e2) e3) e4) e5) e6) (hb.mono (by first | omega | (simp; done) | (simp; omega)))
theorem behind_wb7 {w w1 : World} {B b1 b2 b3 b4 b5 b6 b7 : Nat} {c1 c2 c3 c4 c5 c6 c7 : Array Value} {t1 t2 t3 t4 t5 t6 t7 : TypeId} (hb : Below (((((((w.wb b1 c1 t1).wb b2 c2 t2).wb b3 c3 t3).wb b4 c4 t4).wb b5 c5 t5).wb b6 c6 t6).wb b7 c7 t7).heap.size (((((((w.wb b1 c1 t1).wb b2 c2 t2).wb b3 c3 t3).wb b4 c4 t4).wb b5 c5 t5).wb b6 c6 t6).wb b7 c7 t7) w1) (l1 : b1 < w.heap.size) (l2 : b2 < w.heap.size) (l3 : b3 < w.heap.size) (l4 : b4 < w.heap.size) (l5 : b5 < w.heap.size) (l6 : b6 < w.heap.size) (l7 : b7 < w.heap.size) (e1 : B ≤ b1) (e2 : B ≤ b2) (e3 : B ≤ b3) (e4 : B ≤ b4) (e5 : B ≤ b5) (e6 : B ≤ b6) (e7 : B ≤ b7) (n12 : b2 ≠ b1) (n13 : b3 ≠ b1) (n14 : b4 ≠ b1) (n15 : b5 ≠ b1) (n16 : b6 ≠ b1) (n17 : b7 ≠ b1) (n23 : b3 ≠ b2) (n24 : b4 ≠ b2) (n25 : b5 ≠ b2) (n26 : b6 ≠ b2) (n27 : b7 ≠ b2) (n34 : b4 ≠ b3) (n35 : b5 ≠ b3) (n36 : b6 ≠ b3) (n37 : b7 ≠ b3) (n45 : b5 ≠ b4) (n46 : b6 ≠ b4) (n47 : b7 ≠ b4) (n56 : b6 ≠ b5) (n57 : b7 ≠ b5) (n67 : b7 ≠ b6) :
    ∃ w2, w1 = (((((((w2.wb b1 c1 t1).wb b2 c2 t2).wb b3 c3 t3).wb b4 c4 t4).wb b5 c5 t5).wb b6 c6 t6).wb b7 c7 t7) ∧ Below B w w2 ∧ w.heap.size ≤ w2.heap.size ∧ b1 < w2.heap.size ∧ b2 < w2.heap.size ∧ b3 < w2.heap.size ∧ b4 < w2.heap.size ∧ b5 < w2.heap.size ∧ b6 < w2.heap.size ∧ b7 < w2.heap.size := by
  have hz := hb.size
  simp only [size_wb] at hz
  have h1 : w1.heap[b1]? = some (.cells c1 t1 (0, 0)) := (hb.block _ (by first | omega | (simp; done) | (simp; omega))).trans ((heap_wb_ne n17).trans ((heap_wb_ne n16).trans ((heap_wb_ne n15).trans ((heap_wb_ne n14).trans ((heap_wb_ne n13).trans ((heap_wb_ne n12).trans (heap_wb (by first | omega | (simp; done) | (simp; omega)))))))))
  have h2 : w1.heap[b2]? = some (.cells c2 t2 (0, 0)) := (hb.block _ (by first | omega | (simp; done) | (simp; omega))).trans ((heap_wb_ne n27).trans ((heap_wb_ne n26).trans ((heap_wb_ne n25).trans ((heap_wb_ne n24).trans ((heap_wb_ne n23).trans (heap_wb (by first | omega | (simp; done) | (simp; omega))))))))
  have h3 : w1.heap[b3]? = some (.cells c3 t3 (0, 0)) := (hb.block _ (by first | omega | (simp; done) | (simp; omega))).trans ((heap_wb_ne n37).trans ((heap_wb_ne n36).trans ((heap_wb_ne n35).trans ((heap_wb_ne n34).trans (heap_wb (by first | omega | (simp; done) | (simp; omega)))))))
  have h4 : w1.heap[b4]? = some (.cells c4 t4 (0, 0)) := (hb.block _ (by first | omega | (simp; done) | (simp; omega))).trans ((heap_wb_ne n47).trans ((heap_wb_ne n46).trans ((heap_wb_ne n45).trans (heap_wb (by first | omega | (simp; done) | (simp; omega))))))
  have h5 : w1.heap[b5]? = some (.cells c5 t5 (0, 0)) := (hb.block _ (by first | omega | (simp; done) | (simp; omega))).trans ((heap_wb_ne n57).trans ((heap_wb_ne n56).trans (heap_wb (by first | omega | (simp; done) | (simp; omega)))))
  have h6 : w1.heap[b6]? = some (.cells c6 t6 (0, 0)) := (hb.block _ (by first | omega | (simp; done) | (simp; omega))).trans ((heap_wb_ne n67).trans (heap_wb (by first | omega | (simp; done) | (simp; omega))))
  have h7 : w1.heap[b7]? = some (.cells c7 t7 (0, 0)) := (hb.block _ (by first | omega | (simp; done) | (simp; omega))).trans (heap_wb (by first | omega | (simp; done) | (simp; omega)))
  refine ⟨w1, by rw [wb_self h1, wb_self h2, wb_self h3, wb_self h4, wb_self h5, wb_self h6, wb_self h7], ?_, hz, by omega, by omega, by omega, by omega, by omega, by omega, by omega⟩
  exact Below.trans (below_wb (below_wb (below_wb (below_wb (below_wb (below_wb (below_wb (Below.refl _ _) e1) e2) e3) e4) e5) e6) e7) (hb.mono (by first | omega | (simp; done) | (simp; omega)))
theorem behind_wb1_new {w w1 : World} {B b1 : Nat} {c0 c1 : Array Value} {t0 t1 : TypeId} (hb : Below ((w.alloc (.cells c0 t0)).wb b1 c1 t1).heap.size ((w.alloc (.cells c0 t0)).wb b1 c1 t1) w1) (l1 : b1 < w.heap.size) (e1 : B ≤ b1)  :
    ∃ w2, w1 = ((w2.wb b1 c1 t1).wb w.heap.size c0 t0) ∧ Below B w w2 ∧ w.heap.size < w2.heap.size ∧ b1 < w2.heap.size := by
  have hz := hb.size
  simp only [size_wb, World.size_alloc] at hz
  have h1 : w1.heap[b1]? = some (.cells c1 t1 (0, 0)) := (hb.block _ (by first | omega | (simp; done) | (simp; omega))).trans (heap_wb (by first | omega | (simp; done) | (simp; omega)))
  have h0 : w1.heap[w.heap.size]? = some (.cells c0 t0 (0, 0)) := (hb.block _ (by first | omega | (simp; done) | (simp; omega))).trans ((heap_wb_ne (by omega)).trans (heap_new _ _ _ rfl))
  refine ⟨w1, by rw [wb_self h1, wb_self h0], ?_, by omega, by omega⟩
  exact Below.trans (below_wb (Below.alloc (Below.refl B w) (by omega) _) e1) (hb.mono (by first | omega | (simp; done) | (simp; omega)))
theorem behind_wb2_new {w w1 : World} {B b1 b2 : Nat} {c0 c1 c2 : Array Value} {t0 t1 t2 : TypeId} (hb : Below (((w.alloc (.cells c0 t0)).wb b1 c1 t1).wb b2 c2 t2).heap.size (((w.alloc (.cells c0 t0)).wb b1 c1 t1).wb b2 c2 t2) w1) (l1 : b1 < w.heap.size) (l2 : b2 < w.heap.size) (e1 : B ≤ b1) (e2 : B ≤ b2) (n12 : b2 ≠ b1) :
    ∃ w2, w1 = (((w2.wb b1 c1 t1).wb b2 c2 t2).wb w.heap.size c0 t0) ∧ Below B w w2 ∧ w.heap.size < w2.heap.size ∧ b1 < w2.heap.size ∧ b2 < w2.heap.size := by
  have hz := hb.size
  simp only [size_wb, World.size_alloc] at hz
  have h1 : w1.heap[b1]? = some (.cells c1 t1 (0, 0)) := (hb.block _ (by first | omega | (simp; done) | (simp; omega))).trans ((heap_wb_ne n12).trans (heap_wb (by first | omega | (simp; done) | (simp; omega))))
  have h2 : w1.heap[b2]? = some (.cells c2 t2 (0, 0)) := (hb.block _ (by first | omega | (simp; done) | (simp; omega))).trans (heap_wb (by first | omega | (simp; done) | (simp; omega)))
  have h0 : w1.heap[w.heap.size]? = some (.cells c0 t0 (0, 0)) := (hb.block _ (by first | omega | (simp; done) | (simp; omega))).trans ((heap_wb_ne (by omega)).trans ((heap_wb_ne (by omega)).trans (heap_new _ _ _ rfl)))
  refine ⟨w1, by rw [wb_self h1, wb_self h2, wb_self h0], ?_, by omega, by omega, by omega⟩
  exact Below.trans (below_wb (below_wb (Below.alloc (Below.refl B w) (by omega) _) e1) e2) (hb.mono (by first | omega | (simp; done) | (simp; omega)))
theorem behind_wb3_new {w w1 : World} {B b1 b2 b3 : Nat} {c0 c1 c2 c3 : Array Value} {t0 t1 t2 t3 : TypeId} (hb : Below ((((w.alloc (.cells c0 t0)).wb b1 c1 t1).wb b2 c2 t2).wb b3 c3 t3).heap.size ((((w.alloc (.cells c0 t0)).wb b1 c1 t1).wb b2 c2 t2).wb b3 c3 t3) w1) (l1 : b1 < w.heap.size) (l2 : b2 < w.heap.size) (l3 : b3 < w.heap.size) (e1 : B ≤ b1) (e2 : B ≤ b2) (e3 : B ≤ b3) (n12 : b2 ≠ b1) (n13 : b3 ≠ b1) (n23 : b3 ≠ b2) :
    ∃ w2, w1 = ((((w2.wb b1 c1 t1).wb b2 c2 t2).wb b3 c3 t3).wb w.heap.size c0 t0) ∧ Below B w w2 ∧ w.heap.size < w2.heap.size ∧ b1 < w2.heap.size ∧ b2 < w2.heap.size ∧ b3 < w2.heap.size := by
  have hz := hb.size
  simp only [size_wb, World.size_alloc] at hz
  have h1 : w1.heap[b1]? = some (.cells c1 t1 (0, 0)) := (hb.block _ (by first | omega | (simp; done) | (simp; omega))).trans ((heap_wb_ne n13).trans ((heap_wb_ne n12).trans (heap_wb (by first | omega | (simp; done) | (simp; omega)))))
  have h2 : w1.heap[b2]? = some (.cells c2 t2 (0, 0)) := (hb.block _ (by first | omega | (simp; done) | (simp; omega))).trans ((heap_wb_ne n23).trans (heap_wb (by first | omega | (simp; done) | (simp; omega))))
  have h3 : w1.heap[b3]? = some (.cells c3 t3 (0, 0)) := (hb.block _ (by first | omega | (simp; done) | (simp; omega))).trans (heap_wb (by first | omega | (simp; done) | (simp; omega)))
  have h0 : w1.heap[w.heap.size]? = some (.cells c0 t0 (0, 0)) := (hb.block _ (by first | omega | (simp; done) | (simp; omega))).trans ((heap_wb_ne (by omega)).trans ((heap_wb_ne (by omega)).trans ((heap_wb_ne (by omega)).trans (heap_new _ _ _ rfl))))
  refine ⟨w1, by rw [wb_self h1, wb_self h2, wb_self h3, wb_self h0], ?_, by omega, by omega, by omega, by omega⟩
  exact Below.trans (below_wb (below_wb (below_wb (Below.alloc (Below.refl B w) (by omega) _) e1) e2) e3) (hb.mono (by first | omega | (simp; done) | (simp; omega)))
theorem behind_wb4_new {w w1 : World} {B b1 b2 b3 b4 : Nat} {c0 c1 c2 c3 c4 : Array Value} {t0 t1 t2 t3 t4 : TypeId} (hb : Below (((((w.alloc (.cells c0 t0)).wb b1 c1 t1).wb b2 c2 t2).wb b3 c3 t3).wb b4 c4 t4).heap.size (((((w.alloc (.cells c0 t0)).wb b1 c1 t1).wb b2 c2 t2).wb b3 c3 t3).wb b4 c4 t4) w1) (l1 : b1 < w.heap.size) (l2 : b2 < w.heap.size) (l3 : b3 < w.heap.size) (l4 : b4 < w.heap.size) (e1 : B ≤ b1) (e2 : B ≤ b2) (e3 : B ≤ b3) (e4 : B ≤ b4) (n12 : b2 ≠ b1) (n13 : b3 ≠ b1) (n14 : b4 ≠ b1) (n23 : b3 ≠ b2) (n24 : b4 ≠ b2) (n34 : b4 ≠ b3) :
    ∃ w2, w1 = (((((w2.wb b1 c1 t1).wb b2 c2 t2).wb b3 c3 t3).wb b4 c4 t4).wb w.heap.size c0 t0) ∧ Below B w w2 ∧ w.heap.size < w2.heap.size ∧ b1 < w2.heap.size ∧ b2 < w2.heap.size ∧ b3 < w2.heap.size ∧ b4 < w2.heap.size := by
  have hz := hb.size
  simp only [size_wb, World.size_alloc] at hz
  have h1 : w1.heap[b1]? = some (.cells c1 t1 (0, 0)) := (hb.block _ (by first | omega | (simp; done) | (simp; omega))).trans ((heap_wb_ne n14).trans ((heap_wb_ne n13).trans ((heap_wb_ne n12).trans (heap_wb (by first | omega | (simp; done) | (simp; omega))))))
  have h2 : w1.heap[b2]? = some (.cells c2 t2 (0, 0)) := (hb.block _ (by first | omega | (simp; done) | (simp; omega))).trans ((heap_wb_ne n24).trans ((heap_wb_ne n23).trans (heap_wb (by first | omega | (simp; done) | (simp; omega)))))
  have h3 : w1.heap[b3]? = some (.cells c3 t3 (0, 0)) := (hb.block _ (by first | omega | (simp; done) | (simp; omega))).trans ((heap_wb_ne n34).trans (heap_wb (by first | omega | (simp; done) | (simp; omega))))
  have h4 : w1.heap[b4]? = some (.cells c4 t4 (0, 0)) := (hb.block _ (by first | omega | (simp; done) | (simp; omega))).trans (heap_wb (by first | omega | (simp; done) | (simp; omega)))
  have h0 : w1.heap[w.heap.size]? = some (.cells c0 t0 (0, 0)) := (hb.block _ (by first | omega | (simp; done) | (simp; omega))).trans ((heap_wb_ne (by omega)).trans ((heap_wb_ne (by omega)).trans ((heap_wb_ne (by omega)).trans ((heap_wb_ne (by omega)).trans (heap_new _ _ _ rfl)))))
  refine ⟨w1, by rw [wb_self h1, wb_self h2, wb_self h3, wb_self h4, wb_self h0], ?_, by omega, by omega, by omega, by omega, by omega⟩
  exact Below.trans (below_wb (below_wb (below_wb (below_wb (Below.alloc (Below.refl B w) (by omega) _) e1) e2) e3) e4) (hb.mono (by first | omega | (simp; done) | (simp; omega)))
/-- A block that was just laid, laid over: so that it goes with the others. -/
theorem alloc_as_wb (w : World) (c : Array Value) (t : TypeId) : w.alloc (.cells c t) = (w.alloc (.cells c t)).wb w.heap.size c t := (wb_self (heap_new _ _ _ rfl)).symm

/-- The call leaves all that was there as it was, and hands back just v. -/
def Pur (P : Program) (f : FuncId) (args : Array Value) (w : World) (v : Value) : Prop := Calls P f args w fun e w' => e = .returned v ∧ Below w.heap.size w w'
theorem Pur.out {P : Program} {f : FuncId} {args : Array Value} {w : World} {v : Value} (h : Pur P f args w v) : Calls P f args w fun e w' => e = .returned v ∧ Below w.heap.size w w' := h
/-- The call changes nothing at all, and hands back just v. -/
def Sam (P : Program) (f : FuncId) (args : Array Value) (w : World) (v : Value) : Prop := Calls P f args w fun e w' => e = .returned v ∧ w = w'
theorem Sam.out {P : Program} {f : FuncId} {args : Array Value} {w : World} {v : Value} (h : Sam P f args w v) : Calls P f args w fun e w' => e = .returned v ∧ w = w' := h
/-- In a family 'all below B as in W'. -/
theorem Pur.at_ {P : Program} {f : FuncId} {args : Array Value} {W w : World} {v : Value} {B : Nat} (h : Pur P f args w v) (hB : B ≤ W.heap.size) (hb : Below B W w) : Calls P f args w fun e w' => e = .returned v ∧ Below B W w' :=
  h.out.mono fun _ _ ⟨he, hw⟩ => ⟨he, hb.trans (hw.mono (Nat.le_trans hB hb.size))⟩
end Go.Proofs.YtckbckdaffdjmaaDoor
