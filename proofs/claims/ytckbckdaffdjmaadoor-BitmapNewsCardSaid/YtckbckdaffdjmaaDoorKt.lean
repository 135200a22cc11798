/- What all the walks of this seat use: loops that count their rounds, frames with free slots, regions walked in a family of worlds. -/
import Derived.Test.YtckbckdaffdjmaaDoorRegP2
import Derived.LoopN
import Derived.IntWalk
import Derived.Outline
import Derived.RegionTactic
import Derived.Lib.Hide
namespace Go.Proofs.YtckbckdaffdjmaaDoor
open Go.RowKit
set_option linter.unusedVariables false
set_option linter.unusedSimpArgs false

theorem ret_i64 {a b : Int} (h : a = b) : Ending.returned (.int .i64 a) = .returned (.int .i64 b) := by rw [h]
theorem ret_int {k : IntKind} {a b : Int} (h : a = b) : Ending.returned (.int k a) = .returned (.int k b) := by rw [h]
theorem ret_bool {a b : Bool} (h : a = b) : Ending.returned (.bool a) = .returned (.bool b) := by rw [h]
theorem has_cell {w : World} {b : Nat} {c : Array Value} {t : TypeId} (h : w.heap[b]? = some (.cells c t (0, 0))) (o : Nat) : w.cell? ⟨b, o, none⟩ = c[o]? := by simp [World.cell?, h]
theorem heap_lt {w : World} {b : Nat} {o : Obj} (h : w.heap[b]? = some o) : b < w.heap.size := (Array.getElem?_eq_some_iff.1 h).1
theorem cell_lt {w : World} {a : Addr} {v : Value} (h : w.cell? a = some v) : a.block < w.heap.size := by
  unfold World.cell? at h
  split at h
  · rename_i hh
    exact (Array.getElem?_eq_some_iff.1 hh).1
  · simp at h
theorem blk_below {w w' : World} {b : Nat} {o : Obj} (h : w.heap[b]? = some o) (hb : Below w.heap.size w w') : w'.heap[b]? = some o := (hb.block b (heap_lt h)).trans h
theorem blk_grown {w w' : World} {b : Nat} {o : Obj} {r : Option Nat} (h : w.heap[b]? = some o) (hb : w.grownBy w' r) (hne : r ≠ some b) : w'.heap[b]? = some o := (hb.block b (heap_lt h) (fun e => hne e.symm)).trans h
theorem add_flat (g o i : Nat) : (⟨g, o, none⟩ : Addr).add i = ⟨g, o + i, none⟩ := by unfold Addr.add; split <;> simp_all

theorem wp_region_here {P : Program} {id : Nat} {Q : Exit → Act → World → Prop} {a : Act} {w : World} {l : List Oper} (hm : P.follows .mixedOrders = true) (hB : Region.lexB .any l.toArray = true)
    (h : wpR P l.toArray (Below w.heap.size w) (fun a' => ∀ w', Below w.heap.size w w' → Q .normal a' w') l a) : (Code.region id l.toArray true).wp P Q a w :=
  wp_region_R (Below w.heap.size w) hm hB ⟨rfl, rfl, rfl, Nat.le_refl _, fun _ _ => rfl⟩ h

/-- A loop of n rounds under an invariant that counts them. -/
theorem wp_loop_count {P : Program} {c : Code} {Q : Exit → Act → World → Prop} {a : Act} {w : World} (I : Nat → Act → World → Prop) (n : Nat) (h0 : I 0 a w)
    (hstep : ∀ i a w, i < n → I i a w → c.wp P (Exit.then (I (i + 1)) Q) a w) (hend : ∀ a w, I n a w → c.wp P (Exit.then (fun _ _ => False) Q) a w) : (Code.loop c).wp P Q a w := by
  have key : ∀ k i a w, i + k = n → I i a w → Code.rounds P c Q (k + 1) a w := by
    intro k
    induction k with
    | zero =>
      intro i a w hi h
      have : i = n := by omega
      subst this
      exact hend a w h
    | succ k ih =>
      intro i a w hi h
      refine Code.wp_mono (fun e a' w' he => ?_) (hstep i a w (by omega) h)
      cases e <;> first | exact ih (i + 1) a' w' (by omega) he | exact he
  exact wp_loop_rounds (n + 1) (key n 0 a w (by omega) h0)
theorem exU {t : Array Value} (F : (Nat → Value) → Act) (h : (⟨t, []⟩ : Act) = F (fun k => t.getD k undef)) : ∃ U, (⟨t, []⟩ : Act) = F U := ⟨_, h⟩
theorem i64_next (i : Nat) (h : i < 9223372036854775807) : IntKind.i64.wrap ((i : Int) + 1) = ((i + 1 : Nat) : Int) := by
  rw [IntWalk.i64_in _ ⟨by omega, by omega⟩]; rfl
theorem results_tmp4 {fn : Func} {t u v x : Tmp} (h : fn.results = #[.tmp t, .tmp u, .tmp v, .tmp x]) (tmps : Array Value) (P : Program) (w : World) :
    (results fn tmps).run P w = .ok (.tuple #[tmps.getD t undef, tmps.getD u undef, tmps.getD v undef, tmps.getD x undef]) w := by simp [results, h]
end Go.Proofs.YtckbckdaffdjmaaDoor
