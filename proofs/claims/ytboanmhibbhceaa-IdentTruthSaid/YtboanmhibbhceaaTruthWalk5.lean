/- IdentTruth: the verdict that both sides come to. -/
import Derived.Test.YtboanmhibbhceaaTruthWalk4
import Derived.Test.YtboanmhibbhceaaSettle
import Derived.Test.YtboanmhibbhceaaComp2
namespace Go.Proofs.Ytboanmhibbhceaa
open Go.RowKit
set_option linter.unusedVariables false
set_option linter.unusedSimpArgs false

theorem mirror_cases' (k : Int) : k = 1 ∨ k = 2 ∨ k = 3 ∨ k = 4 ∨ ((k == 1) = false ∧ (k == 2) = false ∧ (k == 3) = false ∧ (k == 4) = false) := by
  simp only [beq_eq_false_iff_ne, ne_eq]; omega
theorem mirror_else {k : Int} (e1 : (k == 1) = false) (e2 : (k == 2) = false) (e3 : (k == 3) = false) (e4 : (k == 4) = false) : Spec.mirror k = k := by
  simp only [beq_eq_false_iff_ne, ne_eq] at e1 e2 e3 e4
  unfold Spec.mirror
  rw [if_neg e1, if_neg e2, if_neg e3, if_neg e4]

abbrev verV (k r : Int) : Value := .agg #[.int .i64 k, .int .i64 r]
abbrev verC (k r : Int) : Array Value := #[.int .i64 k, .int .i64 r]

set_option maxRecDepth 100000 in
set_option maxHeartbeats 4000000 in
theorem turned_calls (a b : Int) (w : World) : Pur Try.prog 39 #[verV a b, verV (Spec.mirror a) b] w (.bool true) := by
  unfold Pur
  rcases mirror_cases' a with rfl | rfl | rfl | rfl | ⟨e1, e2, e3, e4⟩
  · go_enter Try.func39, Try.ntmps39; go_wp2; all_goals go_ret; all_goals exact ⟨rfl, (by first | exact Below.refl _ _ | exact below_alloc1 _ _ | exact below_alloc2 _ _ _ | exact below_alloc3 _ _ _ _ | (repeat' (first | assumption | exact Below.refl _ _ | exact below_alloc1 _ _ | exact below_alloc2 _ _ _ | exact below_alloc3 _ _ _ _ | (refine Below.drew ?_) | (refine below_wb ?_ ?_) | (refine Below.alloc ?_ ?_ _) | omega | (simp; done) | (simp; omega))))⟩
  · go_enter Try.func39, Try.ntmps39; go_wp2; all_goals go_ret; all_goals exact ⟨rfl, (by first | exact Below.refl _ _ | exact below_alloc1 _ _ | exact below_alloc2 _ _ _ | exact below_alloc3 _ _ _ _ | (repeat' (first | assumption | exact Below.refl _ _ | exact below_alloc1 _ _ | exact below_alloc2 _ _ _ | exact below_alloc3 _ _ _ _ | (refine Below.drew ?_) | (refine below_wb ?_ ?_) | (refine Below.alloc ?_ ?_ _) | omega | (simp; done) | (simp; omega))))⟩
  · go_enter Try.func39, Try.ntmps39; go_wp2; all_goals go_ret; all_goals exact ⟨rfl, (by first | exact Below.refl _ _ | exact below_alloc1 _ _ | exact below_alloc2 _ _ _ | exact below_alloc3 _ _ _ _ | (repeat' (first | assumption | exact Below.refl _ _ | exact below_alloc1 _ _ | exact below_alloc2 _ _ _ | exact below_alloc3 _ _ _ _ | (refine Below.drew ?_) | (refine below_wb ?_ ?_) | (refine Below.alloc ?_ ?_ _) | omega | (simp; done) | (simp; omega))))⟩
  · go_enter Try.func39, Try.ntmps39; go_wp2; all_goals go_ret; all_goals exact ⟨rfl, (by first | exact Below.refl _ _ | exact below_alloc1 _ _ | exact below_alloc2 _ _ _ | exact below_alloc3 _ _ _ _ | (repeat' (first | assumption | exact Below.refl _ _ | exact below_alloc1 _ _ | exact below_alloc2 _ _ _ | exact below_alloc3 _ _ _ _ | (refine Below.drew ?_) | (refine below_wb ?_ ?_) | (refine Below.alloc ?_ ?_ _) | omega | (simp; done) | (simp; omega))))⟩
  · rw [mirror_else e1 e2 e3 e4]
    go_enter Try.func39, Try.ntmps39; go_wp2; all_goals go_ret; all_goals exact ⟨by first | rfl | (simp; done), (by first | exact Below.refl _ _ | exact below_alloc1 _ _ | exact below_alloc2 _ _ _ | exact below_alloc3 _ _ _ _ | (repeat' (first | assumption | exact Below.refl _ _ | exact below_alloc1 _ _ | exact below_alloc2 _ _ _ | exact below_alloc3 _ _ _ _ | (refine Below.drew ?_) | (refine below_wb ?_ ?_) | (refine Below.alloc ?_ ?_ _) | omega | (simp; done) | (simp; omega))))⟩

theorem settle_mirror {k r own peer a b c : Int} (hk0 : 0 ≤ k) (hk7 : k ≤ 7) (ho : own = 0 ∨ own = 2) (hp : peer = 0 ∨ peer = 2) (h : Spec.settle k r own peer = (a, b, c)) : Spec.settle (Spec.mirror k) r peer own = (Spec.mirror a, b, c) := by
  have hk : k = 0 ∨ k = 1 ∨ k = 2 ∨ k = 3 ∨ k = 4 ∨ k = 5 ∨ k = 6 ∨ k = 7 := by omega
  clear hk0 hk7
  rcases hk with rfl | rfl | rfl | rfl | rfl | rfl | rfl | rfl <;> rcases ho with rfl | rfl <;> rcases hp with rfl | rfl <;>
    (have h1 := (Prod.mk.inj h).1; have h2 := (Prod.mk.inj (Prod.mk.inj h).2).1; have h3 := (Prod.mk.inj (Prod.mk.inj h).2).2; subst h1; subst h2; subst h3; rfl)

/-- What both sides reckon. -/
theorem reckon {s : Truth.St} {k r : Int} (hv : Truth.verdict s.a s.b = (k, r, 0)) :
    ∃ kk rr, Spec.compare ⟨(0 : Int) == 0, s.a.g, Go.bits .and .u32 0 8 != 0, s.b.g, Go.bits .and .u32 0 8 != 0⟩ = (kk, rr) ∧ Spec.compare ⟨(1 : Int) == 0, s.b.g, Go.bits .and .u32 0 8 != 0, s.a.g, Go.bits .and .u32 0 8 != 0⟩ = (Spec.mirror kk, rr)
      ∧ Spec.settle kk rr (Truth.disk s.a.whole) (Truth.disk s.b.whole) = (k, r, 0) ∧ Spec.settle (Spec.mirror kk) rr (Truth.disk s.b.whole) (Truth.disk s.a.whole) = (Spec.mirror k, r, 0) := by
  have h0 : ((0 : Int) == 0) = true := rfl
  have h1 : ((1 : Int) == 0) = false := rfl
  have hb : (Go.bits .and .u32 0 8 != 0) = false := by kernel_rfl
  rw [h0, h1, hb, cmp_own, cmp_peer]
  obtain ⟨r0, r7, _, _⟩ := Truth.first_range s.a.g s.b.g false false
  have hd : ∀ x, Truth.disk x = 0 ∨ Truth.disk x = 2 := fun x => by cases x <;> simp [Truth.disk]
  exact ⟨_, _, rfl, rfl, hv, settle_mirror r0 r7 (hd _) (hd _) hv⟩

/-- Blocks of the walk's own, each a verdict. -/
structure Fx (n0 : Nat) (w : World) (L : List (Nat × Array Value)) (w' : World) : Prop where
  below : Below n0 w w'
  size : n0 ≤ w'.heap.size
  blk : ∀ p ∈ L, n0 ≤ p.1 ∧ w'.heap[p.1]? = some (.cells p.2 34 (0, 0))
  nd : (L.map Prod.fst).Nodup

theorem heap_lt {w : World} {b : Nat} {o : Obj} (h : w.heap[b]? = some o) : b < w.heap.size := by
  rcases Nat.lt_or_ge b w.heap.size with h' | h'
  · exact h'
  · rw [Array.getElem?_eq_none h'] at h; cases h

theorem Fx.mono {n0 : Nat} {w w1 w2 : World} {L : List (Nat × Array Value)} (h : Fx n0 w L w1) (hb : Below w1.heap.size w1 w2) : Fx n0 w L w2 :=
  ⟨h.below.trans (hb.mono h.size), Nat.le_trans h.size hb.size, fun p hp => ⟨(h.blk p hp).1, (hb.block _ (heap_lt (h.blk p hp).2)).trans (h.blk p hp).2⟩, h.nd⟩
theorem Fx.tail {n0 : Nat} {w w1 : World} {p : Nat × Array Value} {L : List (Nat × Array Value)} (h : Fx n0 w (p :: L) w1) : Fx n0 w L w1 :=
  ⟨h.below, h.size, fun q hq => h.blk q (List.mem_cons_of_mem _ hq), (List.nodup_cons.1 h.nd).2⟩
theorem Fx.new {n0 : Nat} {w w1 : World} {L : List (Nat × Array Value)} (h : Fx n0 w L w1) (c : Array Value) : Fx n0 w ((w1.heap.size, c) :: L) (w1.alloc (.cells c 34)) := by
  refine ⟨h.below.alloc h.size _, by simpa using Nat.le_succ_of_le h.size, fun p hp => ?_, List.nodup_cons.2 ⟨fun hm => ?_, h.nd⟩⟩
  · rcases List.mem_cons.1 hp with rfl | hp
    · exact ⟨h.size, heap_new _ _ _ rfl⟩
    · exact ⟨(h.blk p hp).1, (heap_old _ _ _ (heap_lt (h.blk p hp).2)).trans (h.blk p hp).2⟩
  · obtain ⟨q, hq, e⟩ := List.mem_map.1 hm
    have := heap_lt (h.blk q hq).2
    simp only at e
    omega
theorem Fx.put {n0 : Nat} {w w1 : World} {b : Nat} {c c' : Array Value} {L : List (Nat × Array Value)} (h : Fx n0 w ((b, c) :: L) w1) : Fx n0 w ((b, c') :: L) (w1.wb b c' 34) := by
  have hb := h.blk _ List.mem_cons_self
  refine ⟨below_wb h.below hb.1, by simpa using h.size, fun p hp => ?_, h.nd⟩
  rcases List.mem_cons.1 hp with rfl | hp
  · exact ⟨hb.1, heap_wb (heap_lt hb.2)⟩
  · refine ⟨(h.blk p (List.mem_cons_of_mem _ hp)).1, (heap_wb_ne fun e => ?_).trans (h.blk p (List.mem_cons_of_mem _ hp)).2⟩
    exact (List.nodup_cons.1 h.nd).1 (List.mem_map.2 ⟨p, hp, e.symm⟩)
theorem Fx.cell {n0 : Nat} {w w1 : World} {L : List (Nat × Array Value)} (h : Fx n0 w L w1) {p : Nat × Array Value} (hp : p ∈ L) (o : Nat) : w1.cell? ⟨p.1, o, none⟩ = p.2[o]? := has_cell' (h.blk p hp).2 o
theorem Fx.perm {n0 : Nat} {w w1 : World} {L L' : List (Nat × Array Value)} (h : Fx n0 w L w1) (e : L.Perm L') : Fx n0 w L' w1 :=
  ⟨h.below, h.size, fun p hp => h.blk p (e.mem_iff.2 hp), (e.map Prod.fst).nodup_iff.1 h.nd⟩

/-- A region that lays one verdict. -/
def RV (n0 : Nat) (w : World) (L : List (Nat × Array Value)) (z c : Array Value) : List Value → World → Prop
  | [], w' => Fx n0 w L w'
  | [u], w' => ∃ b, u = .pointer (some ⟨b, 0, none⟩) ∧ Fx n0 w ((b, z) :: L) w'
  | [u, x], w' => x = undef ∧ ∃ b, u = .pointer (some ⟨b, 0, none⟩) ∧ Fx n0 w ((b, c) :: L) w'
  | _, _ => False
theorem RV.fx {n0 : Nat} {w : World} {L : List (Nat × Array Value)} {z c : Array Value} : ∀ (g : List Value) (w' : World), RV n0 w L z c g w' → Fx n0 w L w'
  | [], _, h => h
  | [_], _, ⟨_, _, h⟩ => h.tail
  | [_, _], _, ⟨_, _, _, h⟩ => h.tail
theorem RV.mono {n0 : Nat} {w : World} {L : List (Nat × Array Value)} {z c : Array Value} : ∀ (g : List Value) (w' w'' : World), RV n0 w L z c g w' → Below w'.heap.size w' w'' → RV n0 w L z c g w''
  | [], _, _, h, hb => Fx.mono h hb
  | [_], _, _, ⟨b, e, h⟩, hb => ⟨b, e, h.mono hb⟩
  | [_, _], _, _, ⟨x, b, e, h⟩, hb => ⟨x, b, e, h.mono hb⟩

/-- A region that stores into one block of the walk's own. -/
def RW (n0 : Nat) (w : World) (b : Nat) (L : List (Nat × Array Value)) (z c : Array Value) : List Value → World → Prop
  | [], w' => Fx n0 w ((b, z) :: L) w'
  | [x], w' => x = undef ∧ Fx n0 w ((b, c) :: L) w'
  | _, _ => False
theorem RW.fx {n0 b : Nat} {w : World} {L : List (Nat × Array Value)} {z c : Array Value} : ∀ (g : List Value) (w' : World), RW n0 w b L z c g w' → Fx n0 w L w'
  | [], _, h => h.tail
  | [_], _, ⟨_, h⟩ => h.tail
theorem RW.mono {n0 b : Nat} {w : World} {L : List (Nat × Array Value)} {z c : Array Value} : ∀ (g : List Value) (w' w'' : World), RW n0 w b L z c g w' → Below w'.heap.size w' w'' → RW n0 w b L z c g w''
  | [], _, _, h, hb => Fx.mono h hb
  | [_], _, _, ⟨x, h⟩, hb => ⟨x, h.mono hb⟩
end Go.Proofs.Ytboanmhibbhceaa
