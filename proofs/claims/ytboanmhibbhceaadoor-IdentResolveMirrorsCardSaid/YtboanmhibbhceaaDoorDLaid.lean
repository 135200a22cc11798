/- The laid table, and 'turned'. -/
import Derived.Test.YtboanmhibbhceaaDoorDMirror
import Derived.Test.YtboanmhibbhceaaDoorCards
import Derived.Test.YtboanmhibbhceaaDoorTie
import Derived.LaidMore
import Derived.SevenTiedAt
namespace Go.Proofs.YtboanmhibbhceaaDoor
open Go.RowKit
set_option linter.unusedVariables false
set_option linter.unusedSimpArgs false

abbrev verV (k r : Int) : Value := .agg #[.int .i64 k, .int .i64 r]

theorem gT : Tryd.prog.globalNamed "replica/ident.turned" = some 0 := by kernel_rfl
theorem tT : (Tryd.prog.globals[0]?).map (·.type) = some 45 := by kernel_rfl
theorem u3 : Tryd.prog.underlying 3 = some (.int .i64) := by kernel_rfl
theorem u44 : Tryd.prog.underlying 44 = some (.array 2 3) := by kernel_rfl
theorem u45 : Tryd.prog.underlying 45 = some (.array 4 44) := by kernel_rfl
theorem cells3 : Tryd.prog.cellsOf 3 = 1 := by kernel_rfl
theorem cells44 : Tryd.prog.cellsOf 44 = 2 := by kernel_rfl
theorem cells45 : Tryd.prog.cellsOf 45 = 8 := by kernel_rfl

theorem trod_pair {H : Type} {enc : TypeId × Value → H} {w : World} {base : Nat} {sp : Nat → Bool} {held : Bool} {fuel : Nat} {cs : List Value} {x : DataW H × List MemPlace} {a b : Int}
    (h : DataW.trod enc Tryd.prog w base sp held fuel 44 cs = some x) (hx : x.1 = .agg [.lit (.int .i64 a), .lit (.int .i64 b)]) : cs = [.int .i64 a, .int .i64 b] := by
  obtain ⟨xs, m, rfl, rfl, hl, hn, hel⟩ := DataW.trod_array u44 h
  rw [cells44] at hl
  match xs, hn, hx, hel with
  | [x0, x1], _, hx, hel =>
    have e0 := hel 0 (by decide)
    have e1 := hel 1 (by decide)
    simp only [cells3] at e0 e1
    match cs, hl with
    | [c0, c1], _ =>
      simp only [List.map_cons, List.map_nil, DataW.agg.injEq, List.cons.injEq] at hx
      obtain ⟨n0, q0, r0, _⟩ := DataW.trod_int u3 (show DataW.trod enc Tryd.prog w base sp held m 3 [c0] = some x0 from e0)
      obtain ⟨n1, q1, r1, _⟩ := DataW.trod_int u3 (show DataW.trod enc Tryd.prog w base sp held m 3 [c1] = some x1 from e1)
      rw [r0, r1] at hx
      simp at hx q0 q1
      rw [q0, q1, hx.1, hx.2]

theorem of_laid {W : World} (h : laidMetH Tryd.prog Rows.identMirrorsRow.laid W) : Turned W := by
  rw [MakeChecks.laidMetH_plain _ _ _ (by kernel_rfl)] at h
  obtain ⟨ps, ⟨g0, t0, cs0, f0, p0, q0, hg0, ht0, hv0, hd0, _, _⟩, _, _⟩ := h
  obtain rfl := Option.some.inj (gT.symm.trans hg0)
  obtain rfl := Option.some.inj (tT.symm.trans ht0)
  obtain ⟨xs, m, rfl, hx, hl, hn, hel⟩ := DataW.trod_array u45 hd0
  rw [cells45] at hl
  obtain ⟨l⟩ := cs0
  simp only [Prod.mk.injEq] at hx
  replace hx := hx.1
  unfold Rows.laid_replica_ident_turned at hx
  match xs, hn, hx, hel with
  | [x0, x1, x2, x3], _, hx, hel =>
    simp only [List.map_cons, List.map_nil, DataW.agg.injEq, List.cons.injEq] at hx
    have e0 := hel 0 (by decide)
    have e1 := hel 1 (by decide)
    have e2 := hel 2 (by decide)
    have e3 := hel 3 (by decide)
    simp only [cells44] at e0 e1 e2 e3
    match l, hl with
    | [c0, c1, c2, c3, c4, c5, c6, c7], _ =>
      have f0 := trod_pair (cs := [c0, c1]) e0 hx.1.symm
      have f1 := trod_pair (cs := [c2, c3]) e1 hx.2.1.symm
      have f2 := trod_pair (cs := [c4, c5]) e2 hx.2.2.1.symm
      have f3 := trod_pair (cs := [c6, c7]) e3 hx.2.2.2.1.symm
      simp only [List.cons.injEq, and_true] at f0 f1 f2 f3
      have hv := World.var?_cell hg0 hv0
      have hc0 : W.cell? ⟨0, 0, none⟩ = some (.int .i64 1) := by rw [hv 0]; simp [f0]
      refine ⟨?_, hc0, ?_, ?_, ?_, ?_, ?_, ?_, ?_⟩
      · by_cases hz : 0 < W.heap.size
        · exact hz
        · exfalso
          have : W.heap[0]? = none := Array.getElem?_eq_none (by omega)
          simp [World.cell?, this] at hc0
      · rw [hv 1]; simp [f0]
      · rw [hv 2]; simp [f1]
      · rw [hv 3]; simp [f1]
      · rw [hv 4]; simp [f2]
      · rw [hv 5]; simp [f2]
      · rw [hv 6]; simp [f3]
      · rw [hv 7]; simp [f3]

set_option maxRecDepth 100000 in
set_option maxHeartbeats 4000000 in
theorem turned_calls (a b : Int) (w : World) : Pur Tryd.prog 12 #[verV a b, verV (Spec.mirror a) b] w (.bool true) := by
  unfold Pur
  rcases mirror_cases' a with rfl | rfl | rfl | rfl | ⟨e1, e2, e3, e4⟩
  · go_enter Tryd.func12, Tryd.ntmps12; go_wp2; all_goals go_ret; all_goals exact ⟨rfl, (by first | exact Below.refl _ _ | exact below_alloc1 _ _ | exact below_alloc2 _ _ _ | exact below_alloc3 _ _ _ _ | (repeat' (first | assumption | exact Below.refl _ _ | exact below_alloc1 _ _ | exact below_alloc2 _ _ _ | exact below_alloc3 _ _ _ _ | (refine Below.drew ?_) | (refine below_wb ?_ ?_) | (refine Below.alloc ?_ ?_ _) | omega | (simp; done) | (simp; omega))))⟩
  · go_enter Tryd.func12, Tryd.ntmps12; go_wp2; all_goals go_ret; all_goals exact ⟨rfl, (by first | exact Below.refl _ _ | exact below_alloc1 _ _ | exact below_alloc2 _ _ _ | exact below_alloc3 _ _ _ _ | (repeat' (first | assumption | exact Below.refl _ _ | exact below_alloc1 _ _ | exact below_alloc2 _ _ _ | exact below_alloc3 _ _ _ _ | (refine Below.drew ?_) | (refine below_wb ?_ ?_) | (refine Below.alloc ?_ ?_ _) | omega | (simp; done) | (simp; omega))))⟩
  · go_enter Tryd.func12, Tryd.ntmps12; go_wp2; all_goals go_ret; all_goals exact ⟨rfl, (by first | exact Below.refl _ _ | exact below_alloc1 _ _ | exact below_alloc2 _ _ _ | exact below_alloc3 _ _ _ _ | (repeat' (first | assumption | exact Below.refl _ _ | exact below_alloc1 _ _ | exact below_alloc2 _ _ _ | exact below_alloc3 _ _ _ _ | (refine Below.drew ?_) | (refine below_wb ?_ ?_) | (refine Below.alloc ?_ ?_ _) | omega | (simp; done) | (simp; omega))))⟩
  · go_enter Tryd.func12, Tryd.ntmps12; go_wp2; all_goals go_ret; all_goals exact ⟨rfl, (by first | exact Below.refl _ _ | exact below_alloc1 _ _ | exact below_alloc2 _ _ _ | exact below_alloc3 _ _ _ _ | (repeat' (first | assumption | exact Below.refl _ _ | exact below_alloc1 _ _ | exact below_alloc2 _ _ _ | exact below_alloc3 _ _ _ _ | (refine Below.drew ?_) | (refine below_wb ?_ ?_) | (refine Below.alloc ?_ ?_ _) | omega | (simp; done) | (simp; omega))))⟩
  · rw [mirror_else e1 e2 e3 e4]
    go_enter Tryd.func12, Tryd.ntmps12; go_wp2; all_goals go_ret; all_goals exact ⟨by first | rfl | (simp; done), (by first | exact Below.refl _ _ | exact below_alloc1 _ _ | exact below_alloc2 _ _ _ | exact below_alloc3 _ _ _ _ | (repeat' (first | assumption | exact Below.refl _ _ | exact below_alloc1 _ _ | exact below_alloc2 _ _ _ | exact below_alloc3 _ _ _ _ | (refine Below.drew ?_) | (refine below_wb ?_ ?_) | (refine Below.alloc ?_ ?_ _) | omega | (simp; done) | (simp; omega))))⟩

end Go.Proofs.YtboanmhibbhceaaDoor
