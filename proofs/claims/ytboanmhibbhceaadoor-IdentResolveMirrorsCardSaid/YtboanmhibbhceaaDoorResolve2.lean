/- Resolve of the program: one plain function of its numbers. -/
import Derived.Test.YtboanmhibbhceaaDoorResolve
namespace Go.Proofs.YtboanmhibbhceaaDoor
open Go.RowKit
set_option linter.unusedVariables false
set_option linter.unusedSimpArgs false

/-- Resolve's arguments as the quarrel that it makes of them. -/
def mkQ (node sb0 sb1 sb2 ownRole peerRole ownMarked peerMarked ownFlags peerFlags : Int) : Q :=
  ⟨sb0, sb1, sb2, node, ownRole, peerRole, ownMarked, peerMarked, Go.bits .and .u32 ownFlags 16 != 0, Go.bits .and .u32 peerFlags 16 != 0⟩

theorem res_kinds {k r : Int} {q : Q} (h : k < 0 ∨ 7 < k) : Spec.resolve k r q = (0, 0, 1) := by unfold Spec.resolve; rw [if_pos h]
theorem res_valid {k r : Int} {q : Q} (h : ¬ (k < 0 ∨ 7 < k)) (hv : ¬ Spec.validQ q = 0) : Spec.resolve k r q = (0, 0, Spec.validQ q) := by unfold Spec.resolve; rw [if_neg h, if_pos hv]
theorem res_other {k r : Int} {q : Q} (h : ¬ (k < 0 ∨ 7 < k)) (hv : Spec.validQ q = 0) (h5 : ¬ k = 5) (h6 : ¬ k = 6) : Spec.resolve k r q = (k, r, 0) := by
  unfold Spec.resolve; rw [if_neg h, if_neg (by omega), if_pos ⟨h5, h6⟩]
theorem res_none {k r : Int} {q : Q} (h : k = 5 ∨ k = 6) (hv : Spec.validQ q = 0) (hw : (Spec.who q).1 = 0) : Spec.resolve k r q = (k, r, 0) := by
  unfold Spec.resolve; rw [if_neg (by omega), if_neg (by omega), if_neg (by omega), if_pos hw]
theorem res_five {r : Int} {q : Q} (hv : Spec.validQ q = 0) (hw : ¬ (Spec.who q).1 = 0) : Spec.resolve 5 r q = ((if (Spec.who q).1 = 2 then 1 else 2), (Spec.who q).2, 0) := by
  unfold Spec.resolve; rw [if_neg (by omega), if_neg (by omega), if_neg (by omega), if_neg hw, if_pos rfl]
theorem res_six {r : Int} {q : Q} (hv : Spec.validQ q = 0) (hw : ¬ (Spec.who q).1 = 0) : Spec.resolve 6 r q = ((if (Spec.who q).1 = 1 then 4 else 3), (Spec.who q).2, 0) := by
  unfold Spec.resolve; rw [if_neg (by omega), if_neg (by omega), if_neg (by omega), if_neg hw, if_neg (by omega)]

abbrev resArgs (k r node sb0 sb1 sb2 ownRole peerRole ownMarked peerMarked ownFlags peerFlags : Int) : Array Value :=
  #[.agg #[.int .i64 k, .int .i64 r], .int .i64 node, .int .i64 sb0, .int .i64 sb1, .int .i64 sb2, .int .i64 ownRole, .int .i64 peerRole, .int .i64 ownMarked, .int .i64 peerMarked, .int .u32 ownFlags, .int .u32 peerFlags]

set_option maxRecDepth 100000 in
set_option maxHeartbeats 4000000 in
theorem resolve_kinds (k r node sb0 sb1 sb2 ownRole peerRole ownMarked peerMarked ownFlags peerFlags : Int) (w : World) (h : k < 0 ∨ 7 < k) :
    Pur Tryd.prog 19 (resArgs k r node sb0 sb1 sb2 ownRole peerRole ownMarked peerMarked ownFlags peerFlags) w (vr (0, 0, 1)) := by
  unfold Pur
  rcases h with h | h
  · go_enter Tryd.func19, Tryd.ntmps19
    go_wp2
    exact bodyPost_ret (v := vr (0, 0, 1)) (by simp [results, Tryd.results19, go_sem]) rfl ⟨rfl, (by first | exact Below.refl _ _ | exact below_alloc1 _ _ | exact below_alloc2 _ _ _ | exact below_alloc3 _ _ _ _ | (repeat' (first | assumption | exact Below.refl _ _ | exact below_alloc1 _ _ | exact below_alloc2 _ _ _ | exact below_alloc3 _ _ _ _ | (refine Below.drew ?_) | (refine below_wb ?_ ?_) | (refine Below.alloc ?_ ?_ _) | omega | (simp; done) | (simp; omega))))⟩
  · have h0 : 0 ≤ k := by omega
    have h1 : ¬ k ≤ 7 := by omega
    go_enter Tryd.func19, Tryd.ntmps19
    go_wp2
    exact bodyPost_ret (v := vr (0, 0, 1)) (by simp [results, Tryd.results19, go_sem]) rfl ⟨rfl, (by first | exact Below.refl _ _ | exact below_alloc1 _ _ | exact below_alloc2 _ _ _ | exact below_alloc3 _ _ _ _ | (repeat' (first | assumption | exact Below.refl _ _ | exact below_alloc1 _ _ | exact below_alloc2 _ _ _ | exact below_alloc3 _ _ _ _ | (refine Below.drew ?_) | (refine below_wb ?_ ?_) | (refine Below.alloc ?_ ?_ _) | omega | (simp; done) | (simp; omega))))⟩

set_option maxRecDepth 100000 in
set_option maxHeartbeats 4000000 in
theorem resolve_valid (k r node sb0 sb1 sb2 ownRole peerRole ownMarked peerMarked ownFlags peerFlags : Int) (w : World) (h0 : 0 ≤ k) (h7 : k ≤ 7) (hv : (Spec.validQ (mkQ node sb0 sb1 sb2 ownRole peerRole ownMarked peerMarked ownFlags peerFlags) != 0) = true)  :
    Pur Tryd.prog 19 (resArgs k r node sb0 sb1 sb2 ownRole peerRole ownMarked peerMarked ownFlags peerFlags) w (vr (0, 0, Spec.validQ (mkQ node sb0 sb1 sb2 ownRole peerRole ownMarked peerMarked ownFlags peerFlags))) := by
  unfold Pur
  go_enter Tryd.func19, Tryd.ntmps19
  go_wp2_with (first | (go_at_call 21; refine (valid_calls (mkQ node sb0 sb1 sb2 ownRole peerRole ownMarked peerMarked ownFlags peerFlags) _).out.mono ?_; rintro e w1 ⟨rfl, hb1⟩; obtain ⟨w2, rfl, hb3, hz0, hz1, hz2, hz3⟩ := behind_alloc4 hb1; clear hb1) | go_in)
  exact bodyPost_ret (v := vr (0, 0, Spec.validQ (mkQ node sb0 sb1 sb2 ownRole peerRole ownMarked peerMarked ownFlags peerFlags))) (by simp [results, Tryd.results19, go_sem, hz1]) rfl ⟨rfl, (by first | exact Below.refl _ _ | exact below_alloc1 _ _ | exact below_alloc2 _ _ _ | exact below_alloc3 _ _ _ _ | (repeat' (first | assumption | exact Below.refl _ _ | exact below_alloc1 _ _ | exact below_alloc2 _ _ _ | exact below_alloc3 _ _ _ _ | (refine Below.drew ?_) | (refine below_wb ?_ ?_) | (refine Below.alloc ?_ ?_ _) | omega | (simp; done) | (simp; omega))))⟩

set_option maxRecDepth 100000 in
set_option maxHeartbeats 4000000 in
theorem resolve_other (k r node sb0 sb1 sb2 ownRole peerRole ownMarked peerMarked ownFlags peerFlags : Int) (w : World) (h0 : 0 ≤ k) (h7 : k ≤ 7) (hv : (Spec.validQ (mkQ node sb0 sb1 sb2 ownRole peerRole ownMarked peerMarked ownFlags peerFlags) != 0) = false) (e5 : (k != 5) = true) (e6 : (k != 6) = true) :
    Pur Tryd.prog 19 (resArgs k r node sb0 sb1 sb2 ownRole peerRole ownMarked peerMarked ownFlags peerFlags) w (vr (k, r, 0)) := by
  unfold Pur
  go_enter Tryd.func19, Tryd.ntmps19
  go_wp2_with (first | (go_at_call 21; refine (valid_calls (mkQ node sb0 sb1 sb2 ownRole peerRole ownMarked peerMarked ownFlags peerFlags) _).out.mono ?_; rintro e w1 ⟨rfl, hb1⟩; obtain ⟨w2, rfl, hb3, hz0, hz1, hz2, hz3⟩ := behind_alloc4 hb1; clear hb1) | go_in)
  exact bodyPost_ret (v := vr (k, r, 0)) (by simp [results, Tryd.results19, go_sem, hz1]) rfl ⟨rfl, (by first | exact Below.refl _ _ | exact below_alloc1 _ _ | exact below_alloc2 _ _ _ | exact below_alloc3 _ _ _ _ | (repeat' (first | assumption | exact Below.refl _ _ | exact below_alloc1 _ _ | exact below_alloc2 _ _ _ | exact below_alloc3 _ _ _ _ | (refine Below.drew ?_) | (refine below_wb ?_ ?_) | (refine Below.alloc ?_ ?_ _) | omega | (simp; done) | (simp; omega))))⟩

set_option maxRecDepth 100000 in
set_option maxHeartbeats 4000000 in
theorem resolve_5_none (r node sb0 sb1 sb2 ownRole peerRole ownMarked peerMarked ownFlags peerFlags : Int) (w : World) (hv : (Spec.validQ (mkQ node sb0 sb1 sb2 ownRole peerRole ownMarked peerMarked ownFlags peerFlags) != 0) = false) (e0 : ((Spec.who (mkQ node sb0 sb1 sb2 ownRole peerRole ownMarked peerMarked ownFlags peerFlags)).1 == 0) = true) :
    Pur Tryd.prog 19 (resArgs 5 r node sb0 sb1 sb2 ownRole peerRole ownMarked peerMarked ownFlags peerFlags) w (vr (5, r, 0)) := by
  unfold Pur
  go_enter Tryd.func19, Tryd.ntmps19
  go_wp2_with (first | (go_at_call 21; refine (valid_calls (mkQ node sb0 sb1 sb2 ownRole peerRole ownMarked peerMarked ownFlags peerFlags) _).out.mono ?_; rintro e w1 ⟨rfl, hb1⟩; obtain ⟨w2, rfl, hb3, hz0, hz1, hz2, hz3⟩ := behind_alloc4 hb1; clear hb1) | (go_at_call 22; refine (who_calls (mkQ node sb0 sb1 sb2 ownRole peerRole ownMarked peerMarked ownFlags peerFlags) _).out.mono ?_; rintro e w1 ⟨rfl, hb1⟩; obtain ⟨w4, rfl, hb4, _, hy0, hy1, hy2, hy3⟩ := behind_wb4 (B := w.heap.size) hb1 hz0 hz1 hz2 hz3 (by omega) (by omega) (by omega) (by omega) (by omega) (by omega) (by omega) (by omega) (by omega) (by omega); have hb5 := hb3.trans hb4; clear hb1 hb3 hb4 hz0 hz1 hz2 hz3) | go_in)
  exact bodyPost_ret (v := vr (5, r, 0)) (by simp [results, Tryd.results19, go_sem, hy1]) rfl ⟨rfl, (by first | exact Below.refl _ _ | exact below_alloc1 _ _ | exact below_alloc2 _ _ _ | exact below_alloc3 _ _ _ _ | (repeat' (first | assumption | exact Below.refl _ _ | exact below_alloc1 _ _ | exact below_alloc2 _ _ _ | exact below_alloc3 _ _ _ _ | (refine Below.drew ?_) | (refine below_wb ?_ ?_) | (refine Below.alloc ?_ ?_ _) | omega | (simp; done) | (simp; omega))))⟩

set_option maxRecDepth 100000 in
set_option maxHeartbeats 4000000 in
theorem resolve_5_true (r node sb0 sb1 sb2 ownRole peerRole ownMarked peerMarked ownFlags peerFlags : Int) (w : World) (hv : (Spec.validQ (mkQ node sb0 sb1 sb2 ownRole peerRole ownMarked peerMarked ownFlags peerFlags) != 0) = false) (e0 : ((Spec.who (mkQ node sb0 sb1 sb2 ownRole peerRole ownMarked peerMarked ownFlags peerFlags)).1 == 0) = false) (e2 : ((Spec.who (mkQ node sb0 sb1 sb2 ownRole peerRole ownMarked peerMarked ownFlags peerFlags)).1 == 2) = true) :
    Pur Tryd.prog 19 (resArgs 5 r node sb0 sb1 sb2 ownRole peerRole ownMarked peerMarked ownFlags peerFlags) w (vr (1, (Spec.who (mkQ node sb0 sb1 sb2 ownRole peerRole ownMarked peerMarked ownFlags peerFlags)).2, 0)) := by
  unfold Pur
  go_enter Tryd.func19, Tryd.ntmps19
  go_wp2_with (first | (go_at_call 21; refine (valid_calls (mkQ node sb0 sb1 sb2 ownRole peerRole ownMarked peerMarked ownFlags peerFlags) _).out.mono ?_; rintro e w1 ⟨rfl, hb1⟩; obtain ⟨w2, rfl, hb3, hz0, hz1, hz2, hz3⟩ := behind_alloc4 hb1; clear hb1) | (go_at_call 22; refine (who_calls (mkQ node sb0 sb1 sb2 ownRole peerRole ownMarked peerMarked ownFlags peerFlags) _).out.mono ?_; rintro e w1 ⟨rfl, hb1⟩; obtain ⟨w4, rfl, hb4, _, hy0, hy1, hy2, hy3⟩ := behind_wb4 (B := w.heap.size) hb1 hz0 hz1 hz2 hz3 (by omega) (by omega) (by omega) (by omega) (by omega) (by omega) (by omega) (by omega) (by omega) (by omega); have hb5 := hb3.trans hb4; clear hb1 hb3 hb4 hz0 hz1 hz2 hz3) | go_in)
  exact bodyPost_ret (v := vr (1, (Spec.who (mkQ node sb0 sb1 sb2 ownRole peerRole ownMarked peerMarked ownFlags peerFlags)).2, 0)) (by simp [results, Tryd.results19, go_sem, hy1]) rfl ⟨rfl, (by first | exact Below.refl _ _ | exact below_alloc1 _ _ | exact below_alloc2 _ _ _ | exact below_alloc3 _ _ _ _ | (repeat' (first | assumption | exact Below.refl _ _ | exact below_alloc1 _ _ | exact below_alloc2 _ _ _ | exact below_alloc3 _ _ _ _ | (refine Below.drew ?_) | (refine below_wb ?_ ?_) | (refine Below.alloc ?_ ?_ _) | omega | (simp; done) | (simp; omega))))⟩

set_option maxRecDepth 100000 in
set_option maxHeartbeats 4000000 in
theorem resolve_5_false (r node sb0 sb1 sb2 ownRole peerRole ownMarked peerMarked ownFlags peerFlags : Int) (w : World) (hv : (Spec.validQ (mkQ node sb0 sb1 sb2 ownRole peerRole ownMarked peerMarked ownFlags peerFlags) != 0) = false) (e0 : ((Spec.who (mkQ node sb0 sb1 sb2 ownRole peerRole ownMarked peerMarked ownFlags peerFlags)).1 == 0) = false) (e2 : ((Spec.who (mkQ node sb0 sb1 sb2 ownRole peerRole ownMarked peerMarked ownFlags peerFlags)).1 == 2) = false) :
    Pur Tryd.prog 19 (resArgs 5 r node sb0 sb1 sb2 ownRole peerRole ownMarked peerMarked ownFlags peerFlags) w (vr (2, (Spec.who (mkQ node sb0 sb1 sb2 ownRole peerRole ownMarked peerMarked ownFlags peerFlags)).2, 0)) := by
  unfold Pur
  go_enter Tryd.func19, Tryd.ntmps19
  go_wp2_with (first | (go_at_call 21; refine (valid_calls (mkQ node sb0 sb1 sb2 ownRole peerRole ownMarked peerMarked ownFlags peerFlags) _).out.mono ?_; rintro e w1 ⟨rfl, hb1⟩; obtain ⟨w2, rfl, hb3, hz0, hz1, hz2, hz3⟩ := behind_alloc4 hb1; clear hb1) | (go_at_call 22; refine (who_calls (mkQ node sb0 sb1 sb2 ownRole peerRole ownMarked peerMarked ownFlags peerFlags) _).out.mono ?_; rintro e w1 ⟨rfl, hb1⟩; obtain ⟨w4, rfl, hb4, _, hy0, hy1, hy2, hy3⟩ := behind_wb4 (B := w.heap.size) hb1 hz0 hz1 hz2 hz3 (by omega) (by omega) (by omega) (by omega) (by omega) (by omega) (by omega) (by omega) (by omega) (by omega); have hb5 := hb3.trans hb4; clear hb1 hb3 hb4 hz0 hz1 hz2 hz3) | go_in)
  exact bodyPost_ret (v := vr (2, (Spec.who (mkQ node sb0 sb1 sb2 ownRole peerRole ownMarked peerMarked ownFlags peerFlags)).2, 0)) (by simp [results, Tryd.results19, go_sem, hy1]) rfl ⟨rfl, (by first | exact Below.refl _ _ | exact below_alloc1 _ _ | exact below_alloc2 _ _ _ | exact below_alloc3 _ _ _ _ | (repeat' (first | assumption | exact Below.refl _ _ | exact below_alloc1 _ _ | exact below_alloc2 _ _ _ | exact below_alloc3 _ _ _ _ | (refine Below.drew ?_) | (refine below_wb ?_ ?_) | (refine Below.alloc ?_ ?_ _) | omega | (simp; done) | (simp; omega))))⟩

set_option maxRecDepth 100000 in
set_option maxHeartbeats 4000000 in
theorem resolve_6_none (r node sb0 sb1 sb2 ownRole peerRole ownMarked peerMarked ownFlags peerFlags : Int) (w : World) (hv : (Spec.validQ (mkQ node sb0 sb1 sb2 ownRole peerRole ownMarked peerMarked ownFlags peerFlags) != 0) = false) (e0 : ((Spec.who (mkQ node sb0 sb1 sb2 ownRole peerRole ownMarked peerMarked ownFlags peerFlags)).1 == 0) = true) :
    Pur Tryd.prog 19 (resArgs 6 r node sb0 sb1 sb2 ownRole peerRole ownMarked peerMarked ownFlags peerFlags) w (vr (6, r, 0)) := by
  unfold Pur
  go_enter Tryd.func19, Tryd.ntmps19
  go_wp2_with (first | (go_at_call 21; refine (valid_calls (mkQ node sb0 sb1 sb2 ownRole peerRole ownMarked peerMarked ownFlags peerFlags) _).out.mono ?_; rintro e w1 ⟨rfl, hb1⟩; obtain ⟨w2, rfl, hb3, hz0, hz1, hz2, hz3⟩ := behind_alloc4 hb1; clear hb1) | (go_at_call 22; refine (who_calls (mkQ node sb0 sb1 sb2 ownRole peerRole ownMarked peerMarked ownFlags peerFlags) _).out.mono ?_; rintro e w1 ⟨rfl, hb1⟩; obtain ⟨w4, rfl, hb4, _, hy0, hy1, hy2, hy3⟩ := behind_wb4 (B := w.heap.size) hb1 hz0 hz1 hz2 hz3 (by omega) (by omega) (by omega) (by omega) (by omega) (by omega) (by omega) (by omega) (by omega) (by omega); have hb5 := hb3.trans hb4; clear hb1 hb3 hb4 hz0 hz1 hz2 hz3) | go_in)
  exact bodyPost_ret (v := vr (6, r, 0)) (by simp [results, Tryd.results19, go_sem, hy1]) rfl ⟨rfl, (by first | exact Below.refl _ _ | exact below_alloc1 _ _ | exact below_alloc2 _ _ _ | exact below_alloc3 _ _ _ _ | (repeat' (first | assumption | exact Below.refl _ _ | exact below_alloc1 _ _ | exact below_alloc2 _ _ _ | exact below_alloc3 _ _ _ _ | (refine Below.drew ?_) | (refine below_wb ?_ ?_) | (refine Below.alloc ?_ ?_ _) | omega | (simp; done) | (simp; omega))))⟩

set_option maxRecDepth 100000 in
set_option maxHeartbeats 4000000 in
theorem resolve_6_true (r node sb0 sb1 sb2 ownRole peerRole ownMarked peerMarked ownFlags peerFlags : Int) (w : World) (hv : (Spec.validQ (mkQ node sb0 sb1 sb2 ownRole peerRole ownMarked peerMarked ownFlags peerFlags) != 0) = false) (e0 : ((Spec.who (mkQ node sb0 sb1 sb2 ownRole peerRole ownMarked peerMarked ownFlags peerFlags)).1 == 0) = false) (e2 : ((Spec.who (mkQ node sb0 sb1 sb2 ownRole peerRole ownMarked peerMarked ownFlags peerFlags)).1 == 1) = true) :
    Pur Tryd.prog 19 (resArgs 6 r node sb0 sb1 sb2 ownRole peerRole ownMarked peerMarked ownFlags peerFlags) w (vr (4, (Spec.who (mkQ node sb0 sb1 sb2 ownRole peerRole ownMarked peerMarked ownFlags peerFlags)).2, 0)) := by
  unfold Pur
  go_enter Tryd.func19, Tryd.ntmps19
  go_wp2_with (first | (go_at_call 21; refine (valid_calls (mkQ node sb0 sb1 sb2 ownRole peerRole ownMarked peerMarked ownFlags peerFlags) _).out.mono ?_; rintro e w1 ⟨rfl, hb1⟩; obtain ⟨w2, rfl, hb3, hz0, hz1, hz2, hz3⟩ := behind_alloc4 hb1; clear hb1) | (go_at_call 22; refine (who_calls (mkQ node sb0 sb1 sb2 ownRole peerRole ownMarked peerMarked ownFlags peerFlags) _).out.mono ?_; rintro e w1 ⟨rfl, hb1⟩; obtain ⟨w4, rfl, hb4, _, hy0, hy1, hy2, hy3⟩ := behind_wb4 (B := w.heap.size) hb1 hz0 hz1 hz2 hz3 (by omega) (by omega) (by omega) (by omega) (by omega) (by omega) (by omega) (by omega) (by omega) (by omega); have hb5 := hb3.trans hb4; clear hb1 hb3 hb4 hz0 hz1 hz2 hz3) | go_in)
  exact bodyPost_ret (v := vr (4, (Spec.who (mkQ node sb0 sb1 sb2 ownRole peerRole ownMarked peerMarked ownFlags peerFlags)).2, 0)) (by simp [results, Tryd.results19, go_sem, hy1]) rfl ⟨rfl, (by first | exact Below.refl _ _ | exact below_alloc1 _ _ | exact below_alloc2 _ _ _ | exact below_alloc3 _ _ _ _ | (repeat' (first | assumption | exact Below.refl _ _ | exact below_alloc1 _ _ | exact below_alloc2 _ _ _ | exact below_alloc3 _ _ _ _ | (refine Below.drew ?_) | (refine below_wb ?_ ?_) | (refine Below.alloc ?_ ?_ _) | omega | (simp; done) | (simp; omega))))⟩

set_option maxRecDepth 100000 in
set_option maxHeartbeats 4000000 in
theorem resolve_6_false (r node sb0 sb1 sb2 ownRole peerRole ownMarked peerMarked ownFlags peerFlags : Int) (w : World) (hv : (Spec.validQ (mkQ node sb0 sb1 sb2 ownRole peerRole ownMarked peerMarked ownFlags peerFlags) != 0) = false) (e0 : ((Spec.who (mkQ node sb0 sb1 sb2 ownRole peerRole ownMarked peerMarked ownFlags peerFlags)).1 == 0) = false) (e2 : ((Spec.who (mkQ node sb0 sb1 sb2 ownRole peerRole ownMarked peerMarked ownFlags peerFlags)).1 == 1) = false) :
    Pur Tryd.prog 19 (resArgs 6 r node sb0 sb1 sb2 ownRole peerRole ownMarked peerMarked ownFlags peerFlags) w (vr (3, (Spec.who (mkQ node sb0 sb1 sb2 ownRole peerRole ownMarked peerMarked ownFlags peerFlags)).2, 0)) := by
  unfold Pur
  go_enter Tryd.func19, Tryd.ntmps19
  go_wp2_with (first | (go_at_call 21; refine (valid_calls (mkQ node sb0 sb1 sb2 ownRole peerRole ownMarked peerMarked ownFlags peerFlags) _).out.mono ?_; rintro e w1 ⟨rfl, hb1⟩; obtain ⟨w2, rfl, hb3, hz0, hz1, hz2, hz3⟩ := behind_alloc4 hb1; clear hb1) | (go_at_call 22; refine (who_calls (mkQ node sb0 sb1 sb2 ownRole peerRole ownMarked peerMarked ownFlags peerFlags) _).out.mono ?_; rintro e w1 ⟨rfl, hb1⟩; obtain ⟨w4, rfl, hb4, _, hy0, hy1, hy2, hy3⟩ := behind_wb4 (B := w.heap.size) hb1 hz0 hz1 hz2 hz3 (by omega) (by omega) (by omega) (by omega) (by omega) (by omega) (by omega) (by omega) (by omega) (by omega); have hb5 := hb3.trans hb4; clear hb1 hb3 hb4 hz0 hz1 hz2 hz3) | go_in)
  exact bodyPost_ret (v := vr (3, (Spec.who (mkQ node sb0 sb1 sb2 ownRole peerRole ownMarked peerMarked ownFlags peerFlags)).2, 0)) (by simp [results, Tryd.results19, go_sem, hy1]) rfl ⟨rfl, (by first | exact Below.refl _ _ | exact below_alloc1 _ _ | exact below_alloc2 _ _ _ | exact below_alloc3 _ _ _ _ | (repeat' (first | assumption | exact Below.refl _ _ | exact below_alloc1 _ _ | exact below_alloc2 _ _ _ | exact below_alloc3 _ _ _ _ | (refine Below.drew ?_) | (refine below_wb ?_ ?_) | (refine Below.alloc ?_ ?_ _) | omega | (simp; done) | (simp; omega))))⟩

theorem resolve_calls (k r node sb0 sb1 sb2 ownRole peerRole ownMarked peerMarked ownFlags peerFlags : Int) (w : World) :
    Pur Tryd.prog 19 (resArgs k r node sb0 sb1 sb2 ownRole peerRole ownMarked peerMarked ownFlags peerFlags) w (vr (Spec.resolve k r (mkQ node sb0 sb1 sb2 ownRole peerRole ownMarked peerMarked ownFlags peerFlags))) := by
  by_cases hk : k < 0 ∨ 7 < k
  · rw [res_kinds hk]; exact resolve_kinds _ _ _ _ _ _ _ _ _ _ _ _ w hk
  by_cases hv : Spec.validQ (mkQ node sb0 sb1 sb2 ownRole peerRole ownMarked peerMarked ownFlags peerFlags) = 0
  · by_cases h5 : k = 5
    · subst h5
      by_cases h0 : (Spec.who (mkQ node sb0 sb1 sb2 ownRole peerRole ownMarked peerMarked ownFlags peerFlags)).1 = 0
      · rw [res_none (.inl rfl) hv h0]; exact resolve_5_none _ _ _ _ _ _ _ _ _ _ _ w (by simpa using hv) (by simpa using h0)
      · rw [res_five hv h0]
        by_cases h2 : (Spec.who (mkQ node sb0 sb1 sb2 ownRole peerRole ownMarked peerMarked ownFlags peerFlags)).1 = 2
        · rw [if_pos h2]; exact resolve_5_true _ _ _ _ _ _ _ _ _ _ _ w (by simpa using hv) (by simpa using h0) (by simpa using h2)
        · rw [if_neg h2]; exact resolve_5_false _ _ _ _ _ _ _ _ _ _ _ w (by simpa using hv) (by simpa using h0) (by simpa using h2)
    by_cases h6 : k = 6
    · subst h6
      by_cases h0 : (Spec.who (mkQ node sb0 sb1 sb2 ownRole peerRole ownMarked peerMarked ownFlags peerFlags)).1 = 0
      · rw [res_none (.inr rfl) hv h0]; exact resolve_6_none _ _ _ _ _ _ _ _ _ _ _ w (by simpa using hv) (by simpa using h0)
      · rw [res_six hv h0]
        by_cases h2 : (Spec.who (mkQ node sb0 sb1 sb2 ownRole peerRole ownMarked peerMarked ownFlags peerFlags)).1 = 1
        · rw [if_pos h2]; exact resolve_6_true _ _ _ _ _ _ _ _ _ _ _ w (by simpa using hv) (by simpa using h0) (by simpa using h2)
        · rw [if_neg h2]; exact resolve_6_false _ _ _ _ _ _ _ _ _ _ _ w (by simpa using hv) (by simpa using h0) (by simpa using h2)
    rw [res_other hk hv h5 h6]; exact resolve_other _ _ _ _ _ _ _ _ _ _ _ _ w (by omega) (by omega) (by simpa using hv) (by simpa using h5) (by simpa using h6)
  · rw [res_valid hk hv]; exact resolve_valid _ _ _ _ _ _ _ _ _ _ _ _ w (by omega) (by omega) (by simpa using hv)
end Go.Proofs.YtboanmhibbhceaaDoor
