/- The fourteen rules: each as one plain function of the pair. -/
import Derived.Test.YtboanmhibbhceaaGens
namespace Go.Proofs.Ytboanmhibbhceaa
open Go.RowKit
set_option linter.unusedVariables false
set_option linter.unusedSimpArgs false

/-- The cells of a pair. -/
structure Pr where
  first : Bool
  g : G
  gx : Bool
  h : G
  hx : Bool
abbrev pc (p : Pr) : Array Value := #[.bool p.first, .int .u64 p.g.c, .int .u64 p.g.b, .int .u64 p.g.o, .int .u64 p.g.p, .bool p.gx, .int .u64 p.h.c, .int .u64 p.h.b, .int .u64 p.h.o, .int .u64 p.h.p, .bool p.hx]

namespace Spec
def mtch (x y : Int) : Bool := x == y && (x != 0 && x != 4)
def old (x : Int) (g : G) : Bool := mtch x g.o || mtch x g.p
end Spec

set_option maxHeartbeats 1000000 in
theorem match_calls (x y : Int) (w : World) : Pur Try.prog 78 #[.int .u64 x, .int .u64 y] w (.bool (Spec.mtch x y)) := by
  unfold Pur
  go_enter Try.func78, Try.ntmps78
  go_wp2
  all_goals go_ret
  all_goals refine ⟨ret_bool ?_, (by first | exact Below.refl _ _ | exact below_alloc1 _ _ | exact below_alloc2 _ _ _ | exact below_alloc3 _ _ _ _ | (repeat' (first | assumption | exact Below.refl _ _ | exact below_alloc1 _ _ | exact below_alloc2 _ _ _ | exact below_alloc3 _ _ _ _ | (refine Below.drew ?_) | (refine below_wb ?_ ?_) | (refine Below.alloc ?_ ?_ _) | omega | (simp; done) | (simp; omega))))⟩
  all_goals (unfold Spec.mtch; simp_all)

set_option maxHeartbeats 2000000 in
theorem old_calls (x : Int) (g : G) (w : World) : Pur Try.prog 79 #[.int .u64 x, .agg (gc g)] w (.bool (Spec.old x g)) := by
  unfold Pur
  go_enter Try.func79, Try.ntmps79
  cases e1 : Spec.mtch x g.o
  all_goals
    go_wp2_with (go_at_call 78; refine (match_calls _ _ _).out.mono ?_; (try rw [e1]); rintro e w1 ⟨rfl, hb1⟩; first | (obtain ⟨w2, rfl, hb3, hz0⟩ := behind_alloc1 hb1; clear hb1) | (obtain ⟨w4, rfl, hb4, _, hy0⟩ := behind_wb1 (B := w.heap.size) hb1 hz0 (by omega); have hb5 := hb3.trans hb4; clear hb1 hb3 hb4 hz0))
    all_goals go_ret
    all_goals exact ⟨ret_bool (by simp [Spec.old, e1]), (by first | exact Below.refl _ _ | exact below_alloc1 _ _ | exact below_alloc2 _ _ _ | exact below_alloc3 _ _ _ _ | (repeat' (first | assumption | exact Below.refl _ _ | exact below_alloc1 _ _ | exact below_alloc2 _ _ _ | exact below_alloc3 _ _ _ _ | (refine Below.drew ?_) | (refine below_wb ?_ ?_) | (refine Below.alloc ?_ ?_ _) | omega | (simp; done) | (simp; omega))))⟩

set_option maxRecDepth 100000 in
set_option maxHeartbeats 2000000 in
theorem alike_calls (p : Pr) (w : World) : Pur Try.prog 75 #[.agg (pc p)] w (.bool (Spec.mtch p.g.c p.h.c)) := by
  unfold Pur
  go_enter Try.func75, Try.ntmps75
  go_wp2_with (go_at_call 78; refine (match_calls _ _ _).out.mono ?_; rintro e w1 ⟨rfl, hb1⟩; obtain ⟨w2, rfl, hb3, hz0⟩ := behind_alloc1 hb1; clear hb1)
  all_goals go_ret
  all_goals exact ⟨rfl, (by first | exact Below.refl _ _ | exact below_alloc1 _ _ | exact below_alloc2 _ _ _ | exact below_alloc3 _ _ _ _ | (repeat' (first | assumption | exact Below.refl _ _ | exact below_alloc1 _ _ | exact below_alloc2 _ _ _ | exact below_alloc3 _ _ _ _ | (refine Below.drew ?_) | (refine below_wb ?_ ?_) | (refine Below.alloc ?_ ?_ _) | omega | (simp; done) | (simp; omega))))⟩

namespace Spec
def source (own : Bool) : Int := if own = true then 1 else 2
def target (own : Bool) : Int := if own = true then 4 else 3
def bothNew (p : Pr) : Int := if isNew p.g = true ∧ isNew p.h = true then 0 else -1
def oneNew (p : Pr) : Int := if isNew p.g ≠ isNew p.h then target (isNew p.g) else -1
end Spec

set_option maxRecDepth 100000 in
set_option maxHeartbeats 2000000 in
theorem bothNew_calls (p : Pr) (w : World) : Pur Try.prog 52 #[.agg (pc p)] w (.int .i64 (Spec.bothNew p)) := by
  unfold Pur
  cases e1 : Spec.isNew p.g <;> cases e2 : Spec.isNew p.h
  all_goals
    have H1 := Lib.hid e1
    have H2 := Lib.hid e2
    clear e1 e2
    go_enter Try.func52, Try.ntmps52
    go_wp2_with (go_at_call 29; refine (isNew_calls _ _).out.mono ?_; (first | rw [H1.out] | rw [H2.out]); rintro e w1 ⟨rfl, hb1⟩; first | (obtain ⟨w2, rfl, hb3, hz0⟩ := behind_alloc1 hb1; clear hb1) | (obtain ⟨w4, rfl, hb4, _, hy0⟩ := behind_wb1 (B := w.heap.size) hb1 hz0 (by omega); have hb5 := hb3.trans hb4; clear hb1 hb3 hb4 hz0))
    all_goals go_ret
    all_goals exact ⟨ret_i64 (by simp [Spec.bothNew, H1.out, H2.out]), (by first | exact Below.refl _ _ | exact below_alloc1 _ _ | exact below_alloc2 _ _ _ | exact below_alloc3 _ _ _ _ | (repeat' (first | assumption | exact Below.refl _ _ | exact below_alloc1 _ _ | exact below_alloc2 _ _ _ | exact below_alloc3 _ _ _ _ | (refine Below.drew ?_) | (refine below_wb ?_ ?_) | (refine Below.alloc ?_ ?_ _) | omega | (simp; done) | (simp; omega))))⟩

namespace Spec
def sameBitmap (p : Pr) : Int := if mtch p.g.b p.h.b = true then 5 else -1
def bothCount (p : Pr) : Int := if mtch p.g.c p.h.c = true then source p.first else -1
end Spec

set_option maxRecDepth 100000 in
set_option maxHeartbeats 2000000 in
theorem unrelated_calls (p : Pr) (w : World) : Pur Try.prog 65 #[.agg (pc p)] w (.int .i64 7) := by
  unfold Pur
  go_enter Try.func65, Try.ntmps65
  go_wp2
  all_goals go_ret
  all_goals exact ⟨rfl, (by first | exact Below.refl _ _ | exact below_alloc1 _ _ | exact below_alloc2 _ _ _ | exact below_alloc3 _ _ _ _ | (repeat' (first | assumption | exact Below.refl _ _ | exact below_alloc1 _ _ | exact below_alloc2 _ _ _ | exact below_alloc3 _ _ _ _ | (refine Below.drew ?_) | (refine below_wb ?_ ?_) | (refine Below.alloc ?_ ?_ _) | omega | (simp; done) | (simp; omega))))⟩

set_option maxRecDepth 100000 in
set_option maxHeartbeats 2000000 in
theorem sameBitmap_calls (p : Pr) (w : World) : Pur Try.prog 63 #[.agg (pc p)] w (.int .i64 (Spec.sameBitmap p)) := by
  unfold Pur
  cases e1 : Spec.mtch p.g.b p.h.b
  all_goals
    have H1 := Lib.hid e1
    clear e1
    go_enter Try.func63, Try.ntmps63
    go_wp2_with (go_at_call 78; refine (match_calls _ _ _).out.mono ?_; rw [H1.out]; rintro e w1 ⟨rfl, hb1⟩; obtain ⟨w2, rfl, hb3, hz0⟩ := behind_alloc1 hb1; clear hb1)
    all_goals go_ret
    all_goals exact ⟨ret_i64 (by simp [Spec.sameBitmap, H1.out]), (by first | exact Below.refl _ _ | exact below_alloc1 _ _ | exact below_alloc2 _ _ _ | exact below_alloc3 _ _ _ _ | (repeat' (first | assumption | exact Below.refl _ _ | exact below_alloc1 _ _ | exact below_alloc2 _ _ _ | exact below_alloc3 _ _ _ _ | (refine Below.drew ?_) | (refine below_wb ?_ ?_) | (refine Below.alloc ?_ ?_ _) | omega | (simp; done) | (simp; omega))))⟩

namespace Spec
def oneCrashed (p : Pr) : Int := if mtch p.g.c p.h.c = true ∧ p.gx ≠ p.hx then source p.gx else -1
def bothCrashed (p : Pr) : Int := if mtch p.g.c p.h.c = true ∧ p.gx = true ∧ p.hx = true then source p.first else -1
end Spec

set_option maxRecDepth 100000 in
set_option maxHeartbeats 4000000 in
theorem bothCount_calls (p : Pr) (w : World) : Pur Try.prog 58 #[.agg (pc p)] w (.int .i64 (Spec.bothCount p)) := by
  unfold Pur
  obtain ⟨first, g, gx, h, hx⟩ := p
  cases e1 : Spec.mtch g.c h.c <;> cases first
  all_goals
    have H1 := Lib.hid e1
    clear e1
    go_enter Try.func58, Try.ntmps58
    go_wp2_with (first | (go_at_call 75; refine (alike_calls ⟨_, g, _, h, _⟩ _).out.mono ?_; rw [H1.out]; rintro e w1 ⟨rfl, hb1⟩; obtain ⟨w2, rfl, hb3, hz0⟩ := behind_alloc1 hb1; clear hb1) | (go_at_call 50; go_in))
    all_goals go_ret
    all_goals exact ⟨ret_i64 (by simp_all [Spec.bothCount, Spec.source, H1.out]), (by first | exact Below.refl _ _ | exact below_alloc1 _ _ | exact below_alloc2 _ _ _ | exact below_alloc3 _ _ _ _ | (repeat' (first | assumption | exact Below.refl _ _ | exact below_alloc1 _ _ | exact below_alloc2 _ _ _ | exact below_alloc3 _ _ _ _ | (refine Below.drew ?_) | (refine below_wb ?_ ?_) | (refine Below.alloc ?_ ?_ _) | omega | (simp; done) | (simp; omega))))⟩

set_option maxRecDepth 100000 in
set_option maxHeartbeats 4000000 in
theorem oneCrashed_calls (p : Pr) (w : World) : Pur Try.prog 54 #[.agg (pc p)] w (.int .i64 (Spec.oneCrashed p)) := by
  unfold Pur
  obtain ⟨first, g, gx, h, hx⟩ := p
  cases e1 : Spec.mtch g.c h.c <;> cases gx <;> cases hx
  all_goals
    have H1 := Lib.hid e1
    clear e1
    go_enter Try.func54, Try.ntmps54
    go_wp2_with (first | (go_at_call 75; refine (alike_calls ⟨_, g, _, h, _⟩ _).out.mono ?_; rw [H1.out]; rintro e w1 ⟨rfl, hb1⟩; obtain ⟨w2, rfl, hb3, hz0⟩ := behind_alloc1 hb1; clear hb1) | (go_at_call 50; go_in))
    all_goals go_ret
    all_goals exact ⟨ret_i64 (by simp_all [Spec.oneCrashed, Spec.source, H1.out]), (by first | exact Below.refl _ _ | exact below_alloc1 _ _ | exact below_alloc2 _ _ _ | exact below_alloc3 _ _ _ _ | (repeat' (first | assumption | exact Below.refl _ _ | exact below_alloc1 _ _ | exact below_alloc2 _ _ _ | exact below_alloc3 _ _ _ _ | (refine Below.drew ?_) | (refine below_wb ?_ ?_) | (refine Below.alloc ?_ ?_ _) | omega | (simp; done) | (simp; omega))))⟩

set_option maxRecDepth 100000 in
set_option maxHeartbeats 4000000 in
theorem bothCrashed_calls (p : Pr) (w : World) : Pur Try.prog 55 #[.agg (pc p)] w (.int .i64 (Spec.bothCrashed p)) := by
  unfold Pur
  obtain ⟨first, g, gx, h, hx⟩ := p
  cases e1 : Spec.mtch g.c h.c <;> cases gx <;> cases hx <;> cases first
  all_goals
    have H1 := Lib.hid e1
    clear e1
    go_enter Try.func55, Try.ntmps55
    go_wp2_with (first | (go_at_call 75; refine (alike_calls ⟨_, g, _, h, _⟩ _).out.mono ?_; rw [H1.out]; rintro e w1 ⟨rfl, hb1⟩; obtain ⟨w2, rfl, hb3, hz0⟩ := behind_alloc1 hb1; clear hb1) | (go_at_call 50; go_in))
    all_goals go_ret
    all_goals exact ⟨ret_i64 (by simp_all [Spec.bothCrashed, Spec.source, H1.out]), (by first | exact Below.refl _ _ | exact below_alloc1 _ _ | exact below_alloc2 _ _ _ | exact below_alloc3 _ _ _ _ | (repeat' (first | assumption | exact Below.refl _ _ | exact below_alloc1 _ _ | exact below_alloc2 _ _ _ | exact below_alloc3 _ _ _ _ | (refine Below.drew ?_) | (refine below_wb ?_ ?_) | (refine Below.alloc ?_ ?_ _) | omega | (simp; done) | (simp; omega))))⟩

namespace Spec
def noneCounts (p : Pr) : Int := if mtch p.g.c p.h.c = true ∧ p.g.b = 0 ∧ p.h.b = 0 then 0 else -1
end Spec

set_option maxRecDepth 100000 in
set_option maxHeartbeats 4000000 in
theorem noneCounts_calls (p : Pr) (w : World) : Pur Try.prog 57 #[.agg (pc p)] w (.int .i64 (Spec.noneCounts p)) := by
  unfold Pur
  obtain ⟨first, g, gx, h, hx⟩ := p
  cases e1 : Spec.mtch g.c h.c <;> cases e2 : (g.b == 0) <;> cases e3 : (h.b == 0)
  all_goals
    have H1 := Lib.hid e1
    clear e1
    go_enter Try.func57, Try.ntmps57
    go_wp2_with (first | (go_at_call 75; refine (alike_calls ⟨_, g, _, h, _⟩ _).out.mono ?_; rw [H1.out]; rintro e w1 ⟨rfl, hb1⟩; obtain ⟨w2, rfl, hb3, hz0⟩ := behind_alloc1 hb1; clear hb1) | fail)
    all_goals go_ret
    all_goals exact ⟨ret_i64 (by simp_all [Spec.noneCounts, H1.out]), (by first | exact Below.refl _ _ | exact below_alloc1 _ _ | exact below_alloc2 _ _ _ | exact below_alloc3 _ _ _ _ | (repeat' (first | assumption | exact Below.refl _ _ | exact below_alloc1 _ _ | exact below_alloc2 _ _ _ | exact below_alloc3 _ _ _ _ | (refine Below.drew ?_) | (refine below_wb ?_ ?_) | (refine Below.alloc ?_ ?_ _) | omega | (simp; done) | (simp; omega))))⟩
end Go.Proofs.Ytboanmhibbhceaa
