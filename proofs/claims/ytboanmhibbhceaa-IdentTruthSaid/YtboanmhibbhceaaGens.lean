/- The calls that make identifiers, of the program and of the document, each as one plain function of its numbers. -/
import Derived.Test.YtboanmhibbhceaaWb
import Derived.Outline
import Derived.RegionTactic
namespace Go.Proofs.Ytboanmhibbhceaa
open Go.RowKit

structure G where
  c : Int
  b : Int
  o : Int
  p : Int

/-- The four cells of a Gens. -/
abbrev gc (g : G) : Array Value := #[.int .u64 g.c, .int .u64 g.b, .int .u64 g.o, .int .u64 g.p]

namespace Spec
def layG (g : G) (x : Int) : G := if x = 0 ∨ x = 4 ∨ x = g.o then g else ⟨g.c, g.b, x, g.o⟩
def rotate (g : G) (f : Int) : G := if g.b = 0 then ⟨f, g.c, g.o, g.p⟩ else ⟨f, (layG g g.c).b, (layG g g.c).o, (layG g g.c).p⟩
def isNew (g : G) : Bool := g.c == 0 || g.c == 4
def beginSource (g : G) (f : Int) : G := if g.b = 4 ∨ (g.b = 0 ∧ isNew g = true) then ⟨g.c, f, g.o, g.p⟩ else if g.b = 0 then rotate g f else g
def beginTarget (g s : G) : G := if s.b = 0 then g else if s.b = g.c then ⟨s.b, 0, g.o, g.p⟩ else ⟨s.b, 0, (layG g g.c).o, (layG g g.c).p⟩
def endSource (g : G) : G := ⟨(layG g g.b).c, 0, (layG g g.b).o, (layG g g.b).p⟩
def endTarget (s : G) : G := ⟨s.c, 0, s.o, s.p⟩
def fresh (n x : Int) : Int := IntKind.u64.wrap (32 * x + 16 * (n % 2) + 8)
end Spec

/-- The value of Settle and of Resolve. -/
abbrev vr (t : Int × Int × Int) : Value := .tuple #[.agg #[.int .i64 t.1, .int .i64 t.2.1], .int .i64 t.2.2]
theorem ret_i64 {a b : Int} (h : a = b) : Ending.returned (.int .i64 a) = .returned (.int .i64 b) := by rw [h]
theorem ret_bool {a b : Bool} (h : a = b) : Ending.returned (.bool a) = .returned (.bool b) := by rw [h]

theorem lay_no {g : G} {x : Int} (h : (x != 0 && x != 4 && x != g.o) = false) : Spec.layG g x = g := by
  simp only [Bool.and_eq_false_iff, bne_eq_false_iff_eq] at h
  unfold Spec.layG; rw [if_pos (by omega)]
theorem lay_yes {g : G} {x : Int} (h : (x != 0 && x != 4 && x != g.o) = true) : Spec.layG g x = ⟨g.c, g.b, x, g.o⟩ := by
  simp only [Bool.and_eq_true, bne_iff_ne] at h
  unfold Spec.layG; rw [if_neg (by omega)]

set_option maxHeartbeats 400000 in
theorem lay_calls (g : G) (x : Int) (w : World) : Pur Try.prog 27 #[.agg (gc g), .int .u64 x] w (.agg (gc (Spec.layG g x))) := by
  unfold Pur
  cases h : (x != 0 && x != 4 && x != g.o) with
  | true =>
    rw [lay_yes h]
    simp only [Bool.and_eq_true] at h
    obtain ⟨⟨h1, h2⟩, h3⟩ := h
    go_enter Try.func27, Try.ntmps27
    go_wp2
    exact bodyPost_ret (v := .agg (gc ⟨g.c, g.b, x, g.o⟩)) (by simp [results, Try.results27, go_sem]) rfl ⟨rfl, below_alloc2 _ _ _⟩
  | false =>
    rw [lay_no h]
    go_enter Try.func27, Try.ntmps27
    go_wp2
    all_goals try (exfalso; simp_all; done)
    all_goals exact bodyPost_ret (v := .agg (gc g)) (by simp [results, Try.results27, go_sem]) rfl ⟨rfl, below_alloc2 _ _ _⟩

set_option maxHeartbeats 400000 in
theorem isNew_calls (g : G) (w : World) : Pur Try.prog 29 #[.agg (gc g)] w (.bool (Spec.isNew g)) := by
  unfold Pur
  go_enter Try.func29, Try.ntmps29
  go_wp2
  all_goals go_ret
  all_goals exact ⟨by simp_all [Spec.isNew], below_alloc1 _ _⟩

set_option maxHeartbeats 400000 in
theorem rotate_calls (g : G) (f : Int) (w : World) : Pur Try.prog 10 #[.agg (gc g), .int .u64 f] w (.agg (gc (Spec.rotate g f))) := by
  unfold Pur
  by_cases h : g.b = 0
  · have hb : (g.b == 0) = true := by simpa using h
    have e : Spec.rotate g f = ⟨f, g.c, g.o, g.p⟩ := by unfold Spec.rotate; rw [if_pos h]
    rw [e]
    clear e h
    go_enter Try.func10, Try.ntmps10
    go_wp2_with fail
    exact bodyPost_ret (v := .agg (gc ⟨f, g.c, g.o, g.p⟩)) (by simp [results, Try.results10, go_sem]) rfl ⟨rfl, below_alloc2 _ _ _⟩
  · have hb : (g.b == 0) = false := by simpa using h
    have e : Spec.rotate g f = ⟨f, (Spec.layG g g.c).b, (Spec.layG g g.c).o, (Spec.layG g g.c).p⟩ := by unfold Spec.rotate; rw [if_neg h]
    rw [e]
    clear e h
    generalize hr : Spec.layG g g.c = r
    have Hr := Lib.hid hr
    clear hr
    go_enter Try.func10, Try.ntmps10
    go_wp2_with fail
    refine (lay_calls g g.c _).out.mono ?_
    rw [Hr.out]
    rintro e w1 ⟨rfl, hb1⟩
    obtain ⟨w2, rfl, hb3, hz0, hz1⟩ := behind_alloc2 hb1
    clear hb1
    go_wp2_with fail
    exact bodyPost_ret (v := .agg (gc ⟨f, r.b, r.o, r.p⟩)) (by simp [results, Try.results10, go_sem, hz1]) rfl ⟨rfl, below_wb (below_wb hb3 (by first | omega | (simp; done) | (simp; omega))) (by first | omega | (simp; done) | (simp; omega))⟩


theorem bs_fresh {g : G} {f : Int} (h : g.b = 4 ∨ (g.b = 0 ∧ Spec.isNew g = true)) : Spec.beginSource g f = ⟨g.c, f, g.o, g.p⟩ := by unfold Spec.beginSource; rw [if_pos h]
theorem bs_rotate {g : G} {f : Int} (h : g.b = 0) (hn : Spec.isNew g = false) : Spec.beginSource g f = Spec.rotate g f := by
  unfold Spec.beginSource; rw [if_neg (by rw [hn]; simp; omega), if_pos h]
theorem bs_same {g : G} {f : Int} (h : ¬ g.b = 0) (h4 : ¬ g.b = 4) : Spec.beginSource g f = g := by
  unfold Spec.beginSource; rw [if_neg (by omega), if_neg h]

set_option maxHeartbeats 800000 in
theorem beginSource_calls (g : G) (f : Int) (w : World) : Pur Try.prog 12 #[.agg (gc g), .int .u64 f] w (.agg (gc (Spec.beginSource g f))) := by
  unfold Pur
  by_cases h4 : g.b = 4
  · rw [bs_fresh (.inl h4)]
    have e4 : (g.b == 4) = true := by simpa using h4
    clear h4
    go_enter Try.func12, Try.ntmps12
    go_wp2_with fail
    exact bodyPost_ret (v := .agg (gc ⟨g.c, f, g.o, g.p⟩)) (by simp [results, Try.results12, go_sem]) rfl ⟨rfl, (by first | exact Below.refl _ _ | exact below_alloc1 _ _ | exact below_alloc2 _ _ _ | exact below_alloc3 _ _ _ _ | (repeat' (first | assumption | exact Below.refl _ _ | exact below_alloc1 _ _ | exact below_alloc2 _ _ _ | exact below_alloc3 _ _ _ _ | (refine Below.drew ?_) | (refine below_wb ?_ ?_) | (refine Below.alloc ?_ ?_ _) | omega | (simp; done) | (simp; omega))))⟩
  · have e4 : (g.b == 4) = false := by simpa using h4
    by_cases h0 : g.b = 0
    · have e0 : (g.b == 0) = true := by simpa using h0
      cases hn : Spec.isNew g with
      | true =>
        rw [bs_fresh (.inr ⟨h0, hn⟩)]
        clear h4 h0
        go_enter Try.func12, Try.ntmps12
        go_wp2_with fail
        refine (isNew_calls g _).out.mono ?_
        rintro e w1 ⟨rfl, hb1⟩
        obtain ⟨w2, rfl, hb3, hz0, hz1⟩ := behind_alloc2 hb1
        clear hb1
        go_wp2_with fail
        exact bodyPost_ret (v := .agg (gc ⟨g.c, f, g.o, g.p⟩)) (by simp [results, Try.results12, go_sem, hz1]) rfl ⟨rfl, (by first | exact Below.refl _ _ | exact below_alloc1 _ _ | exact below_alloc2 _ _ _ | exact below_alloc3 _ _ _ _ | (repeat' (first | assumption | exact Below.refl _ _ | exact below_alloc1 _ _ | exact below_alloc2 _ _ _ | exact below_alloc3 _ _ _ _ | (refine Below.drew ?_) | (refine below_wb ?_ ?_) | (refine Below.alloc ?_ ?_ _) | omega | (simp; done) | (simp; omega))))⟩
      | false =>
        rw [bs_rotate h0 hn]
        clear h4 h0
        generalize hr : Spec.rotate g f = r
        have Hr := Lib.hid hr
        clear hr
        go_enter Try.func12, Try.ntmps12
        go_wp2_with fail
        refine (isNew_calls g _).out.mono ?_
        rintro e w1 ⟨rfl, hb1⟩
        obtain ⟨w2, rfl, hb3, hz0, hz1⟩ := behind_alloc2 hb1
        clear hb1
        go_wp2_with fail
        refine (rotate_calls g f _).out.mono ?_
        rw [Hr.out]
        rintro e w1 ⟨rfl, hb1⟩
        obtain ⟨w4, rfl, hb4, _, hy0, hy1⟩ := behind_wb2 (B := w.heap.size) hb1 hz0 hz1 (by omega) (by omega) (by omega)
        have hb5 := hb3.trans hb4
        clear hb1 hb3 hb4 hz0 hz1
        go_wp2_with fail
        exact bodyPost_ret (v := .agg (gc r)) (by simp [results, Try.results12, go_sem, hy1]) rfl ⟨rfl, (by first | exact Below.refl _ _ | exact below_alloc1 _ _ | exact below_alloc2 _ _ _ | exact below_alloc3 _ _ _ _ | (repeat' (first | assumption | exact Below.refl _ _ | exact below_alloc1 _ _ | exact below_alloc2 _ _ _ | exact below_alloc3 _ _ _ _ | (refine Below.drew ?_) | (refine below_wb ?_ ?_) | (refine Below.alloc ?_ ?_ _) | omega | (simp; done) | (simp; omega))))⟩
    · rw [bs_same h0 h4]
      have e0 : (g.b == 0) = false := by simpa using h0
      clear h0 h4
      go_enter Try.func12, Try.ntmps12
      go_wp2_with fail
      exact bodyPost_ret (v := .agg (gc g)) (by simp [results, Try.results12, go_sem]) rfl ⟨rfl, (by first | exact Below.refl _ _ | exact below_alloc1 _ _ | exact below_alloc2 _ _ _ | exact below_alloc3 _ _ _ _ | (repeat' (first | assumption | exact Below.refl _ _ | exact below_alloc1 _ _ | exact below_alloc2 _ _ _ | exact below_alloc3 _ _ _ _ | (refine Below.drew ?_) | (refine below_wb ?_ ?_) | (refine Below.alloc ?_ ?_ _) | omega | (simp; done) | (simp; omega))))⟩

theorem bt_none {g s : G} (h : s.b = 0) : Spec.beginTarget g s = g := by unfold Spec.beginTarget; rw [if_pos h]
theorem bt_same {g s : G} (h : ¬ s.b = 0) (h1 : s.b = g.c) : Spec.beginTarget g s = ⟨s.b, 0, g.o, g.p⟩ := by unfold Spec.beginTarget; rw [if_neg h, if_pos h1]
theorem bt_lay {g s : G} (h : ¬ s.b = 0) (h1 : ¬ s.b = g.c) : Spec.beginTarget g s = ⟨s.b, 0, (Spec.layG g g.c).o, (Spec.layG g g.c).p⟩ := by unfold Spec.beginTarget; rw [if_neg h, if_neg h1]

set_option maxHeartbeats 800000 in
theorem beginTarget_calls (g s : G) (w : World) : Pur Try.prog 14 #[.agg (gc g), .agg (gc s)] w (.agg (gc (Spec.beginTarget g s))) := by
  unfold Pur
  by_cases h0 : s.b = 0
  · rw [bt_none h0]
    have e0 : (s.b == 0) = true := by simpa using h0
    clear h0
    go_enter Try.func14, Try.ntmps14
    go_wp2_with fail
    exact bodyPost_ret (v := .agg (gc g)) (by simp [results, Try.results14, go_sem]) rfl ⟨rfl, (by first | exact Below.refl _ _ | exact below_alloc1 _ _ | exact below_alloc2 _ _ _ | exact below_alloc3 _ _ _ _ | (repeat' (first | assumption | exact Below.refl _ _ | exact below_alloc1 _ _ | exact below_alloc2 _ _ _ | exact below_alloc3 _ _ _ _ | (refine Below.drew ?_) | (refine below_wb ?_ ?_) | (refine Below.alloc ?_ ?_ _) | omega | (simp; done) | (simp; omega))))⟩
  · have e0 : (s.b == 0) = false := by simpa using h0
    by_cases h1 : s.b = g.c
    · rw [bt_same h0 h1]
      have e1 : (s.b != g.c) = false := by simpa using h1
      clear h0 h1
      go_enter Try.func14, Try.ntmps14
      go_wp2_with fail
      exact bodyPost_ret (v := .agg (gc ⟨s.b, 0, g.o, g.p⟩)) (by simp [results, Try.results14, go_sem]) rfl ⟨rfl, (by first | exact Below.refl _ _ | exact below_alloc1 _ _ | exact below_alloc2 _ _ _ | exact below_alloc3 _ _ _ _ | (repeat' (first | assumption | exact Below.refl _ _ | exact below_alloc1 _ _ | exact below_alloc2 _ _ _ | exact below_alloc3 _ _ _ _ | (refine Below.drew ?_) | (refine below_wb ?_ ?_) | (refine Below.alloc ?_ ?_ _) | omega | (simp; done) | (simp; omega))))⟩
    · rw [bt_lay h0 h1]
      have e1 : (s.b != g.c) = true := by simpa using h1
      clear h0 h1
      generalize hr : Spec.layG g g.c = r
      have Hr := Lib.hid hr
      clear hr
      go_enter Try.func14, Try.ntmps14
      go_wp2_with fail
      refine (lay_calls g g.c _).out.mono ?_
      rw [Hr.out]
      rintro e w1 ⟨rfl, hb1⟩
      obtain ⟨w2, rfl, hb3, hz0, hz1, hz2⟩ := behind_alloc3 hb1
      clear hb1
      go_wp2_with fail
      exact bodyPost_ret (v := .agg (gc ⟨s.b, 0, r.o, r.p⟩)) (by simp [results, Try.results14, go_sem, hz2]) rfl ⟨rfl, (by first | exact Below.refl _ _ | exact below_alloc1 _ _ | exact below_alloc2 _ _ _ | exact below_alloc3 _ _ _ _ | (repeat' (first | assumption | exact Below.refl _ _ | exact below_alloc1 _ _ | exact below_alloc2 _ _ _ | exact below_alloc3 _ _ _ _ | (refine Below.drew ?_) | (refine below_wb ?_ ?_) | (refine Below.alloc ?_ ?_ _) | omega | (simp; done) | (simp; omega))))⟩

set_option maxHeartbeats 800000 in
theorem endSource_calls (g : G) (w : World) : Pur Try.prog 16 #[.agg (gc g)] w (.agg (gc (Spec.endSource g))) := by
  unfold Pur Spec.endSource
  generalize hr : Spec.layG g g.b = r
  have Hr := Lib.hid hr
  clear hr
  go_enter Try.func16, Try.ntmps16
  go_wp2_with fail
  refine (lay_calls g g.b _).out.mono ?_
  rw [Hr.out]
  rintro e w1 ⟨rfl, hb1⟩
  obtain ⟨w2, rfl, hb3, hz0, hz1⟩ := behind_alloc2 hb1
  clear hb1
  go_wp2_with fail
  exact bodyPost_ret (v := .agg (gc ⟨r.c, 0, r.o, r.p⟩)) (by simp [results, Try.results16, go_sem, hz1]) rfl ⟨rfl, (by first | exact Below.refl _ _ | exact below_alloc1 _ _ | exact below_alloc2 _ _ _ | exact below_alloc3 _ _ _ _ | (repeat' (first | assumption | exact Below.refl _ _ | exact below_alloc1 _ _ | exact below_alloc2 _ _ _ | exact below_alloc3 _ _ _ _ | (refine Below.drew ?_) | (refine below_wb ?_ ?_) | (refine Below.alloc ?_ ?_ _) | omega | (simp; done) | (simp; omega))))⟩

set_option maxHeartbeats 800000 in
theorem endTarget_calls (g s : G) (w : World) : Pur Try.prog 18 #[.agg (gc g), .agg (gc s)] w (.agg (gc (Spec.endTarget s))) := by
  unfold Pur Spec.endTarget
  go_enter Try.func18, Try.ntmps18
  go_wp2_with fail
  go_region
  all_goals go_wp2_with fail
  exact bodyPost_ret (v := .agg (gc ⟨s.c, 0, s.o, s.p⟩)) (by simp [results, Try.results18, go_sem]) rfl ⟨rfl, (by first | exact Below.refl _ _ | exact below_alloc1 _ _ | exact below_alloc2 _ _ _ | exact below_alloc3 _ _ _ _ | (repeat' (first | assumption | exact Below.refl _ _ | exact below_alloc1 _ _ | exact below_alloc2 _ _ _ | exact below_alloc3 _ _ _ _ | (refine Below.drew ?_) | (refine below_wb ?_ ?_) | (refine Below.alloc ?_ ?_ _) | omega | (simp; done) | (simp; omega))))⟩

/-! ### the document's -/

set_option maxHeartbeats 400000 in
theorem none_calls (x : Int) (w : World) : Pur Try.prog 30 #[.int .u64 x] w (.bool (x == 0 || x == 4)) := by
  unfold Pur
  go_enter Try.func30, Try.ntmps30
  go_wp2
  all_goals go_ret
  all_goals exact ⟨by simp_all, (by first | exact Below.refl _ _ | exact below_alloc1 _ _ | exact below_alloc2 _ _ _ | exact below_alloc3 _ _ _ _ | (repeat' (first | assumption | exact Below.refl _ _ | exact below_alloc1 _ _ | exact below_alloc2 _ _ _ | exact below_alloc3 _ _ _ _ | (refine Below.drew ?_) | (refine below_wb ?_ ?_) | (refine Below.alloc ?_ ?_ _) | omega | (simp; done) | (simp; omega))))⟩

set_option maxHeartbeats 400000 in
theorem past_calls (g : G) (x : Int) (w : World) : Pur Try.prog 28 #[.agg (gc g), .int .u64 x] w (.agg (gc (Spec.layG g x))) := by
  unfold Pur
  cases hn : (x == 0 || x == 4) with
  | true =>
    have e : Spec.layG g x = g := lay_no (by
      simp only [Bool.or_eq_true, beq_iff_eq] at hn
      simp only [Bool.and_eq_false_iff, bne_eq_false_iff_eq]; omega)
    rw [e]
    clear e
    go_enter Try.func28, Try.ntmps28
    go_wp2_with fail
    refine (none_calls x _).out.mono ?_
    rintro e w1 ⟨rfl, hb1⟩
    obtain ⟨w2, rfl, hb3, hz0, hz1⟩ := behind_alloc2 hb1
    clear hb1
    go_wp2_with fail
    exact bodyPost_ret (v := .agg (gc g)) (by simp [results, Try.results28, go_sem, hz1]) rfl ⟨rfl, (by first | exact Below.refl _ _ | exact below_alloc1 _ _ | exact below_alloc2 _ _ _ | exact below_alloc3 _ _ _ _ | (repeat' (first | assumption | exact Below.refl _ _ | exact below_alloc1 _ _ | exact below_alloc2 _ _ _ | exact below_alloc3 _ _ _ _ | (refine Below.drew ?_) | (refine below_wb ?_ ?_) | (refine Below.alloc ?_ ?_ _) | omega | (simp; done) | (simp; omega))))⟩
  | false =>
    by_cases h : x = g.o
    · have e : Spec.layG g x = g := lay_no (by simp only [Bool.and_eq_false_iff, bne_eq_false_iff_eq]; omega)
      have e1 : (x == g.o) = true := by simpa using h
      rw [e]
      clear e h
      go_enter Try.func28, Try.ntmps28
      go_wp2_with fail
      refine (none_calls x _).out.mono ?_
      rintro e w1 ⟨rfl, hb1⟩
      obtain ⟨w2, rfl, hb3, hz0, hz1⟩ := behind_alloc2 hb1
      clear hb1
      go_wp2_with fail
      exact bodyPost_ret (v := .agg (gc g)) (by simp [results, Try.results28, go_sem, hz1]) rfl ⟨rfl, (by first | exact Below.refl _ _ | exact below_alloc1 _ _ | exact below_alloc2 _ _ _ | exact below_alloc3 _ _ _ _ | (repeat' (first | assumption | exact Below.refl _ _ | exact below_alloc1 _ _ | exact below_alloc2 _ _ _ | exact below_alloc3 _ _ _ _ | (refine Below.drew ?_) | (refine below_wb ?_ ?_) | (refine Below.alloc ?_ ?_ _) | omega | (simp; done) | (simp; omega))))⟩
    · have e : Spec.layG g x = ⟨g.c, g.b, x, g.o⟩ := lay_yes (by
        simp only [Bool.or_eq_false_iff, beq_eq_false_iff_ne] at hn
        simp only [Bool.and_eq_true, bne_iff_ne]; omega)
      have e1 : (x == g.o) = false := by simpa using h
      rw [e]
      clear e h
      go_enter Try.func28, Try.ntmps28
      go_wp2_with fail
      refine (none_calls x _).out.mono ?_
      rintro e w1 ⟨rfl, hb1⟩
      obtain ⟨w2, rfl, hb3, hz0, hz1⟩ := behind_alloc2 hb1
      clear hb1
      go_wp2_with fail
      exact bodyPost_ret (v := .agg (gc ⟨g.c, g.b, x, g.o⟩)) (by simp [results, Try.results28, go_sem, hz1]) rfl ⟨rfl, (by first | exact Below.refl _ _ | exact below_alloc1 _ _ | exact below_alloc2 _ _ _ | exact below_alloc3 _ _ _ _ | (repeat' (first | assumption | exact Below.refl _ _ | exact below_alloc1 _ _ | exact below_alloc2 _ _ _ | exact below_alloc3 _ _ _ _ | (refine Below.drew ?_) | (refine below_wb ?_ ?_) | (refine Below.alloc ?_ ?_ _) | omega | (simp; done) | (simp; omega))))⟩

set_option maxHeartbeats 400000 in
theorem refRotate_calls (g : G) (f : Int) (w : World) : Pur Try.prog 11 #[.agg (gc g), .int .u64 f] w (.agg (gc (Spec.rotate g f))) := by
  unfold Pur
  by_cases h : g.b = 0
  · have hb : (g.b == 0) = true := by simpa using h
    have e : Spec.rotate g f = ⟨f, g.c, g.o, g.p⟩ := by unfold Spec.rotate; rw [if_pos h]
    rw [e]
    clear e h
    go_enter Try.func11, Try.ntmps11
    go_wp2_with fail
    exact bodyPost_ret (v := .agg (gc ⟨f, g.c, g.o, g.p⟩)) (by simp [results, Try.results11, go_sem]) rfl ⟨rfl, below_alloc2 _ _ _⟩
  · have hb : (g.b == 0) = false := by simpa using h
    have e : Spec.rotate g f = ⟨f, (Spec.layG g g.c).b, (Spec.layG g g.c).o, (Spec.layG g g.c).p⟩ := by unfold Spec.rotate; rw [if_neg h]
    rw [e]
    clear e h
    generalize hr : Spec.layG g g.c = r
    have Hr := Lib.hid hr
    clear hr
    go_enter Try.func11, Try.ntmps11
    go_wp2_with fail
    refine (past_calls g g.c _).out.mono ?_
    rw [Hr.out]
    rintro e w1 ⟨rfl, hb1⟩
    obtain ⟨w2, rfl, hb3, hz0, hz1⟩ := behind_alloc2 hb1
    clear hb1
    go_wp2_with fail
    exact bodyPost_ret (v := .agg (gc ⟨f, r.b, r.o, r.p⟩)) (by simp [results, Try.results11, go_sem, hz1]) rfl ⟨rfl, (by first | exact Below.refl _ _ | exact below_alloc1 _ _ | exact below_alloc2 _ _ _ | exact below_alloc3 _ _ _ _ | (repeat' (first | assumption | exact Below.refl _ _ | exact below_alloc1 _ _ | exact below_alloc2 _ _ _ | exact below_alloc3 _ _ _ _ | (refine Below.drew ?_) | (refine below_wb ?_ ?_) | (refine Below.alloc ?_ ?_ _) | omega | (simp; done) | (simp; omega))))⟩

set_option maxHeartbeats 800000 in
theorem refBeginSource_calls (g : G) (f : Int) (w : World) : Pur Try.prog 13 #[.agg (gc g), .int .u64 f] w (.agg (gc (Spec.beginSource g f))) := by
  unfold Pur
  have en : (g.c == 0 || g.c == 4) = Spec.isNew g := rfl
  by_cases h4 : g.b = 4
  · rw [bs_fresh (.inl h4)]
    have e4 : (g.b == 4) = true := by simpa using h4
    clear h4 en
    go_enter Try.func13, Try.ntmps13
    go_wp2_with fail
    refine (none_calls g.c _).out.mono ?_
    rintro e w1 ⟨rfl, hb1⟩
    obtain ⟨w2, rfl, hb3, hz0, hz1⟩ := behind_alloc2 hb1
    clear hb1
    go_wp2_with fail
    exact bodyPost_ret (v := .agg (gc ⟨g.c, f, g.o, g.p⟩)) (by simp [results, Try.results13, go_sem, hz1]) rfl ⟨rfl, (by first | exact Below.refl _ _ | exact below_alloc1 _ _ | exact below_alloc2 _ _ _ | exact below_alloc3 _ _ _ _ | (repeat' (first | assumption | exact Below.refl _ _ | exact below_alloc1 _ _ | exact below_alloc2 _ _ _ | exact below_alloc3 _ _ _ _ | (refine Below.drew ?_) | (refine below_wb ?_ ?_) | (refine Below.alloc ?_ ?_ _) | omega | (simp; done) | (simp; omega))))⟩
  · have e4 : (g.b == 4) = false := by simpa using h4
    by_cases h0 : g.b = 0
    · have e0 : (g.b == 0) = true := by simpa using h0
      cases hn : Spec.isNew g with
      | true =>
        rw [bs_fresh (.inr ⟨h0, hn⟩)]
        rw [hn] at en
        clear h4 h0 hn
        go_enter Try.func13, Try.ntmps13
        go_wp2_with fail
        refine (none_calls g.c _).out.mono ?_
        rintro e w1 ⟨rfl, hb1⟩
        obtain ⟨w2, rfl, hb3, hz0, hz1⟩ := behind_alloc2 hb1
        clear hb1
        go_wp2_with fail
        exact bodyPost_ret (v := .agg (gc ⟨g.c, f, g.o, g.p⟩)) (by simp [results, Try.results13, go_sem, hz1]) rfl ⟨rfl, (by first | exact Below.refl _ _ | exact below_alloc1 _ _ | exact below_alloc2 _ _ _ | exact below_alloc3 _ _ _ _ | (repeat' (first | assumption | exact Below.refl _ _ | exact below_alloc1 _ _ | exact below_alloc2 _ _ _ | exact below_alloc3 _ _ _ _ | (refine Below.drew ?_) | (refine below_wb ?_ ?_) | (refine Below.alloc ?_ ?_ _) | omega | (simp; done) | (simp; omega))))⟩
      | false =>
        rw [bs_rotate h0 hn]
        rw [hn] at en
        clear h4 h0 hn
        generalize hr : Spec.rotate g f = r
        have Hr := Lib.hid hr
        clear hr
        go_enter Try.func13, Try.ntmps13
        go_wp2_with fail
        refine (none_calls g.c _).out.mono ?_
        rintro e w1 ⟨rfl, hb1⟩
        obtain ⟨w2, rfl, hb3, hz0, hz1⟩ := behind_alloc2 hb1
        clear hb1
        go_wp2_with fail
        refine (refRotate_calls g f _).out.mono ?_
        rw [Hr.out]
        rintro e w1 ⟨rfl, hb1⟩
        obtain ⟨w4, rfl, hb4, _, hy0, hy1⟩ := behind_wb2 (B := w.heap.size) hb1 hz0 hz1 (by omega) (by omega) (by omega)
        have hb5 := hb3.trans hb4
        clear hb1 hb3 hb4 hz0 hz1
        go_wp2_with fail
        exact bodyPost_ret (v := .agg (gc r)) (by simp [results, Try.results13, go_sem, hy1]) rfl ⟨rfl, (by first | exact Below.refl _ _ | exact below_alloc1 _ _ | exact below_alloc2 _ _ _ | exact below_alloc3 _ _ _ _ | (repeat' (first | assumption | exact Below.refl _ _ | exact below_alloc1 _ _ | exact below_alloc2 _ _ _ | exact below_alloc3 _ _ _ _ | (refine Below.drew ?_) | (refine below_wb ?_ ?_) | (refine Below.alloc ?_ ?_ _) | omega | (simp; done) | (simp; omega))))⟩
    · rw [bs_same h0 h4]
      have e0 : (g.b == 0) = false := by simpa using h0
      clear h0 h4 en
      go_enter Try.func13, Try.ntmps13
      go_wp2_with fail
      refine (none_calls g.c _).out.mono ?_
      rintro e w1 ⟨rfl, hb1⟩
      obtain ⟨w2, rfl, hb3, hz0, hz1⟩ := behind_alloc2 hb1
      clear hb1
      go_wp2_with fail
      exact bodyPost_ret (v := .agg (gc g)) (by simp [results, Try.results13, go_sem, hz1]) rfl ⟨rfl, (by first | exact Below.refl _ _ | exact below_alloc1 _ _ | exact below_alloc2 _ _ _ | exact below_alloc3 _ _ _ _ | (repeat' (first | assumption | exact Below.refl _ _ | exact below_alloc1 _ _ | exact below_alloc2 _ _ _ | exact below_alloc3 _ _ _ _ | (refine Below.drew ?_) | (refine below_wb ?_ ?_) | (refine Below.alloc ?_ ?_ _) | omega | (simp; done) | (simp; omega))))⟩

set_option maxHeartbeats 800000 in
theorem refBeginTarget_calls (g s : G) (w : World) : Pur Try.prog 15 #[.agg (gc g), .agg (gc s)] w (.agg (gc (Spec.beginTarget g s))) := by
  unfold Pur
  by_cases h0 : s.b = 0
  · rw [bt_none h0]
    have e0 : (s.b == 0) = true := by simpa using h0
    clear h0
    go_enter Try.func15, Try.ntmps15
    go_wp2_with fail
    exact bodyPost_ret (v := .agg (gc g)) (by simp [results, Try.results15, go_sem]) rfl ⟨rfl, (by first | exact Below.refl _ _ | exact below_alloc1 _ _ | exact below_alloc2 _ _ _ | exact below_alloc3 _ _ _ _ | (repeat' (first | assumption | exact Below.refl _ _ | exact below_alloc1 _ _ | exact below_alloc2 _ _ _ | exact below_alloc3 _ _ _ _ | (refine Below.drew ?_) | (refine below_wb ?_ ?_) | (refine Below.alloc ?_ ?_ _) | omega | (simp; done) | (simp; omega))))⟩
  · have e0 : (s.b == 0) = false := by simpa using h0
    by_cases h1 : s.b = g.c
    · rw [bt_same h0 h1]
      have e1 : (s.b != g.c) = false := by simpa using h1
      clear h0 h1
      go_enter Try.func15, Try.ntmps15
      go_wp2_with fail
      exact bodyPost_ret (v := .agg (gc ⟨s.b, 0, g.o, g.p⟩)) (by simp [results, Try.results15, go_sem]) rfl ⟨rfl, (by first | exact Below.refl _ _ | exact below_alloc1 _ _ | exact below_alloc2 _ _ _ | exact below_alloc3 _ _ _ _ | (repeat' (first | assumption | exact Below.refl _ _ | exact below_alloc1 _ _ | exact below_alloc2 _ _ _ | exact below_alloc3 _ _ _ _ | (refine Below.drew ?_) | (refine below_wb ?_ ?_) | (refine Below.alloc ?_ ?_ _) | omega | (simp; done) | (simp; omega))))⟩
    · rw [bt_lay h0 h1]
      have e1 : (s.b != g.c) = true := by simpa using h1
      clear h0 h1
      generalize hr : Spec.layG g g.c = r
      have Hr := Lib.hid hr
      clear hr
      go_enter Try.func15, Try.ntmps15
      go_wp2_with fail
      refine (past_calls g g.c _).out.mono ?_
      rw [Hr.out]
      rintro e w1 ⟨rfl, hb1⟩
      obtain ⟨w2, rfl, hb3, hz0, hz1, hz2⟩ := behind_alloc3 hb1
      clear hb1
      go_wp2_with fail
      exact bodyPost_ret (v := .agg (gc ⟨s.b, 0, r.o, r.p⟩)) (by simp [results, Try.results15, go_sem, hz2]) rfl ⟨rfl, (by first | exact Below.refl _ _ | exact below_alloc1 _ _ | exact below_alloc2 _ _ _ | exact below_alloc3 _ _ _ _ | (repeat' (first | assumption | exact Below.refl _ _ | exact below_alloc1 _ _ | exact below_alloc2 _ _ _ | exact below_alloc3 _ _ _ _ | (refine Below.drew ?_) | (refine below_wb ?_ ?_) | (refine Below.alloc ?_ ?_ _) | omega | (simp; done) | (simp; omega))))⟩

set_option maxHeartbeats 800000 in
theorem refEndSource_calls (g : G) (w : World) : Pur Try.prog 17 #[.agg (gc g)] w (.agg (gc (Spec.endSource g))) := by
  unfold Pur Spec.endSource
  generalize hr : Spec.layG g g.b = r
  have Hr := Lib.hid hr
  clear hr
  go_enter Try.func17, Try.ntmps17
  go_wp2_with fail
  refine (past_calls g g.b _).out.mono ?_
  rw [Hr.out]
  rintro e w1 ⟨rfl, hb1⟩
  obtain ⟨w2, rfl, hb3, hz0, hz1⟩ := behind_alloc2 hb1
  clear hb1
  go_wp2_with fail
  exact bodyPost_ret (v := .agg (gc ⟨r.c, 0, r.o, r.p⟩)) (by simp [results, Try.results17, go_sem, hz1]) rfl ⟨rfl, (by first | exact Below.refl _ _ | exact below_alloc1 _ _ | exact below_alloc2 _ _ _ | exact below_alloc3 _ _ _ _ | (repeat' (first | assumption | exact Below.refl _ _ | exact below_alloc1 _ _ | exact below_alloc2 _ _ _ | exact below_alloc3 _ _ _ _ | (refine Below.drew ?_) | (refine below_wb ?_ ?_) | (refine Below.alloc ?_ ?_ _) | omega | (simp; done) | (simp; omega))))⟩

set_option maxHeartbeats 800000 in
theorem refEndTarget_calls (g s : G) (w : World) : Pur Try.prog 19 #[.agg (gc g), .agg (gc s)] w (.agg (gc (Spec.endTarget s))) := by
  unfold Pur Spec.endTarget
  go_enter Try.func19, Try.ntmps19
  go_wp2_with fail
  exact bodyPost_ret (v := .agg (gc ⟨s.c, 0, s.o, s.p⟩)) (by simp [results, Try.results19, go_sem]) rfl ⟨rfl, (by first | exact Below.refl _ _ | exact below_alloc1 _ _ | exact below_alloc2 _ _ _ | exact below_alloc3 _ _ _ _ | (repeat' (first | assumption | exact Below.refl _ _ | exact below_alloc1 _ _ | exact below_alloc2 _ _ _ | exact below_alloc3 _ _ _ _ | (refine Below.drew ?_) | (refine below_wb ?_ ?_) | (refine Below.alloc ?_ ?_ _) | omega | (simp; done) | (simp; omega))))⟩

theorem wrap_u64 (x : Int) : IntKind.u64.wrap x = x % 18446744073709551616 := by
  have h : (2 ^ IntKind.u64.bits : Int) = 18446744073709551616 := by decide
  simp [IntKind.wrap, IntKind.signed, h]
theorem and_one (n : Int) : IntKind.u64.wrap (Go.bits .and .i64 n 1) = n % 2 := by
  have h : Go.bits .and .i64 n 1 = IntKind.i64.wrap ((BitVec.ofInt 64 n &&& BitVec.ofInt 64 1).toNat : Int) := rfl
  have e : (BitVec.ofInt 64 n &&& BitVec.ofInt 64 1).toNat = (n % 18446744073709551616).toNat % 2 := by
    rw [BitVec.toNat_and, BitVec.toNat_ofInt]
    exact Nat.and_one_is_mod _
  rw [h, e, IntKind.wrap_i64, wrap_u64]
  omega
theorem fresh_eq1 (n x : Int) : IntKind.u64.wrap (IntKind.u64.wrap (IntKind.u64.wrap (32 * x) + IntKind.u64.wrap (16 * (n % 2))) + 8) = Spec.fresh n x := by
  unfold Spec.fresh; simp only [wrap_u64]; omega

theorem ret_u64 {a b : Int} (h : a = b) : Ending.returned (.int .u64 a) = .returned (.int .u64 b) := by rw [h]

set_option maxHeartbeats 400000 in
theorem fresh_calls (n x : Int) (w : World) : Pur Try.prog 8 #[.int .i64 n, .int .u64 x] w (.int .u64 (Spec.fresh n x)) := by
  unfold Pur
  go_enter Try.func8, Try.ntmps8
  go_wp2
  go_ret
  exact ⟨ret_u64 (by rw [and_one, fresh_eq1]), (by first | exact Below.refl _ _ | exact below_alloc1 _ _ | exact below_alloc2 _ _ _ | exact below_alloc3 _ _ _ _ | (repeat' (first | assumption | exact Below.refl _ _ | exact below_alloc1 _ _ | exact below_alloc2 _ _ _ | exact below_alloc3 _ _ _ _ | (refine Below.drew ?_) | (refine below_wb ?_ ?_) | (refine Below.alloc ?_ ?_ _) | omega | (simp; done) | (simp; omega))))⟩

theorem tmod_two (n : Int) : n.tmod 2 = 0 ↔ n % 2 = 0 := by
  rw [← Int.dvd_iff_tmod_eq_zero]; omega

set_option maxHeartbeats 400000 in
theorem refFresh_calls (n x : Int) (w : World) : Pur Try.prog 9 #[.int .i64 n, .int .u64 x] w (.int .u64 (Spec.fresh n x)) := by
  unfold Pur
  by_cases h : n % 2 = 0
  · have e : (n.tmod 2 != 0) = false := by
      simp only [bne_eq_false_iff_eq]; exact (tmod_two n).2 h
    have hh := Lib.hid h
    clear h
    go_enter Try.func9, Try.ntmps9
    go_wp2
    go_ret
    exact ⟨ret_u64 (by unfold Spec.fresh; rw [hh.out]; simp only [wrap_u64]; omega), (by first | exact Below.refl _ _ | exact below_alloc1 _ _ | exact below_alloc2 _ _ _ | exact below_alloc3 _ _ _ _ | (repeat' (first | assumption | exact Below.refl _ _ | exact below_alloc1 _ _ | exact below_alloc2 _ _ _ | exact below_alloc3 _ _ _ _ | (refine Below.drew ?_) | (refine below_wb ?_ ?_) | (refine Below.alloc ?_ ?_ _) | omega | (simp; done) | (simp; omega))))⟩
  · have e : (n.tmod 2 != 0) = true := by
      simp only [bne_iff_ne, ne_eq]; exact fun h' => h ((tmod_two n).1 h')
    have hh : Hid (n % 2 = 1) := Lib.hid (by omega)
    clear h
    go_enter Try.func9, Try.ntmps9
    go_wp2
    go_ret
    exact ⟨ret_u64 (by unfold Spec.fresh; rw [hh.out]; simp only [wrap_u64]; omega), (by first | exact Below.refl _ _ | exact below_alloc1 _ _ | exact below_alloc2 _ _ _ | exact below_alloc3 _ _ _ _ | (repeat' (first | assumption | exact Below.refl _ _ | exact below_alloc1 _ _ | exact below_alloc2 _ _ _ | exact below_alloc3 _ _ _ _ | (refine Below.drew ?_) | (refine below_wb ?_ ?_) | (refine Below.alloc ?_ ?_ _) | omega | (simp; done) | (simp; omega))))⟩

end Go.Proofs.Ytboanmhibbhceaa
