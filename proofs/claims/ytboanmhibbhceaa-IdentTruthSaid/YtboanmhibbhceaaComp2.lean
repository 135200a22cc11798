/- Compare of the program, the walk. (Printed by wip/mkcomp.py.) -/
import Derived.Test.YtboanmhibbhceaaComp15
namespace Go.Proofs.Ytboanmhibbhceaa
open Go.RowKit
set_option linter.unusedVariables false
set_option linter.unusedSimpArgs false

abbrev vv2 (p : Int × Int) : Value := .agg #[.int .i64 p.1, .int .i64 p.2]

set_option maxRecDepth 100000 in
set_option maxHeartbeats 40000000 in
theorem compare_calls (node own peer : Int) (g h : G) (w : World) : Pur Try.prog 22 #[.int .i64 node, .agg (gc g), .int .u32 own, .agg (gc h), .int .u32 peer] w (.agg #[.int .i64 (Spec.compare ⟨node == 0, g, Go.bits .and .u32 own 8 != 0, h, Go.bits .and .u32 peer 8 != 0⟩).1, .int .i64 (Spec.compare ⟨node == 0, g, Go.bits .and .u32 own 8 != 0, h, Go.bits .and .u32 peer 8 != 0⟩).2]) := by
  unfold Pur
  obtain ⟨fi, hf⟩ : ∃ x, (node == 0) = x := ⟨_, rfl⟩
  obtain ⟨gx, hg⟩ : ∃ x, (Go.bits .and .u32 own 8 != 0) = x := ⟨_, rfl⟩
  obtain ⟨hx, hh⟩ : ∃ x, (Go.bits .and .u32 peer 8 != 0) = x := ⟨_, rfl⟩
  rw [hf, hg, hh]
  go_enter Try.func22, Try.ntmps22
  go_wp2_with (first | (go_at_call 35; refine (rules_calls _).mono ?_; rintro e w1 ⟨rfl, rfl⟩) | fail)
  clear hf hg hh
  refine loop_head (n := 15) (w0 := w) (c10 := #[.int .i64 0, .int .i64 0]) (cp := pc ⟨fi, g, gx, h, hx⟩) (cs := ruleCells) (t10 := 34) (tp := 68) (ts := 73) (B := w.heap.size) (b10 := w.heap.size + 1 + 1) (b11 := w.heap.size + 1 + 1 + 1) (bs := w.heap.size + 1 + 1 + 1 + 1) (by repeat' first | (refine heap_wb ?_; focus (first | omega | (simp; done) | (simp; omega))) | (refine heap_new _ _ _ ?_; first | rfl | (simp; done)) | (refine (heap_wb_ne ?_).trans ?_; focus (first | omega | (simp; done) | (simp; omega))) | (refine (heap_old _ _ _ ?_).trans ?_; focus (first | omega | (simp; done) | (simp; omega))) | (refine (heap_drew _ _).trans ?_)) (by repeat' first | (refine heap_wb ?_; focus (first | omega | (simp; done) | (simp; omega))) | (refine heap_new _ _ _ ?_; first | rfl | (simp; done)) | (refine (heap_wb_ne ?_).trans ?_; focus (first | omega | (simp; done) | (simp; omega))) | (refine (heap_old _ _ _ ?_).trans ?_; focus (first | omega | (simp; done) | (simp; omega))) | (refine (heap_drew _ _).trans ?_)) (by repeat' first | (refine heap_wb ?_; focus (first | omega | (simp; done) | (simp; omega))) | (refine heap_new _ _ _ ?_; first | rfl | (simp; done)) | (refine (heap_wb_ne ?_).trans ?_; focus (first | omega | (simp; done) | (simp; omega))) | (refine (heap_old _ _ _ ?_).trans ?_; focus (first | omega | (simp; done) | (simp; omega))) | (refine (heap_drew _ _).trans ?_)) (by first | exact Below.refl _ _ | exact below_alloc1 _ _ | exact below_alloc2 _ _ _ | exact below_alloc3 _ _ _ _ | (repeat' (first | assumption | exact Below.refl _ _ | exact below_alloc1 _ _ | exact below_alloc2 _ _ _ | exact below_alloc3 _ _ _ _ | (refine Below.drew ?_) | (refine below_wb ?_ ?_) | (refine Below.alloc ?_ ?_ _) | omega | (simp; done) | (simp; omega)))) (fun u1 hB hp hs l10 l11 ls => ?_)
  have hB0 : w.heap.size ≤ u1.heap.size := by omega
  have n1 := Nat.ne_of_lt l11
  have n2 := Nat.ne_of_lt ls
  have n3 := Nat.ne_of_lt l10
  cases e1 : (Spec.bothNew ⟨fi, g, gx, h, hx⟩ != -1) with
  | true =>
    rw [rounds_succ]
    go_wp2_with (first | (go_at_call 52; refine (bothNew_calls ⟨fi, g, gx, h, hx⟩ _).out.mono ?_; rintro e w1 ⟨rfl, hb1⟩; obtain ⟨u2, rfl, hB', hp', hs', hr, z10, z11, zs, zr, _⟩ := round_next hb1 hB hp hs l10 l11 ls hB0 (by omega) (by omega) (by omega); have m1 := Nat.ne_of_lt z10; have m2 := Nat.ne_of_lt zr) | fail)
    exact bodyPost_ret (v := vv2 (Spec.bothNew ⟨fi, g, gx, h, hx⟩, 1)) (by simp [results, Try.results22, go_sem, z10]) rfl ⟨by rw [compare_1 e1], (by first | exact Below.refl _ _ | exact below_alloc1 _ _ | exact below_alloc2 _ _ _ | exact below_alloc3 _ _ _ _ | (repeat' (first | assumption | exact Below.refl _ _ | exact below_alloc1 _ _ | exact below_alloc2 _ _ _ | exact below_alloc3 _ _ _ _ | (refine Below.drew ?_) | (refine below_wb ?_ ?_) | (refine Below.alloc ?_ ?_ _) | omega | (simp; done) | (simp; omega))))⟩
  | false =>
  rw [rounds_succ]
  go_wp2_with (first | (go_at_call 52; refine (bothNew_calls ⟨fi, g, gx, h, hx⟩ _).out.mono ?_; rintro e w1 ⟨rfl, hb1⟩; obtain ⟨u2, rfl, hB', hp', hs', hr, z10, z11, zs, zr, _⟩ := round_next hb1 hB hp hs l10 l11 ls hB0 (by omega) (by omega) (by omega); have m1 := Nat.ne_of_lt z10; have m2 := Nat.ne_of_lt zr) | fail)
  clear hB hp hs l10 l11 ls hr zr n1 n2 n3 hB0 m1 m2
  have hB := hB'
  have hp := hp'
  have hs := hs'
  have l10 := z10
  have l11 := z11
  have ls := zs
  clear hB' hp' hs' z10 z11 zs
  have hB0 : w.heap.size ≤ u2.heap.size := by omega
  have n1 := Nat.ne_of_lt l11
  have n2 := Nat.ne_of_lt ls
  have n3 := Nat.ne_of_lt l10
  cases e2 : (Spec.oneNew ⟨fi, g, gx, h, hx⟩ != -1) with
  | true =>
    rw [rounds_succ]
    go_wp2_with (first | (go_at_call 53; refine (oneNew_calls ⟨fi, g, gx, h, hx⟩ _).out.mono ?_; rintro e w1 ⟨rfl, hb1⟩; obtain ⟨u3, rfl, hB', hp', hs', hr, z10, z11, zs, zr, _⟩ := round_next hb1 hB hp hs l10 l11 ls hB0 (by omega) (by omega) (by omega); have m1 := Nat.ne_of_lt z10; have m2 := Nat.ne_of_lt zr) | fail)
    exact bodyPost_ret (v := vv2 (Spec.oneNew ⟨fi, g, gx, h, hx⟩, 2)) (by simp [results, Try.results22, go_sem, z10]) rfl ⟨by rw [compare_2 e1 e2], (by first | exact Below.refl _ _ | exact below_alloc1 _ _ | exact below_alloc2 _ _ _ | exact below_alloc3 _ _ _ _ | (repeat' (first | assumption | exact Below.refl _ _ | exact below_alloc1 _ _ | exact below_alloc2 _ _ _ | exact below_alloc3 _ _ _ _ | (refine Below.drew ?_) | (refine below_wb ?_ ?_) | (refine Below.alloc ?_ ?_ _) | omega | (simp; done) | (simp; omega))))⟩
  | false =>
  rw [rounds_succ]
  go_wp2_with (first | (go_at_call 53; refine (oneNew_calls ⟨fi, g, gx, h, hx⟩ _).out.mono ?_; rintro e w1 ⟨rfl, hb1⟩; obtain ⟨u3, rfl, hB', hp', hs', hr, z10, z11, zs, zr, _⟩ := round_next hb1 hB hp hs l10 l11 ls hB0 (by omega) (by omega) (by omega); have m1 := Nat.ne_of_lt z10; have m2 := Nat.ne_of_lt zr) | fail)
  clear hB hp hs l10 l11 ls hr zr n1 n2 n3 hB0 m1 m2
  have hB := hB'
  have hp := hp'
  have hs := hs'
  have l10 := z10
  have l11 := z11
  have ls := zs
  clear hB' hp' hs' z10 z11 zs
  have hB0 : w.heap.size ≤ u3.heap.size := by omega
  have n1 := Nat.ne_of_lt l11
  have n2 := Nat.ne_of_lt ls
  have n3 := Nat.ne_of_lt l10
  cases e3 : (Spec.oneCrashed ⟨fi, g, gx, h, hx⟩ != -1) with
  | true =>
    rw [rounds_succ]
    go_wp2_with (first | (go_at_call 54; refine (oneCrashed_calls ⟨fi, g, gx, h, hx⟩ _).out.mono ?_; rintro e w1 ⟨rfl, hb1⟩; obtain ⟨u4, rfl, hB', hp', hs', hr, z10, z11, zs, zr, _⟩ := round_next hb1 hB hp hs l10 l11 ls hB0 (by omega) (by omega) (by omega); have m1 := Nat.ne_of_lt z10; have m2 := Nat.ne_of_lt zr) | fail)
    exact bodyPost_ret (v := vv2 (Spec.oneCrashed ⟨fi, g, gx, h, hx⟩, 3)) (by simp [results, Try.results22, go_sem, z10]) rfl ⟨by rw [compare_3 e1 e2 e3], (by first | exact Below.refl _ _ | exact below_alloc1 _ _ | exact below_alloc2 _ _ _ | exact below_alloc3 _ _ _ _ | (repeat' (first | assumption | exact Below.refl _ _ | exact below_alloc1 _ _ | exact below_alloc2 _ _ _ | exact below_alloc3 _ _ _ _ | (refine Below.drew ?_) | (refine below_wb ?_ ?_) | (refine Below.alloc ?_ ?_ _) | omega | (simp; done) | (simp; omega))))⟩
  | false =>
  rw [rounds_succ]
  go_wp2_with (first | (go_at_call 54; refine (oneCrashed_calls ⟨fi, g, gx, h, hx⟩ _).out.mono ?_; rintro e w1 ⟨rfl, hb1⟩; obtain ⟨u4, rfl, hB', hp', hs', hr, z10, z11, zs, zr, _⟩ := round_next hb1 hB hp hs l10 l11 ls hB0 (by omega) (by omega) (by omega); have m1 := Nat.ne_of_lt z10; have m2 := Nat.ne_of_lt zr) | fail)
  clear hB hp hs l10 l11 ls hr zr n1 n2 n3 hB0 m1 m2
  have hB := hB'
  have hp := hp'
  have hs := hs'
  have l10 := z10
  have l11 := z11
  have ls := zs
  clear hB' hp' hs' z10 z11 zs
  have hB0 : w.heap.size ≤ u4.heap.size := by omega
  have n1 := Nat.ne_of_lt l11
  have n2 := Nat.ne_of_lt ls
  have n3 := Nat.ne_of_lt l10
  cases e4 : (Spec.bothCrashed ⟨fi, g, gx, h, hx⟩ != -1) with
  | true =>
    rw [rounds_succ]
    go_wp2_with (first | (go_at_call 55; refine (bothCrashed_calls ⟨fi, g, gx, h, hx⟩ _).out.mono ?_; rintro e w1 ⟨rfl, hb1⟩; obtain ⟨u5, rfl, hB', hp', hs', hr, z10, z11, zs, zr, _⟩ := round_next hb1 hB hp hs l10 l11 ls hB0 (by omega) (by omega) (by omega); have m1 := Nat.ne_of_lt z10; have m2 := Nat.ne_of_lt zr) | fail)
    exact bodyPost_ret (v := vv2 (Spec.bothCrashed ⟨fi, g, gx, h, hx⟩, 4)) (by simp [results, Try.results22, go_sem, z10]) rfl ⟨by rw [compare_4 e1 e2 e3 e4], (by first | exact Below.refl _ _ | exact below_alloc1 _ _ | exact below_alloc2 _ _ _ | exact below_alloc3 _ _ _ _ | (repeat' (first | assumption | exact Below.refl _ _ | exact below_alloc1 _ _ | exact below_alloc2 _ _ _ | exact below_alloc3 _ _ _ _ | (refine Below.drew ?_) | (refine below_wb ?_ ?_) | (refine Below.alloc ?_ ?_ _) | omega | (simp; done) | (simp; omega))))⟩
  | false =>
  rw [rounds_succ]
  go_wp2_with (first | (go_at_call 55; refine (bothCrashed_calls ⟨fi, g, gx, h, hx⟩ _).out.mono ?_; rintro e w1 ⟨rfl, hb1⟩; obtain ⟨u5, rfl, hB', hp', hs', hr, z10, z11, zs, zr, _⟩ := round_next hb1 hB hp hs l10 l11 ls hB0 (by omega) (by omega) (by omega); have m1 := Nat.ne_of_lt z10; have m2 := Nat.ne_of_lt zr) | fail)
  clear hB hp hs l10 l11 ls hr zr n1 n2 n3 hB0 m1 m2
  have hB := hB'
  have hp := hp'
  have hs := hs'
  have l10 := z10
  have l11 := z11
  have ls := zs
  clear hB' hp' hs' z10 z11 zs
  have hB0 : w.heap.size ≤ u5.heap.size := by omega
  have n1 := Nat.ne_of_lt l11
  have n2 := Nat.ne_of_lt ls
  have n3 := Nat.ne_of_lt l10
  cases e5 : (Spec.oneCounts ⟨fi, g, gx, h, hx⟩ != -1) with
  | true =>
    rw [rounds_succ]
    go_wp2_with (first | (go_at_call 56; refine (oneCounts_calls ⟨fi, g, gx, h, hx⟩ _).out.mono ?_; rintro e w1 ⟨rfl, hb1⟩; obtain ⟨u6, rfl, hB', hp', hs', hr, z10, z11, zs, zr, _⟩ := round_next hb1 hB hp hs l10 l11 ls hB0 (by omega) (by omega) (by omega); have m1 := Nat.ne_of_lt z10; have m2 := Nat.ne_of_lt zr) | fail)
    exact bodyPost_ret (v := vv2 (Spec.oneCounts ⟨fi, g, gx, h, hx⟩, 5)) (by simp [results, Try.results22, go_sem, z10]) rfl ⟨by rw [compare_5 e1 e2 e3 e4 e5], (by first | exact Below.refl _ _ | exact below_alloc1 _ _ | exact below_alloc2 _ _ _ | exact below_alloc3 _ _ _ _ | (repeat' (first | assumption | exact Below.refl _ _ | exact below_alloc1 _ _ | exact below_alloc2 _ _ _ | exact below_alloc3 _ _ _ _ | (refine Below.drew ?_) | (refine below_wb ?_ ?_) | (refine Below.alloc ?_ ?_ _) | omega | (simp; done) | (simp; omega))))⟩
  | false =>
  rw [rounds_succ]
  go_wp2_with (first | (go_at_call 56; refine (oneCounts_calls ⟨fi, g, gx, h, hx⟩ _).out.mono ?_; rintro e w1 ⟨rfl, hb1⟩; obtain ⟨u6, rfl, hB', hp', hs', hr, z10, z11, zs, zr, _⟩ := round_next hb1 hB hp hs l10 l11 ls hB0 (by omega) (by omega) (by omega); have m1 := Nat.ne_of_lt z10; have m2 := Nat.ne_of_lt zr) | fail)
  clear hB hp hs l10 l11 ls hr zr n1 n2 n3 hB0 m1 m2
  have hB := hB'
  have hp := hp'
  have hs := hs'
  have l10 := z10
  have l11 := z11
  have ls := zs
  clear hB' hp' hs' z10 z11 zs
  have hB0 : w.heap.size ≤ u6.heap.size := by omega
  have n1 := Nat.ne_of_lt l11
  have n2 := Nat.ne_of_lt ls
  have n3 := Nat.ne_of_lt l10
  cases e6 : (Spec.noneCounts ⟨fi, g, gx, h, hx⟩ != -1) with
  | true =>
    rw [rounds_succ]
    go_wp2_with (first | (go_at_call 57; refine (noneCounts_calls ⟨fi, g, gx, h, hx⟩ _).out.mono ?_; rintro e w1 ⟨rfl, hb1⟩; obtain ⟨u7, rfl, hB', hp', hs', hr, z10, z11, zs, zr, _⟩ := round_next hb1 hB hp hs l10 l11 ls hB0 (by omega) (by omega) (by omega); have m1 := Nat.ne_of_lt z10; have m2 := Nat.ne_of_lt zr) | fail)
    exact bodyPost_ret (v := vv2 (Spec.noneCounts ⟨fi, g, gx, h, hx⟩, 6)) (by simp [results, Try.results22, go_sem, z10]) rfl ⟨by rw [compare_6 e1 e2 e3 e4 e5 e6], (by first | exact Below.refl _ _ | exact below_alloc1 _ _ | exact below_alloc2 _ _ _ | exact below_alloc3 _ _ _ _ | (repeat' (first | assumption | exact Below.refl _ _ | exact below_alloc1 _ _ | exact below_alloc2 _ _ _ | exact below_alloc3 _ _ _ _ | (refine Below.drew ?_) | (refine below_wb ?_ ?_) | (refine Below.alloc ?_ ?_ _) | omega | (simp; done) | (simp; omega))))⟩
  | false =>
  rw [rounds_succ]
  go_wp2_with (first | (go_at_call 57; refine (noneCounts_calls ⟨fi, g, gx, h, hx⟩ _).out.mono ?_; rintro e w1 ⟨rfl, hb1⟩; obtain ⟨u7, rfl, hB', hp', hs', hr, z10, z11, zs, zr, _⟩ := round_next hb1 hB hp hs l10 l11 ls hB0 (by omega) (by omega) (by omega); have m1 := Nat.ne_of_lt z10; have m2 := Nat.ne_of_lt zr) | fail)
  clear hB hp hs l10 l11 ls hr zr n1 n2 n3 hB0 m1 m2
  have hB := hB'
  have hp := hp'
  have hs := hs'
  have l10 := z10
  have l11 := z11
  have ls := zs
  clear hB' hp' hs' z10 z11 zs
  have hB0 : w.heap.size ≤ u7.heap.size := by omega
  have n1 := Nat.ne_of_lt l11
  have n2 := Nat.ne_of_lt ls
  have n3 := Nat.ne_of_lt l10
  cases e7 : (Spec.bothCount ⟨fi, g, gx, h, hx⟩ != -1) with
  | true =>
    rw [rounds_succ]
    go_wp2_with (first | (go_at_call 58; refine (bothCount_calls ⟨fi, g, gx, h, hx⟩ _).out.mono ?_; rintro e w1 ⟨rfl, hb1⟩; obtain ⟨u8, rfl, hB', hp', hs', hr, z10, z11, zs, zr, _⟩ := round_next hb1 hB hp hs l10 l11 ls hB0 (by omega) (by omega) (by omega); have m1 := Nat.ne_of_lt z10; have m2 := Nat.ne_of_lt zr) | fail)
    exact bodyPost_ret (v := vv2 (Spec.bothCount ⟨fi, g, gx, h, hx⟩, 7)) (by simp [results, Try.results22, go_sem, z10]) rfl ⟨by rw [compare_7 e1 e2 e3 e4 e5 e6 e7], (by first | exact Below.refl _ _ | exact below_alloc1 _ _ | exact below_alloc2 _ _ _ | exact below_alloc3 _ _ _ _ | (repeat' (first | assumption | exact Below.refl _ _ | exact below_alloc1 _ _ | exact below_alloc2 _ _ _ | exact below_alloc3 _ _ _ _ | (refine Below.drew ?_) | (refine below_wb ?_ ?_) | (refine Below.alloc ?_ ?_ _) | omega | (simp; done) | (simp; omega))))⟩
  | false =>
  rw [rounds_succ]
  go_wp2_with (first | (go_at_call 58; refine (bothCount_calls ⟨fi, g, gx, h, hx⟩ _).out.mono ?_; rintro e w1 ⟨rfl, hb1⟩; obtain ⟨u8, rfl, hB', hp', hs', hr, z10, z11, zs, zr, _⟩ := round_next hb1 hB hp hs l10 l11 ls hB0 (by omega) (by omega) (by omega); have m1 := Nat.ne_of_lt z10; have m2 := Nat.ne_of_lt zr) | fail)
  clear hB hp hs l10 l11 ls hr zr n1 n2 n3 hB0 m1 m2
  have hB := hB'
  have hp := hp'
  have hs := hs'
  have l10 := z10
  have l11 := z11
  have ls := zs
  clear hB' hp' hs' z10 z11 zs
  have hB0 : w.heap.size ≤ u8.heap.size := by omega
  have n1 := Nat.ne_of_lt l11
  have n2 := Nat.ne_of_lt ls
  have n3 := Nat.ne_of_lt l10
  cases e8 : (Spec.bothAhead ⟨fi, g, gx, h, hx⟩ != -1) with
  | true =>
    rw [rounds_succ]
    go_wp2_with (first | (go_at_call 59; refine (bothAhead_calls ⟨fi, g, gx, h, hx⟩ _).out.mono ?_; rintro e w1 ⟨rfl, hb1⟩; obtain ⟨u9, rfl, hB', hp', hs', hr, z10, z11, zs, zr, _⟩ := round_next hb1 hB hp hs l10 l11 ls hB0 (by omega) (by omega) (by omega); have m1 := Nat.ne_of_lt z10; have m2 := Nat.ne_of_lt zr) | fail)
    exact bodyPost_ret (v := vv2 (Spec.bothAhead ⟨fi, g, gx, h, hx⟩, 8)) (by simp [results, Try.results22, go_sem, z10]) rfl ⟨by rw [compare_8 e1 e2 e3 e4 e5 e6 e7 e8], (by first | exact Below.refl _ _ | exact below_alloc1 _ _ | exact below_alloc2 _ _ _ | exact below_alloc3 _ _ _ _ | (repeat' (first | assumption | exact Below.refl _ _ | exact below_alloc1 _ _ | exact below_alloc2 _ _ _ | exact below_alloc3 _ _ _ _ | (refine Below.drew ?_) | (refine below_wb ?_ ?_) | (refine Below.alloc ?_ ?_ _) | omega | (simp; done) | (simp; omega))))⟩
  | false =>
  rw [rounds_succ]
  go_wp2_with (first | (go_at_call 59; refine (bothAhead_calls ⟨fi, g, gx, h, hx⟩ _).out.mono ?_; rintro e w1 ⟨rfl, hb1⟩; obtain ⟨u9, rfl, hB', hp', hs', hr, z10, z11, zs, zr, _⟩ := round_next hb1 hB hp hs l10 l11 ls hB0 (by omega) (by omega) (by omega); have m1 := Nat.ne_of_lt z10; have m2 := Nat.ne_of_lt zr) | fail)
  clear hB hp hs l10 l11 ls hr zr n1 n2 n3 hB0 m1 m2
  have hB := hB'
  have hp := hp'
  have hs := hs'
  have l10 := z10
  have l11 := z11
  have ls := zs
  clear hB' hp' hs' z10 z11 zs
  have hB0 : w.heap.size ≤ u9.heap.size := by omega
  have n1 := Nat.ne_of_lt l11
  have n2 := Nat.ne_of_lt ls
  have n3 := Nat.ne_of_lt l10
  cases e9 : (Spec.oneAhead ⟨fi, g, gx, h, hx⟩ != -1) with
  | true =>
    rw [rounds_succ]
    go_wp2_with (first | (go_at_call 60; refine (oneAhead_calls ⟨fi, g, gx, h, hx⟩ _).out.mono ?_; rintro e w1 ⟨rfl, hb1⟩; obtain ⟨u10, rfl, hB', hp', hs', hr, z10, z11, zs, zr, _⟩ := round_next hb1 hB hp hs l10 l11 ls hB0 (by omega) (by omega) (by omega); have m1 := Nat.ne_of_lt z10; have m2 := Nat.ne_of_lt zr) | fail)
    exact bodyPost_ret (v := vv2 (Spec.oneAhead ⟨fi, g, gx, h, hx⟩, 9)) (by simp [results, Try.results22, go_sem, z10]) rfl ⟨by rw [compare_9 e1 e2 e3 e4 e5 e6 e7 e8 e9], (by first | exact Below.refl _ _ | exact below_alloc1 _ _ | exact below_alloc2 _ _ _ | exact below_alloc3 _ _ _ _ | (repeat' (first | assumption | exact Below.refl _ _ | exact below_alloc1 _ _ | exact below_alloc2 _ _ _ | exact below_alloc3 _ _ _ _ | (refine Below.drew ?_) | (refine below_wb ?_ ?_) | (refine Below.alloc ?_ ?_ _) | omega | (simp; done) | (simp; omega))))⟩
  | false =>
  rw [rounds_succ]
  go_wp2_with (first | (go_at_call 60; refine (oneAhead_calls ⟨fi, g, gx, h, hx⟩ _).out.mono ?_; rintro e w1 ⟨rfl, hb1⟩; obtain ⟨u10, rfl, hB', hp', hs', hr, z10, z11, zs, zr, _⟩ := round_next hb1 hB hp hs l10 l11 ls hB0 (by omega) (by omega) (by omega); have m1 := Nat.ne_of_lt z10; have m2 := Nat.ne_of_lt zr) | fail)
  clear hB hp hs l10 l11 ls hr zr n1 n2 n3 hB0 m1 m2
  have hB := hB'
  have hp := hp'
  have hs := hs'
  have l10 := z10
  have l11 := z11
  have ls := zs
  clear hB' hp' hs' z10 z11 zs
  have hB0 : w.heap.size ≤ u10.heap.size := by omega
  have n1 := Nat.ne_of_lt l11
  have n2 := Nat.ne_of_lt ls
  have n3 := Nat.ne_of_lt l10
  cases e10 : (Spec.bothBehind ⟨fi, g, gx, h, hx⟩ != -1) with
  | true =>
    rw [rounds_succ]
    go_wp2_with (first | (go_at_call 61; refine (bothBehind_calls ⟨fi, g, gx, h, hx⟩ _).out.mono ?_; rintro e w1 ⟨rfl, hb1⟩; obtain ⟨u11, rfl, hB', hp', hs', hr, z10, z11, zs, zr, _⟩ := round_next hb1 hB hp hs l10 l11 ls hB0 (by omega) (by omega) (by omega); have m1 := Nat.ne_of_lt z10; have m2 := Nat.ne_of_lt zr) | fail)
    exact bodyPost_ret (v := vv2 (Spec.bothBehind ⟨fi, g, gx, h, hx⟩, 10)) (by simp [results, Try.results22, go_sem, z10]) rfl ⟨by rw [compare_10 e1 e2 e3 e4 e5 e6 e7 e8 e9 e10], (by first | exact Below.refl _ _ | exact below_alloc1 _ _ | exact below_alloc2 _ _ _ | exact below_alloc3 _ _ _ _ | (repeat' (first | assumption | exact Below.refl _ _ | exact below_alloc1 _ _ | exact below_alloc2 _ _ _ | exact below_alloc3 _ _ _ _ | (refine Below.drew ?_) | (refine below_wb ?_ ?_) | (refine Below.alloc ?_ ?_ _) | omega | (simp; done) | (simp; omega))))⟩
  | false =>
  rw [rounds_succ]
  go_wp2_with (first | (go_at_call 61; refine (bothBehind_calls ⟨fi, g, gx, h, hx⟩ _).out.mono ?_; rintro e w1 ⟨rfl, hb1⟩; obtain ⟨u11, rfl, hB', hp', hs', hr, z10, z11, zs, zr, _⟩ := round_next hb1 hB hp hs l10 l11 ls hB0 (by omega) (by omega) (by omega); have m1 := Nat.ne_of_lt z10; have m2 := Nat.ne_of_lt zr) | fail)
  clear hB hp hs l10 l11 ls hr zr n1 n2 n3 hB0 m1 m2
  have hB := hB'
  have hp := hp'
  have hs := hs'
  have l10 := z10
  have l11 := z11
  have ls := zs
  clear hB' hp' hs' z10 z11 zs
  have hB0 : w.heap.size ≤ u11.heap.size := by omega
  have n1 := Nat.ne_of_lt l11
  have n2 := Nat.ne_of_lt ls
  have n3 := Nat.ne_of_lt l10
  cases e11 : (Spec.oneBehind ⟨fi, g, gx, h, hx⟩ != -1) with
  | true =>
    rw [rounds_succ]
    go_wp2_with (first | (go_at_call 62; refine (oneBehind_calls ⟨fi, g, gx, h, hx⟩ _).out.mono ?_; rintro e w1 ⟨rfl, hb1⟩; obtain ⟨u12, rfl, hB', hp', hs', hr, z10, z11, zs, zr, _⟩ := round_next hb1 hB hp hs l10 l11 ls hB0 (by omega) (by omega) (by omega); have m1 := Nat.ne_of_lt z10; have m2 := Nat.ne_of_lt zr) | fail)
    exact bodyPost_ret (v := vv2 (Spec.oneBehind ⟨fi, g, gx, h, hx⟩, 11)) (by simp [results, Try.results22, go_sem, z10]) rfl ⟨by rw [compare_11 e1 e2 e3 e4 e5 e6 e7 e8 e9 e10 e11], (by first | exact Below.refl _ _ | exact below_alloc1 _ _ | exact below_alloc2 _ _ _ | exact below_alloc3 _ _ _ _ | (repeat' (first | assumption | exact Below.refl _ _ | exact below_alloc1 _ _ | exact below_alloc2 _ _ _ | exact below_alloc3 _ _ _ _ | (refine Below.drew ?_) | (refine below_wb ?_ ?_) | (refine Below.alloc ?_ ?_ _) | omega | (simp; done) | (simp; omega))))⟩
  | false =>
  rw [rounds_succ]
  go_wp2_with (first | (go_at_call 62; refine (oneBehind_calls ⟨fi, g, gx, h, hx⟩ _).out.mono ?_; rintro e w1 ⟨rfl, hb1⟩; obtain ⟨u12, rfl, hB', hp', hs', hr, z10, z11, zs, zr, _⟩ := round_next hb1 hB hp hs l10 l11 ls hB0 (by omega) (by omega) (by omega); have m1 := Nat.ne_of_lt z10; have m2 := Nat.ne_of_lt zr) | fail)
  clear hB hp hs l10 l11 ls hr zr n1 n2 n3 hB0 m1 m2
  have hB := hB'
  have hp := hp'
  have hs := hs'
  have l10 := z10
  have l11 := z11
  have ls := zs
  clear hB' hp' hs' z10 z11 zs
  have hB0 : w.heap.size ≤ u12.heap.size := by omega
  have n1 := Nat.ne_of_lt l11
  have n2 := Nat.ne_of_lt ls
  have n3 := Nat.ne_of_lt l10
  cases e12 : (Spec.sameBitmap ⟨fi, g, gx, h, hx⟩ != -1) with
  | true =>
    rw [rounds_succ]
    go_wp2_with (first | (go_at_call 63; refine (sameBitmap_calls ⟨fi, g, gx, h, hx⟩ _).out.mono ?_; rintro e w1 ⟨rfl, hb1⟩; obtain ⟨u13, rfl, hB', hp', hs', hr, z10, z11, zs, zr, _⟩ := round_next hb1 hB hp hs l10 l11 ls hB0 (by omega) (by omega) (by omega); have m1 := Nat.ne_of_lt z10; have m2 := Nat.ne_of_lt zr) | fail)
    exact bodyPost_ret (v := vv2 (Spec.sameBitmap ⟨fi, g, gx, h, hx⟩, 12)) (by simp [results, Try.results22, go_sem, z10]) rfl ⟨by rw [compare_12 e1 e2 e3 e4 e5 e6 e7 e8 e9 e10 e11 e12], (by first | exact Below.refl _ _ | exact below_alloc1 _ _ | exact below_alloc2 _ _ _ | exact below_alloc3 _ _ _ _ | (repeat' (first | assumption | exact Below.refl _ _ | exact below_alloc1 _ _ | exact below_alloc2 _ _ _ | exact below_alloc3 _ _ _ _ | (refine Below.drew ?_) | (refine below_wb ?_ ?_) | (refine Below.alloc ?_ ?_ _) | omega | (simp; done) | (simp; omega))))⟩
  | false =>
  rw [rounds_succ]
  go_wp2_with (first | (go_at_call 63; refine (sameBitmap_calls ⟨fi, g, gx, h, hx⟩ _).out.mono ?_; rintro e w1 ⟨rfl, hb1⟩; obtain ⟨u13, rfl, hB', hp', hs', hr, z10, z11, zs, zr, _⟩ := round_next hb1 hB hp hs l10 l11 ls hB0 (by omega) (by omega) (by omega); have m1 := Nat.ne_of_lt z10; have m2 := Nat.ne_of_lt zr) | fail)
  clear hB hp hs l10 l11 ls hr zr n1 n2 n3 hB0 m1 m2
  have hB := hB'
  have hp := hp'
  have hs := hs'
  have l10 := z10
  have l11 := z11
  have ls := zs
  clear hB' hp' hs' z10 z11 zs
  have hB0 : w.heap.size ≤ u13.heap.size := by omega
  have n1 := Nat.ne_of_lt l11
  have n2 := Nat.ne_of_lt ls
  have n3 := Nat.ne_of_lt l10
  cases e13 : (Spec.related ⟨fi, g, gx, h, hx⟩ != -1) with
  | true =>
    rw [rounds_succ]
    go_wp2_with (first | (go_at_call 64; refine (related_calls ⟨fi, g, gx, h, hx⟩ _).out.mono ?_; rintro e w1 ⟨rfl, hb1⟩; obtain ⟨u14, rfl, hB', hp', hs', hr, z10, z11, zs, zr, _⟩ := round_next hb1 hB hp hs l10 l11 ls hB0 (by omega) (by omega) (by omega); have m1 := Nat.ne_of_lt z10; have m2 := Nat.ne_of_lt zr) | fail)
    exact bodyPost_ret (v := vv2 (Spec.related ⟨fi, g, gx, h, hx⟩, 13)) (by simp [results, Try.results22, go_sem, z10]) rfl ⟨by rw [compare_13 e1 e2 e3 e4 e5 e6 e7 e8 e9 e10 e11 e12 e13], (by first | exact Below.refl _ _ | exact below_alloc1 _ _ | exact below_alloc2 _ _ _ | exact below_alloc3 _ _ _ _ | (repeat' (first | assumption | exact Below.refl _ _ | exact below_alloc1 _ _ | exact below_alloc2 _ _ _ | exact below_alloc3 _ _ _ _ | (refine Below.drew ?_) | (refine below_wb ?_ ?_) | (refine Below.alloc ?_ ?_ _) | omega | (simp; done) | (simp; omega))))⟩
  | false =>
  rw [rounds_succ]
  go_wp2_with (first | (go_at_call 64; refine (related_calls ⟨fi, g, gx, h, hx⟩ _).out.mono ?_; rintro e w1 ⟨rfl, hb1⟩; obtain ⟨u14, rfl, hB', hp', hs', hr, z10, z11, zs, zr, _⟩ := round_next hb1 hB hp hs l10 l11 ls hB0 (by omega) (by omega) (by omega); have m1 := Nat.ne_of_lt z10; have m2 := Nat.ne_of_lt zr) | fail)
  clear hB hp hs l10 l11 ls hr zr n1 n2 n3 hB0 m1 m2
  have hB := hB'
  have hp := hp'
  have hs := hs'
  have l10 := z10
  have l11 := z11
  have ls := zs
  clear hB' hp' hs' z10 z11 zs
  have hB0 : w.heap.size ≤ u14.heap.size := by omega
  have n1 := Nat.ne_of_lt l11
  have n2 := Nat.ne_of_lt ls
  have n3 := Nat.ne_of_lt l10
  rw [rounds_succ]
  go_wp2_with (first | (go_at_call 65; refine (unrelated_calls ⟨fi, g, gx, h, hx⟩ _).out.mono ?_; rintro e w1 ⟨rfl, hb1⟩; obtain ⟨u15, rfl, hB', hp', hs', hr, z10, z11, zs, zr, _⟩ := round_next hb1 hB hp hs l10 l11 ls hB0 (by omega) (by omega) (by omega); have m1 := Nat.ne_of_lt z10; have m2 := Nat.ne_of_lt zr) | fail)
  exact bodyPost_ret (v := vv2 (7, 14)) (by simp [results, Try.results22, go_sem, z10]) rfl ⟨by rw [compare_14 e1 e2 e3 e4 e5 e6 e7 e8 e9 e10 e11 e12 e13], (by first | exact Below.refl _ _ | exact below_alloc1 _ _ | exact below_alloc2 _ _ _ | exact below_alloc3 _ _ _ _ | (repeat' (first | assumption | exact Below.refl _ _ | exact below_alloc1 _ _ | exact below_alloc2 _ _ _ | exact below_alloc3 _ _ _ _ | (refine Below.drew ?_) | (refine below_wb ?_ ?_) | (refine Below.alloc ?_ ?_ _) | omega | (simp; done) | (simp; omega))))⟩
end Go.Proofs.Ytboanmhibbhceaa
