/- The document's 'first' and 'apart' of Compare. (Printed by wip/mkfirst.py.) -/
import Derived.Test.YtboanmhibbhceaaRefComp2
import Derived.Test.YtboanmhibbhceaaCompSpec
namespace Go.Proofs.Ytboanmhibbhceaa
open Go.RowKit
set_option linter.unusedVariables false
set_option linter.unusedSimpArgs false

theorem way_tt (x y : Int) : Spec.way true true x y = x := rfl
theorem way_tf (x y : Int) : Spec.way true false x y = y := rfl
theorem way_ft1 (x : Int) : Spec.way false true x 1 = 2 := rfl
theorem way_ft3 (x : Int) : Spec.way false true x 3 = 4 := rfl
theorem way_ff (x y : Int) : Spec.way false false x y = -1 := rfl
theorem isNew_def (g : G) : (g.c == 0 || g.c == 4) = Spec.isNew g := rfl

abbrev vv (p : Int × Int) : Value := .agg #[.int .i64 p.1, .int .i64 p.2]

set_option maxRecDepth 100000 in
set_option maxHeartbeats 4000000 in
theorem apart_calls (a b : G) (w : World) : Pur Try.prog 69 #[.agg (gc a), .agg (gc b)] w (vv (Spec.apart a b)) := by
  unfold Pur
  cases e1 : Spec.mtch a.b b.b <;> cases e2 : (Spec.rel a.b b || Spec.rel a.o b || Spec.rel a.p b)
  all_goals
    have H1 := Lib.hid e1
    have H2 := Lib.hid e2
    clear e1 e2
    go_enter Try.func69, Try.ntmps69
    go_wp2_with (first
      | (go_at_call 67; refine (refMatch_calls _ _ _).out.mono ?_; rw [H1.out]; rintro e w1 ⟨rfl, hb1⟩; obtain ⟨w2, rfl, hb3, hz0, hz1, hz2⟩ := behind_alloc3 hb1; clear hb1)
      | (go_at_call 80; refine (shared_calls _ _ _).out.mono ?_; rw [H2.out]; rintro e w1 ⟨rfl, hb1⟩; (obtain ⟨w4, rfl, hb4, _, hy0, hy1, hy2⟩ := behind_wb3 (B := w.heap.size) hb1 hz0 hz1 hz2 (by omega) (by omega) (by omega) (by omega) (by omega) (by omega); have hb6 := hb3.trans hb4; clear hb1 hb3 hb4 hz0 hz1 hz2; have hb3 := hb6; have hz0 := hy0; have hz1 := hy1; have hz2 := hy2; clear hb6 hy0 hy1 hy2))
      | fail)
    all_goals (have hv : Spec.apart a b = Spec.apart a b := rfl; conv at hv => rhs; unfold Spec.apart)
    all_goals simp only [H1.out, H2.out, if_true, if_false, Bool.false_eq_true] at hv
    all_goals rw [hv]
    all_goals refine bodyPost_ret (v := vv _) (by simp [results, Try.results69, go_sem, hz0, hz1, hz2]) rfl ⟨rfl, (by first | exact Below.refl _ _ | exact below_alloc1 _ _ | exact below_alloc2 _ _ _ | exact below_alloc3 _ _ _ _ | (repeat' (first | assumption | exact Below.refl _ _ | exact below_alloc1 _ _ | exact below_alloc2 _ _ _ | exact below_alloc3 _ _ _ _ | (refine Below.drew ?_) | (refine below_wb ?_ ?_) | (refine Below.alloc ?_ ?_ _) | omega | (simp; done) | (simp; omega))))⟩

set_option maxRecDepth 100000 in
set_option maxHeartbeats 4000000 in
theorem first_0 (a b : G) (fa fb : Int) (w : World) (en1 : Spec.isNew b = true) (en2 : Spec.isNew a = true) : Pur Try.prog 36 #[.agg (gc a), .int .u32 fa, .agg (gc b), .int .u32 fb] w (vv (0, 1)) := by
  unfold Pur
  have Hn1 := Lib.hid en1
  have Hn2 := Lib.hid en2
  clear en1 en2
  go_enter Try.func36, Try.ntmps36
  go_wp2_with (first
    | (go_at_call 30; refine (refNone_calls _ _).out.mono ?_; rw [isNew_def]; (first | rw [Hn1.out] | rw [Hn2.out]); rintro e w1 ⟨rfl, hb1⟩; (first | (obtain ⟨w2, rfl, hb3, hz0, hz1, hz2⟩ := behind_alloc3 hb1; clear hb1) | (obtain ⟨w4, rfl, hb4, _, hy0, hy1, hy2⟩ := behind_wb3 (B := w.heap.size) hb1 hz0 hz1 hz2 (by omega) (by omega) (by omega) (by omega) (by omega) (by omega); have hb6 := hb3.trans hb4; clear hb1 hb3 hb4 hz0 hz1 hz2; have hb3 := hb6; have hz0 := hy0; have hz1 := hy1; have hz2 := hy2; clear hb6 hy0 hy1 hy2)))
    | (go_at_call 66; refine (refWay_calls _ _ _ _ _).out.mono ?_; (first | rw [way_tt] | rw [way_tf] | rw [way_ft1] | rw [way_ft3] | rw [way_ff]); rintro e w1 ⟨rfl, hb1⟩; (first | (obtain ⟨w2, rfl, hb3, hz0, hz1, hz2⟩ := behind_alloc3 hb1; clear hb1) | (obtain ⟨w4, rfl, hb4, _, hy0, hy1, hy2⟩ := behind_wb3 (B := w.heap.size) hb1 hz0 hz1 hz2 (by omega) (by omega) (by omega) (by omega) (by omega) (by omega); have hb6 := hb3.trans hb4; clear hb1 hb3 hb4 hz0 hz1 hz2; have hb3 := hb6; have hz0 := hy0; have hz1 := hy1; have hz2 := hy2; clear hb6 hy0 hy1 hy2)))
    | (go_at_call 67; refine (refMatch_calls _ _ _).out.mono ?_; skip; rintro e w1 ⟨rfl, hb1⟩; (first | (obtain ⟨w2, rfl, hb3, hz0, hz1, hz2⟩ := behind_alloc3 hb1; clear hb1) | (obtain ⟨w4, rfl, hb4, _, hy0, hy1, hy2⟩ := behind_wb3 (B := w.heap.size) hb1 hz0 hz1 hz2 (by omega) (by omega) (by omega) (by omega) (by omega) (by omega); have hb6 := hb3.trans hb4; clear hb1 hb3 hb4 hz0 hz1 hz2; have hb3 := hb6; have hz0 := hy0; have hz1 := hy1; have hz2 := hy2; clear hb6 hy0 hy1 hy2)))
    | (go_at_call 68; refine (refOld_calls _ _ _).out.mono ?_; skip; rintro e w1 ⟨rfl, hb1⟩; (first | (obtain ⟨w2, rfl, hb3, hz0, hz1, hz2⟩ := behind_alloc3 hb1; clear hb1) | (obtain ⟨w4, rfl, hb4, _, hy0, hy1, hy2⟩ := behind_wb3 (B := w.heap.size) hb1 hz0 hz1 hz2 (by omega) (by omega) (by omega) (by omega) (by omega) (by omega); have hb6 := hb3.trans hb4; clear hb1 hb3 hb4 hz0 hz1 hz2; have hb3 := hb6; have hz0 := hy0; have hz1 := hy1; have hz2 := hy2; clear hb6 hy0 hy1 hy2)))
    | (go_at_call 69; refine (apart_calls _ _ _).out.mono ?_; skip; rintro e w1 ⟨rfl, hb1⟩; (first | (obtain ⟨w2, rfl, hb3, hz0, hz1, hz2⟩ := behind_alloc3 hb1; clear hb1) | (obtain ⟨w4, rfl, hb4, _, hy0, hy1, hy2⟩ := behind_wb3 (B := w.heap.size) hb1 hz0 hz1 hz2 (by omega) (by omega) (by omega) (by omega) (by omega) (by omega); have hb6 := hb3.trans hb4; clear hb1 hb3 hb4 hz0 hz1 hz2; have hb3 := hb6; have hz0 := hy0; have hz1 := hy1; have hz2 := hy2; clear hb6 hy0 hy1 hy2)))
    | fail)
  exact bodyPost_ret (v := vv (0, 1)) (by simp [results, Try.results36, go_sem, hz0, hz1, hz2]) rfl ⟨rfl, (by first | exact Below.refl _ _ | exact below_alloc1 _ _ | exact below_alloc2 _ _ _ | exact below_alloc3 _ _ _ _ | (repeat' (first | assumption | exact Below.refl _ _ | exact below_alloc1 _ _ | exact below_alloc2 _ _ _ | exact below_alloc3 _ _ _ _ | (refine Below.drew ?_) | (refine below_wb ?_ ?_) | (refine Below.alloc ?_ ?_ _) | omega | (simp; done) | (simp; omega))))⟩

set_option maxRecDepth 100000 in
set_option maxHeartbeats 4000000 in
theorem first_1 (a b : G) (fa fb : Int) (w : World) (en1 : Spec.isNew b = true) (en2 : Spec.isNew a = false) : Pur Try.prog 36 #[.agg (gc a), .int .u32 fa, .agg (gc b), .int .u32 fb] w (vv (3, 2)) := by
  unfold Pur
  have Hn1 := Lib.hid en1
  have Hn2 := Lib.hid en2
  clear en1 en2
  go_enter Try.func36, Try.ntmps36
  go_wp2_with (first
    | (go_at_call 30; refine (refNone_calls _ _).out.mono ?_; rw [isNew_def]; (first | rw [Hn1.out] | rw [Hn2.out]); rintro e w1 ⟨rfl, hb1⟩; (first | (obtain ⟨w2, rfl, hb3, hz0, hz1, hz2⟩ := behind_alloc3 hb1; clear hb1) | (obtain ⟨w4, rfl, hb4, _, hy0, hy1, hy2⟩ := behind_wb3 (B := w.heap.size) hb1 hz0 hz1 hz2 (by omega) (by omega) (by omega) (by omega) (by omega) (by omega); have hb6 := hb3.trans hb4; clear hb1 hb3 hb4 hz0 hz1 hz2; have hb3 := hb6; have hz0 := hy0; have hz1 := hy1; have hz2 := hy2; clear hb6 hy0 hy1 hy2)))
    | (go_at_call 66; refine (refWay_calls _ _ _ _ _).out.mono ?_; (first | rw [way_tt] | rw [way_tf] | rw [way_ft1] | rw [way_ft3] | rw [way_ff]); rintro e w1 ⟨rfl, hb1⟩; (first | (obtain ⟨w2, rfl, hb3, hz0, hz1, hz2⟩ := behind_alloc3 hb1; clear hb1) | (obtain ⟨w4, rfl, hb4, _, hy0, hy1, hy2⟩ := behind_wb3 (B := w.heap.size) hb1 hz0 hz1 hz2 (by omega) (by omega) (by omega) (by omega) (by omega) (by omega); have hb6 := hb3.trans hb4; clear hb1 hb3 hb4 hz0 hz1 hz2; have hb3 := hb6; have hz0 := hy0; have hz1 := hy1; have hz2 := hy2; clear hb6 hy0 hy1 hy2)))
    | (go_at_call 67; refine (refMatch_calls _ _ _).out.mono ?_; skip; rintro e w1 ⟨rfl, hb1⟩; (first | (obtain ⟨w2, rfl, hb3, hz0, hz1, hz2⟩ := behind_alloc3 hb1; clear hb1) | (obtain ⟨w4, rfl, hb4, _, hy0, hy1, hy2⟩ := behind_wb3 (B := w.heap.size) hb1 hz0 hz1 hz2 (by omega) (by omega) (by omega) (by omega) (by omega) (by omega); have hb6 := hb3.trans hb4; clear hb1 hb3 hb4 hz0 hz1 hz2; have hb3 := hb6; have hz0 := hy0; have hz1 := hy1; have hz2 := hy2; clear hb6 hy0 hy1 hy2)))
    | (go_at_call 68; refine (refOld_calls _ _ _).out.mono ?_; skip; rintro e w1 ⟨rfl, hb1⟩; (first | (obtain ⟨w2, rfl, hb3, hz0, hz1, hz2⟩ := behind_alloc3 hb1; clear hb1) | (obtain ⟨w4, rfl, hb4, _, hy0, hy1, hy2⟩ := behind_wb3 (B := w.heap.size) hb1 hz0 hz1 hz2 (by omega) (by omega) (by omega) (by omega) (by omega) (by omega); have hb6 := hb3.trans hb4; clear hb1 hb3 hb4 hz0 hz1 hz2; have hb3 := hb6; have hz0 := hy0; have hz1 := hy1; have hz2 := hy2; clear hb6 hy0 hy1 hy2)))
    | (go_at_call 69; refine (apart_calls _ _ _).out.mono ?_; skip; rintro e w1 ⟨rfl, hb1⟩; (first | (obtain ⟨w2, rfl, hb3, hz0, hz1, hz2⟩ := behind_alloc3 hb1; clear hb1) | (obtain ⟨w4, rfl, hb4, _, hy0, hy1, hy2⟩ := behind_wb3 (B := w.heap.size) hb1 hz0 hz1 hz2 (by omega) (by omega) (by omega) (by omega) (by omega) (by omega); have hb6 := hb3.trans hb4; clear hb1 hb3 hb4 hz0 hz1 hz2; have hb3 := hb6; have hz0 := hy0; have hz1 := hy1; have hz2 := hy2; clear hb6 hy0 hy1 hy2)))
    | fail)
  exact bodyPost_ret (v := vv (3, 2)) (by simp [results, Try.results36, go_sem, hz0, hz1, hz2]) rfl ⟨rfl, (by first | exact Below.refl _ _ | exact below_alloc1 _ _ | exact below_alloc2 _ _ _ | exact below_alloc3 _ _ _ _ | (repeat' (first | assumption | exact Below.refl _ _ | exact below_alloc1 _ _ | exact below_alloc2 _ _ _ | exact below_alloc3 _ _ _ _ | (refine Below.drew ?_) | (refine below_wb ?_ ?_) | (refine Below.alloc ?_ ?_ _) | omega | (simp; done) | (simp; omega))))⟩

set_option maxRecDepth 100000 in
set_option maxHeartbeats 4000000 in
theorem first_2 (a b : G) (fa fb : Int) (w : World) (en1 : Spec.isNew b = false) (en2 : Spec.isNew a = true) : Pur Try.prog 36 #[.agg (gc a), .int .u32 fa, .agg (gc b), .int .u32 fb] w (vv (4, 2)) := by
  unfold Pur
  have Hn1 := Lib.hid en1
  have Hn2 := Lib.hid en2
  clear en1 en2
  go_enter Try.func36, Try.ntmps36
  go_wp2_with (first
    | (go_at_call 30; refine (refNone_calls _ _).out.mono ?_; rw [isNew_def]; (first | rw [Hn1.out] | rw [Hn2.out]); rintro e w1 ⟨rfl, hb1⟩; (first | (obtain ⟨w2, rfl, hb3, hz0, hz1, hz2⟩ := behind_alloc3 hb1; clear hb1) | (obtain ⟨w4, rfl, hb4, _, hy0, hy1, hy2⟩ := behind_wb3 (B := w.heap.size) hb1 hz0 hz1 hz2 (by omega) (by omega) (by omega) (by omega) (by omega) (by omega); have hb6 := hb3.trans hb4; clear hb1 hb3 hb4 hz0 hz1 hz2; have hb3 := hb6; have hz0 := hy0; have hz1 := hy1; have hz2 := hy2; clear hb6 hy0 hy1 hy2)))
    | (go_at_call 66; refine (refWay_calls _ _ _ _ _).out.mono ?_; (first | rw [way_tt] | rw [way_tf] | rw [way_ft1] | rw [way_ft3] | rw [way_ff]); rintro e w1 ⟨rfl, hb1⟩; (first | (obtain ⟨w2, rfl, hb3, hz0, hz1, hz2⟩ := behind_alloc3 hb1; clear hb1) | (obtain ⟨w4, rfl, hb4, _, hy0, hy1, hy2⟩ := behind_wb3 (B := w.heap.size) hb1 hz0 hz1 hz2 (by omega) (by omega) (by omega) (by omega) (by omega) (by omega); have hb6 := hb3.trans hb4; clear hb1 hb3 hb4 hz0 hz1 hz2; have hb3 := hb6; have hz0 := hy0; have hz1 := hy1; have hz2 := hy2; clear hb6 hy0 hy1 hy2)))
    | (go_at_call 67; refine (refMatch_calls _ _ _).out.mono ?_; skip; rintro e w1 ⟨rfl, hb1⟩; (first | (obtain ⟨w2, rfl, hb3, hz0, hz1, hz2⟩ := behind_alloc3 hb1; clear hb1) | (obtain ⟨w4, rfl, hb4, _, hy0, hy1, hy2⟩ := behind_wb3 (B := w.heap.size) hb1 hz0 hz1 hz2 (by omega) (by omega) (by omega) (by omega) (by omega) (by omega); have hb6 := hb3.trans hb4; clear hb1 hb3 hb4 hz0 hz1 hz2; have hb3 := hb6; have hz0 := hy0; have hz1 := hy1; have hz2 := hy2; clear hb6 hy0 hy1 hy2)))
    | (go_at_call 68; refine (refOld_calls _ _ _).out.mono ?_; skip; rintro e w1 ⟨rfl, hb1⟩; (first | (obtain ⟨w2, rfl, hb3, hz0, hz1, hz2⟩ := behind_alloc3 hb1; clear hb1) | (obtain ⟨w4, rfl, hb4, _, hy0, hy1, hy2⟩ := behind_wb3 (B := w.heap.size) hb1 hz0 hz1 hz2 (by omega) (by omega) (by omega) (by omega) (by omega) (by omega); have hb6 := hb3.trans hb4; clear hb1 hb3 hb4 hz0 hz1 hz2; have hb3 := hb6; have hz0 := hy0; have hz1 := hy1; have hz2 := hy2; clear hb6 hy0 hy1 hy2)))
    | (go_at_call 69; refine (apart_calls _ _ _).out.mono ?_; skip; rintro e w1 ⟨rfl, hb1⟩; (first | (obtain ⟨w2, rfl, hb3, hz0, hz1, hz2⟩ := behind_alloc3 hb1; clear hb1) | (obtain ⟨w4, rfl, hb4, _, hy0, hy1, hy2⟩ := behind_wb3 (B := w.heap.size) hb1 hz0 hz1 hz2 (by omega) (by omega) (by omega) (by omega) (by omega) (by omega); have hb6 := hb3.trans hb4; clear hb1 hb3 hb4 hz0 hz1 hz2; have hb3 := hb6; have hz0 := hy0; have hz1 := hy1; have hz2 := hy2; clear hb6 hy0 hy1 hy2)))
    | fail)
  exact bodyPost_ret (v := vv (4, 2)) (by simp [results, Try.results36, go_sem, hz0, hz1, hz2]) rfl ⟨rfl, (by first | exact Below.refl _ _ | exact below_alloc1 _ _ | exact below_alloc2 _ _ _ | exact below_alloc3 _ _ _ _ | (repeat' (first | assumption | exact Below.refl _ _ | exact below_alloc1 _ _ | exact below_alloc2 _ _ _ | exact below_alloc3 _ _ _ _ | (refine Below.drew ?_) | (refine below_wb ?_ ?_) | (refine Below.alloc ?_ ?_ _) | omega | (simp; done) | (simp; omega))))⟩

set_option maxRecDepth 100000 in
set_option maxHeartbeats 4000000 in
theorem first_3 (a b : G) (fa fb : Int) (w : World) (en1 : Spec.isNew b = false) (en2 : Spec.isNew a = false) (eq : (a.c == b.c) = true) (ec1 : (Go.bits .and .u32 fa 8 != 0) = true) (ec2 : (Go.bits .and .u32 fb 8 != 0) = true) : Pur Try.prog 36 #[.agg (gc a), .int .u32 fa, .agg (gc b), .int .u32 fb] w (vv (1, 4)) := by
  unfold Pur
  have Hn1 := Lib.hid en1
  have Hn2 := Lib.hid en2
  clear en1 en2
  go_enter Try.func36, Try.ntmps36
  go_wp2_with (first
    | (go_at_call 30; refine (refNone_calls _ _).out.mono ?_; rw [isNew_def]; (first | rw [Hn1.out] | rw [Hn2.out]); rintro e w1 ⟨rfl, hb1⟩; (first | (obtain ⟨w2, rfl, hb3, hz0, hz1, hz2⟩ := behind_alloc3 hb1; clear hb1) | (obtain ⟨w4, rfl, hb4, _, hy0, hy1, hy2⟩ := behind_wb3 (B := w.heap.size) hb1 hz0 hz1 hz2 (by omega) (by omega) (by omega) (by omega) (by omega) (by omega); have hb6 := hb3.trans hb4; clear hb1 hb3 hb4 hz0 hz1 hz2; have hb3 := hb6; have hz0 := hy0; have hz1 := hy1; have hz2 := hy2; clear hb6 hy0 hy1 hy2)))
    | (go_at_call 66; refine (refWay_calls _ _ _ _ _).out.mono ?_; (first | rw [way_tt] | rw [way_tf] | rw [way_ft1] | rw [way_ft3] | rw [way_ff]); rintro e w1 ⟨rfl, hb1⟩; (first | (obtain ⟨w2, rfl, hb3, hz0, hz1, hz2⟩ := behind_alloc3 hb1; clear hb1) | (obtain ⟨w4, rfl, hb4, _, hy0, hy1, hy2⟩ := behind_wb3 (B := w.heap.size) hb1 hz0 hz1 hz2 (by omega) (by omega) (by omega) (by omega) (by omega) (by omega); have hb6 := hb3.trans hb4; clear hb1 hb3 hb4 hz0 hz1 hz2; have hb3 := hb6; have hz0 := hy0; have hz1 := hy1; have hz2 := hy2; clear hb6 hy0 hy1 hy2)))
    | (go_at_call 67; refine (refMatch_calls _ _ _).out.mono ?_; skip; rintro e w1 ⟨rfl, hb1⟩; (first | (obtain ⟨w2, rfl, hb3, hz0, hz1, hz2⟩ := behind_alloc3 hb1; clear hb1) | (obtain ⟨w4, rfl, hb4, _, hy0, hy1, hy2⟩ := behind_wb3 (B := w.heap.size) hb1 hz0 hz1 hz2 (by omega) (by omega) (by omega) (by omega) (by omega) (by omega); have hb6 := hb3.trans hb4; clear hb1 hb3 hb4 hz0 hz1 hz2; have hb3 := hb6; have hz0 := hy0; have hz1 := hy1; have hz2 := hy2; clear hb6 hy0 hy1 hy2)))
    | (go_at_call 68; refine (refOld_calls _ _ _).out.mono ?_; skip; rintro e w1 ⟨rfl, hb1⟩; (first | (obtain ⟨w2, rfl, hb3, hz0, hz1, hz2⟩ := behind_alloc3 hb1; clear hb1) | (obtain ⟨w4, rfl, hb4, _, hy0, hy1, hy2⟩ := behind_wb3 (B := w.heap.size) hb1 hz0 hz1 hz2 (by omega) (by omega) (by omega) (by omega) (by omega) (by omega); have hb6 := hb3.trans hb4; clear hb1 hb3 hb4 hz0 hz1 hz2; have hb3 := hb6; have hz0 := hy0; have hz1 := hy1; have hz2 := hy2; clear hb6 hy0 hy1 hy2)))
    | (go_at_call 69; refine (apart_calls _ _ _).out.mono ?_; skip; rintro e w1 ⟨rfl, hb1⟩; (first | (obtain ⟨w2, rfl, hb3, hz0, hz1, hz2⟩ := behind_alloc3 hb1; clear hb1) | (obtain ⟨w4, rfl, hb4, _, hy0, hy1, hy2⟩ := behind_wb3 (B := w.heap.size) hb1 hz0 hz1 hz2 (by omega) (by omega) (by omega) (by omega) (by omega) (by omega); have hb6 := hb3.trans hb4; clear hb1 hb3 hb4 hz0 hz1 hz2; have hb3 := hb6; have hz0 := hy0; have hz1 := hy1; have hz2 := hy2; clear hb6 hy0 hy1 hy2)))
    | fail)
  exact bodyPost_ret (v := vv (1, 4)) (by simp [results, Try.results36, go_sem, hz0, hz1, hz2]) rfl ⟨rfl, (by first | exact Below.refl _ _ | exact below_alloc1 _ _ | exact below_alloc2 _ _ _ | exact below_alloc3 _ _ _ _ | (repeat' (first | assumption | exact Below.refl _ _ | exact below_alloc1 _ _ | exact below_alloc2 _ _ _ | exact below_alloc3 _ _ _ _ | (refine Below.drew ?_) | (refine below_wb ?_ ?_) | (refine Below.alloc ?_ ?_ _) | omega | (simp; done) | (simp; omega))))⟩

set_option maxRecDepth 100000 in
set_option maxHeartbeats 4000000 in
theorem first_4 (a b : G) (fa fb : Int) (w : World) (en1 : Spec.isNew b = false) (en2 : Spec.isNew a = false) (eq : (a.c == b.c) = true) (ec1 : (Go.bits .and .u32 fa 8 != 0) = true) (ec2 : (Go.bits .and .u32 fb 8 != 0) = false) : Pur Try.prog 36 #[.agg (gc a), .int .u32 fa, .agg (gc b), .int .u32 fb] w (vv (1, 3)) := by
  unfold Pur
  have Hn1 := Lib.hid en1
  have Hn2 := Lib.hid en2
  clear en1 en2
  go_enter Try.func36, Try.ntmps36
  go_wp2_with (first
    | (go_at_call 30; refine (refNone_calls _ _).out.mono ?_; rw [isNew_def]; (first | rw [Hn1.out] | rw [Hn2.out]); rintro e w1 ⟨rfl, hb1⟩; (first | (obtain ⟨w2, rfl, hb3, hz0, hz1, hz2⟩ := behind_alloc3 hb1; clear hb1) | (obtain ⟨w4, rfl, hb4, _, hy0, hy1, hy2⟩ := behind_wb3 (B := w.heap.size) hb1 hz0 hz1 hz2 (by omega) (by omega) (by omega) (by omega) (by omega) (by omega); have hb6 := hb3.trans hb4; clear hb1 hb3 hb4 hz0 hz1 hz2; have hb3 := hb6; have hz0 := hy0; have hz1 := hy1; have hz2 := hy2; clear hb6 hy0 hy1 hy2)))
    | (go_at_call 66; refine (refWay_calls _ _ _ _ _).out.mono ?_; (first | rw [way_tt] | rw [way_tf] | rw [way_ft1] | rw [way_ft3] | rw [way_ff]); rintro e w1 ⟨rfl, hb1⟩; (first | (obtain ⟨w2, rfl, hb3, hz0, hz1, hz2⟩ := behind_alloc3 hb1; clear hb1) | (obtain ⟨w4, rfl, hb4, _, hy0, hy1, hy2⟩ := behind_wb3 (B := w.heap.size) hb1 hz0 hz1 hz2 (by omega) (by omega) (by omega) (by omega) (by omega) (by omega); have hb6 := hb3.trans hb4; clear hb1 hb3 hb4 hz0 hz1 hz2; have hb3 := hb6; have hz0 := hy0; have hz1 := hy1; have hz2 := hy2; clear hb6 hy0 hy1 hy2)))
    | (go_at_call 67; refine (refMatch_calls _ _ _).out.mono ?_; skip; rintro e w1 ⟨rfl, hb1⟩; (first | (obtain ⟨w2, rfl, hb3, hz0, hz1, hz2⟩ := behind_alloc3 hb1; clear hb1) | (obtain ⟨w4, rfl, hb4, _, hy0, hy1, hy2⟩ := behind_wb3 (B := w.heap.size) hb1 hz0 hz1 hz2 (by omega) (by omega) (by omega) (by omega) (by omega) (by omega); have hb6 := hb3.trans hb4; clear hb1 hb3 hb4 hz0 hz1 hz2; have hb3 := hb6; have hz0 := hy0; have hz1 := hy1; have hz2 := hy2; clear hb6 hy0 hy1 hy2)))
    | (go_at_call 68; refine (refOld_calls _ _ _).out.mono ?_; skip; rintro e w1 ⟨rfl, hb1⟩; (first | (obtain ⟨w2, rfl, hb3, hz0, hz1, hz2⟩ := behind_alloc3 hb1; clear hb1) | (obtain ⟨w4, rfl, hb4, _, hy0, hy1, hy2⟩ := behind_wb3 (B := w.heap.size) hb1 hz0 hz1 hz2 (by omega) (by omega) (by omega) (by omega) (by omega) (by omega); have hb6 := hb3.trans hb4; clear hb1 hb3 hb4 hz0 hz1 hz2; have hb3 := hb6; have hz0 := hy0; have hz1 := hy1; have hz2 := hy2; clear hb6 hy0 hy1 hy2)))
    | (go_at_call 69; refine (apart_calls _ _ _).out.mono ?_; skip; rintro e w1 ⟨rfl, hb1⟩; (first | (obtain ⟨w2, rfl, hb3, hz0, hz1, hz2⟩ := behind_alloc3 hb1; clear hb1) | (obtain ⟨w4, rfl, hb4, _, hy0, hy1, hy2⟩ := behind_wb3 (B := w.heap.size) hb1 hz0 hz1 hz2 (by omega) (by omega) (by omega) (by omega) (by omega) (by omega); have hb6 := hb3.trans hb4; clear hb1 hb3 hb4 hz0 hz1 hz2; have hb3 := hb6; have hz0 := hy0; have hz1 := hy1; have hz2 := hy2; clear hb6 hy0 hy1 hy2)))
    | fail)
  exact bodyPost_ret (v := vv (1, 3)) (by simp [results, Try.results36, go_sem, hz0, hz1, hz2]) rfl ⟨rfl, (by first | exact Below.refl _ _ | exact below_alloc1 _ _ | exact below_alloc2 _ _ _ | exact below_alloc3 _ _ _ _ | (repeat' (first | assumption | exact Below.refl _ _ | exact below_alloc1 _ _ | exact below_alloc2 _ _ _ | exact below_alloc3 _ _ _ _ | (refine Below.drew ?_) | (refine below_wb ?_ ?_) | (refine Below.alloc ?_ ?_ _) | omega | (simp; done) | (simp; omega))))⟩

set_option maxRecDepth 100000 in
set_option maxHeartbeats 4000000 in
theorem first_5 (a b : G) (fa fb : Int) (w : World) (en1 : Spec.isNew b = false) (en2 : Spec.isNew a = false) (eq : (a.c == b.c) = true) (ec1 : (Go.bits .and .u32 fa 8 != 0) = false) (ec2 : (Go.bits .and .u32 fb 8 != 0) = true) : Pur Try.prog 36 #[.agg (gc a), .int .u32 fa, .agg (gc b), .int .u32 fb] w (vv (2, 3)) := by
  unfold Pur
  have Hn1 := Lib.hid en1
  have Hn2 := Lib.hid en2
  clear en1 en2
  go_enter Try.func36, Try.ntmps36
  go_wp2_with (first
    | (go_at_call 30; refine (refNone_calls _ _).out.mono ?_; rw [isNew_def]; (first | rw [Hn1.out] | rw [Hn2.out]); rintro e w1 ⟨rfl, hb1⟩; (first | (obtain ⟨w2, rfl, hb3, hz0, hz1, hz2⟩ := behind_alloc3 hb1; clear hb1) | (obtain ⟨w4, rfl, hb4, _, hy0, hy1, hy2⟩ := behind_wb3 (B := w.heap.size) hb1 hz0 hz1 hz2 (by omega) (by omega) (by omega) (by omega) (by omega) (by omega); have hb6 := hb3.trans hb4; clear hb1 hb3 hb4 hz0 hz1 hz2; have hb3 := hb6; have hz0 := hy0; have hz1 := hy1; have hz2 := hy2; clear hb6 hy0 hy1 hy2)))
    | (go_at_call 66; refine (refWay_calls _ _ _ _ _).out.mono ?_; (first | rw [way_tt] | rw [way_tf] | rw [way_ft1] | rw [way_ft3] | rw [way_ff]); rintro e w1 ⟨rfl, hb1⟩; (first | (obtain ⟨w2, rfl, hb3, hz0, hz1, hz2⟩ := behind_alloc3 hb1; clear hb1) | (obtain ⟨w4, rfl, hb4, _, hy0, hy1, hy2⟩ := behind_wb3 (B := w.heap.size) hb1 hz0 hz1 hz2 (by omega) (by omega) (by omega) (by omega) (by omega) (by omega); have hb6 := hb3.trans hb4; clear hb1 hb3 hb4 hz0 hz1 hz2; have hb3 := hb6; have hz0 := hy0; have hz1 := hy1; have hz2 := hy2; clear hb6 hy0 hy1 hy2)))
    | (go_at_call 67; refine (refMatch_calls _ _ _).out.mono ?_; skip; rintro e w1 ⟨rfl, hb1⟩; (first | (obtain ⟨w2, rfl, hb3, hz0, hz1, hz2⟩ := behind_alloc3 hb1; clear hb1) | (obtain ⟨w4, rfl, hb4, _, hy0, hy1, hy2⟩ := behind_wb3 (B := w.heap.size) hb1 hz0 hz1 hz2 (by omega) (by omega) (by omega) (by omega) (by omega) (by omega); have hb6 := hb3.trans hb4; clear hb1 hb3 hb4 hz0 hz1 hz2; have hb3 := hb6; have hz0 := hy0; have hz1 := hy1; have hz2 := hy2; clear hb6 hy0 hy1 hy2)))
    | (go_at_call 68; refine (refOld_calls _ _ _).out.mono ?_; skip; rintro e w1 ⟨rfl, hb1⟩; (first | (obtain ⟨w2, rfl, hb3, hz0, hz1, hz2⟩ := behind_alloc3 hb1; clear hb1) | (obtain ⟨w4, rfl, hb4, _, hy0, hy1, hy2⟩ := behind_wb3 (B := w.heap.size) hb1 hz0 hz1 hz2 (by omega) (by omega) (by omega) (by omega) (by omega) (by omega); have hb6 := hb3.trans hb4; clear hb1 hb3 hb4 hz0 hz1 hz2; have hb3 := hb6; have hz0 := hy0; have hz1 := hy1; have hz2 := hy2; clear hb6 hy0 hy1 hy2)))
    | (go_at_call 69; refine (apart_calls _ _ _).out.mono ?_; skip; rintro e w1 ⟨rfl, hb1⟩; (first | (obtain ⟨w2, rfl, hb3, hz0, hz1, hz2⟩ := behind_alloc3 hb1; clear hb1) | (obtain ⟨w4, rfl, hb4, _, hy0, hy1, hy2⟩ := behind_wb3 (B := w.heap.size) hb1 hz0 hz1 hz2 (by omega) (by omega) (by omega) (by omega) (by omega) (by omega); have hb6 := hb3.trans hb4; clear hb1 hb3 hb4 hz0 hz1 hz2; have hb3 := hb6; have hz0 := hy0; have hz1 := hy1; have hz2 := hy2; clear hb6 hy0 hy1 hy2)))
    | fail)
  exact bodyPost_ret (v := vv (2, 3)) (by simp [results, Try.results36, go_sem, hz0, hz1, hz2]) rfl ⟨rfl, (by first | exact Below.refl _ _ | exact below_alloc1 _ _ | exact below_alloc2 _ _ _ | exact below_alloc3 _ _ _ _ | (repeat' (first | assumption | exact Below.refl _ _ | exact below_alloc1 _ _ | exact below_alloc2 _ _ _ | exact below_alloc3 _ _ _ _ | (refine Below.drew ?_) | (refine below_wb ?_ ?_) | (refine Below.alloc ?_ ?_ _) | omega | (simp; done) | (simp; omega))))⟩

set_option maxRecDepth 100000 in
set_option maxHeartbeats 4000000 in
theorem first_6 (a b : G) (fa fb : Int) (w : World) (en1 : Spec.isNew b = false) (en2 : Spec.isNew a = false) (eq : (a.c == b.c) = true) (ec1 : (Go.bits .and .u32 fa 8 != 0) = false) (ec2 : (Go.bits .and .u32 fb 8 != 0) = false) (eb1 : (a.b != 0) = true) (eb2 : (b.b != 0) = true) : Pur Try.prog 36 #[.agg (gc a), .int .u32 fa, .agg (gc b), .int .u32 fb] w (vv (1, 7)) := by
  unfold Pur
  have Hn1 := Lib.hid en1
  have Hn2 := Lib.hid en2
  clear en1 en2
  go_enter Try.func36, Try.ntmps36
  go_wp2_with (first
    | (go_at_call 30; refine (refNone_calls _ _).out.mono ?_; rw [isNew_def]; (first | rw [Hn1.out] | rw [Hn2.out]); rintro e w1 ⟨rfl, hb1⟩; (first | (obtain ⟨w2, rfl, hb3, hz0, hz1, hz2⟩ := behind_alloc3 hb1; clear hb1) | (obtain ⟨w4, rfl, hb4, _, hy0, hy1, hy2⟩ := behind_wb3 (B := w.heap.size) hb1 hz0 hz1 hz2 (by omega) (by omega) (by omega) (by omega) (by omega) (by omega); have hb6 := hb3.trans hb4; clear hb1 hb3 hb4 hz0 hz1 hz2; have hb3 := hb6; have hz0 := hy0; have hz1 := hy1; have hz2 := hy2; clear hb6 hy0 hy1 hy2)))
    | (go_at_call 66; refine (refWay_calls _ _ _ _ _).out.mono ?_; (first | rw [way_tt] | rw [way_tf] | rw [way_ft1] | rw [way_ft3] | rw [way_ff]); rintro e w1 ⟨rfl, hb1⟩; (first | (obtain ⟨w2, rfl, hb3, hz0, hz1, hz2⟩ := behind_alloc3 hb1; clear hb1) | (obtain ⟨w4, rfl, hb4, _, hy0, hy1, hy2⟩ := behind_wb3 (B := w.heap.size) hb1 hz0 hz1 hz2 (by omega) (by omega) (by omega) (by omega) (by omega) (by omega); have hb6 := hb3.trans hb4; clear hb1 hb3 hb4 hz0 hz1 hz2; have hb3 := hb6; have hz0 := hy0; have hz1 := hy1; have hz2 := hy2; clear hb6 hy0 hy1 hy2)))
    | (go_at_call 67; refine (refMatch_calls _ _ _).out.mono ?_; skip; rintro e w1 ⟨rfl, hb1⟩; (first | (obtain ⟨w2, rfl, hb3, hz0, hz1, hz2⟩ := behind_alloc3 hb1; clear hb1) | (obtain ⟨w4, rfl, hb4, _, hy0, hy1, hy2⟩ := behind_wb3 (B := w.heap.size) hb1 hz0 hz1 hz2 (by omega) (by omega) (by omega) (by omega) (by omega) (by omega); have hb6 := hb3.trans hb4; clear hb1 hb3 hb4 hz0 hz1 hz2; have hb3 := hb6; have hz0 := hy0; have hz1 := hy1; have hz2 := hy2; clear hb6 hy0 hy1 hy2)))
    | (go_at_call 68; refine (refOld_calls _ _ _).out.mono ?_; skip; rintro e w1 ⟨rfl, hb1⟩; (first | (obtain ⟨w2, rfl, hb3, hz0, hz1, hz2⟩ := behind_alloc3 hb1; clear hb1) | (obtain ⟨w4, rfl, hb4, _, hy0, hy1, hy2⟩ := behind_wb3 (B := w.heap.size) hb1 hz0 hz1 hz2 (by omega) (by omega) (by omega) (by omega) (by omega) (by omega); have hb6 := hb3.trans hb4; clear hb1 hb3 hb4 hz0 hz1 hz2; have hb3 := hb6; have hz0 := hy0; have hz1 := hy1; have hz2 := hy2; clear hb6 hy0 hy1 hy2)))
    | (go_at_call 69; refine (apart_calls _ _ _).out.mono ?_; skip; rintro e w1 ⟨rfl, hb1⟩; (first | (obtain ⟨w2, rfl, hb3, hz0, hz1, hz2⟩ := behind_alloc3 hb1; clear hb1) | (obtain ⟨w4, rfl, hb4, _, hy0, hy1, hy2⟩ := behind_wb3 (B := w.heap.size) hb1 hz0 hz1 hz2 (by omega) (by omega) (by omega) (by omega) (by omega) (by omega); have hb6 := hb3.trans hb4; clear hb1 hb3 hb4 hz0 hz1 hz2; have hb3 := hb6; have hz0 := hy0; have hz1 := hy1; have hz2 := hy2; clear hb6 hy0 hy1 hy2)))
    | fail)
  exact bodyPost_ret (v := vv (1, 7)) (by simp [results, Try.results36, go_sem, hz0, hz1, hz2]) rfl ⟨rfl, (by first | exact Below.refl _ _ | exact below_alloc1 _ _ | exact below_alloc2 _ _ _ | exact below_alloc3 _ _ _ _ | (repeat' (first | assumption | exact Below.refl _ _ | exact below_alloc1 _ _ | exact below_alloc2 _ _ _ | exact below_alloc3 _ _ _ _ | (refine Below.drew ?_) | (refine below_wb ?_ ?_) | (refine Below.alloc ?_ ?_ _) | omega | (simp; done) | (simp; omega))))⟩

set_option maxRecDepth 100000 in
set_option maxHeartbeats 4000000 in
theorem first_7 (a b : G) (fa fb : Int) (w : World) (en1 : Spec.isNew b = false) (en2 : Spec.isNew a = false) (eq : (a.c == b.c) = true) (ec1 : (Go.bits .and .u32 fa 8 != 0) = false) (ec2 : (Go.bits .and .u32 fb 8 != 0) = false) (eb1 : (a.b != 0) = true) (eb2 : (b.b != 0) = false) : Pur Try.prog 36 #[.agg (gc a), .int .u32 fa, .agg (gc b), .int .u32 fb] w (vv (1, 5)) := by
  unfold Pur
  have Hn1 := Lib.hid en1
  have Hn2 := Lib.hid en2
  clear en1 en2
  go_enter Try.func36, Try.ntmps36
  go_wp2_with (first
    | (go_at_call 30; refine (refNone_calls _ _).out.mono ?_; rw [isNew_def]; (first | rw [Hn1.out] | rw [Hn2.out]); rintro e w1 ⟨rfl, hb1⟩; (first | (obtain ⟨w2, rfl, hb3, hz0, hz1, hz2⟩ := behind_alloc3 hb1; clear hb1) | (obtain ⟨w4, rfl, hb4, _, hy0, hy1, hy2⟩ := behind_wb3 (B := w.heap.size) hb1 hz0 hz1 hz2 (by omega) (by omega) (by omega) (by omega) (by omega) (by omega); have hb6 := hb3.trans hb4; clear hb1 hb3 hb4 hz0 hz1 hz2; have hb3 := hb6; have hz0 := hy0; have hz1 := hy1; have hz2 := hy2; clear hb6 hy0 hy1 hy2)))
    | (go_at_call 66; refine (refWay_calls _ _ _ _ _).out.mono ?_; (first | rw [way_tt] | rw [way_tf] | rw [way_ft1] | rw [way_ft3] | rw [way_ff]); rintro e w1 ⟨rfl, hb1⟩; (first | (obtain ⟨w2, rfl, hb3, hz0, hz1, hz2⟩ := behind_alloc3 hb1; clear hb1) | (obtain ⟨w4, rfl, hb4, _, hy0, hy1, hy2⟩ := behind_wb3 (B := w.heap.size) hb1 hz0 hz1 hz2 (by omega) (by omega) (by omega) (by omega) (by omega) (by omega); have hb6 := hb3.trans hb4; clear hb1 hb3 hb4 hz0 hz1 hz2; have hb3 := hb6; have hz0 := hy0; have hz1 := hy1; have hz2 := hy2; clear hb6 hy0 hy1 hy2)))
    | (go_at_call 67; refine (refMatch_calls _ _ _).out.mono ?_; skip; rintro e w1 ⟨rfl, hb1⟩; (first | (obtain ⟨w2, rfl, hb3, hz0, hz1, hz2⟩ := behind_alloc3 hb1; clear hb1) | (obtain ⟨w4, rfl, hb4, _, hy0, hy1, hy2⟩ := behind_wb3 (B := w.heap.size) hb1 hz0 hz1 hz2 (by omega) (by omega) (by omega) (by omega) (by omega) (by omega); have hb6 := hb3.trans hb4; clear hb1 hb3 hb4 hz0 hz1 hz2; have hb3 := hb6; have hz0 := hy0; have hz1 := hy1; have hz2 := hy2; clear hb6 hy0 hy1 hy2)))
    | (go_at_call 68; refine (refOld_calls _ _ _).out.mono ?_; skip; rintro e w1 ⟨rfl, hb1⟩; (first | (obtain ⟨w2, rfl, hb3, hz0, hz1, hz2⟩ := behind_alloc3 hb1; clear hb1) | (obtain ⟨w4, rfl, hb4, _, hy0, hy1, hy2⟩ := behind_wb3 (B := w.heap.size) hb1 hz0 hz1 hz2 (by omega) (by omega) (by omega) (by omega) (by omega) (by omega); have hb6 := hb3.trans hb4; clear hb1 hb3 hb4 hz0 hz1 hz2; have hb3 := hb6; have hz0 := hy0; have hz1 := hy1; have hz2 := hy2; clear hb6 hy0 hy1 hy2)))
    | (go_at_call 69; refine (apart_calls _ _ _).out.mono ?_; skip; rintro e w1 ⟨rfl, hb1⟩; (first | (obtain ⟨w2, rfl, hb3, hz0, hz1, hz2⟩ := behind_alloc3 hb1; clear hb1) | (obtain ⟨w4, rfl, hb4, _, hy0, hy1, hy2⟩ := behind_wb3 (B := w.heap.size) hb1 hz0 hz1 hz2 (by omega) (by omega) (by omega) (by omega) (by omega) (by omega); have hb6 := hb3.trans hb4; clear hb1 hb3 hb4 hz0 hz1 hz2; have hb3 := hb6; have hz0 := hy0; have hz1 := hy1; have hz2 := hy2; clear hb6 hy0 hy1 hy2)))
    | fail)
  exact bodyPost_ret (v := vv (1, 5)) (by simp [results, Try.results36, go_sem, hz0, hz1, hz2]) rfl ⟨rfl, (by first | exact Below.refl _ _ | exact below_alloc1 _ _ | exact below_alloc2 _ _ _ | exact below_alloc3 _ _ _ _ | (repeat' (first | assumption | exact Below.refl _ _ | exact below_alloc1 _ _ | exact below_alloc2 _ _ _ | exact below_alloc3 _ _ _ _ | (refine Below.drew ?_) | (refine below_wb ?_ ?_) | (refine Below.alloc ?_ ?_ _) | omega | (simp; done) | (simp; omega))))⟩

set_option maxRecDepth 100000 in
set_option maxHeartbeats 4000000 in
theorem first_8 (a b : G) (fa fb : Int) (w : World) (en1 : Spec.isNew b = false) (en2 : Spec.isNew a = false) (eq : (a.c == b.c) = true) (ec1 : (Go.bits .and .u32 fa 8 != 0) = false) (ec2 : (Go.bits .and .u32 fb 8 != 0) = false) (eb1 : (a.b != 0) = false) (eb2 : (b.b != 0) = true) : Pur Try.prog 36 #[.agg (gc a), .int .u32 fa, .agg (gc b), .int .u32 fb] w (vv (2, 5)) := by
  unfold Pur
  have Hn1 := Lib.hid en1
  have Hn2 := Lib.hid en2
  clear en1 en2
  go_enter Try.func36, Try.ntmps36
  go_wp2_with (first
    | (go_at_call 30; refine (refNone_calls _ _).out.mono ?_; rw [isNew_def]; (first | rw [Hn1.out] | rw [Hn2.out]); rintro e w1 ⟨rfl, hb1⟩; (first | (obtain ⟨w2, rfl, hb3, hz0, hz1, hz2⟩ := behind_alloc3 hb1; clear hb1) | (obtain ⟨w4, rfl, hb4, _, hy0, hy1, hy2⟩ := behind_wb3 (B := w.heap.size) hb1 hz0 hz1 hz2 (by omega) (by omega) (by omega) (by omega) (by omega) (by omega); have hb6 := hb3.trans hb4; clear hb1 hb3 hb4 hz0 hz1 hz2; have hb3 := hb6; have hz0 := hy0; have hz1 := hy1; have hz2 := hy2; clear hb6 hy0 hy1 hy2)))
    | (go_at_call 66; refine (refWay_calls _ _ _ _ _).out.mono ?_; (first | rw [way_tt] | rw [way_tf] | rw [way_ft1] | rw [way_ft3] | rw [way_ff]); rintro e w1 ⟨rfl, hb1⟩; (first | (obtain ⟨w2, rfl, hb3, hz0, hz1, hz2⟩ := behind_alloc3 hb1; clear hb1) | (obtain ⟨w4, rfl, hb4, _, hy0, hy1, hy2⟩ := behind_wb3 (B := w.heap.size) hb1 hz0 hz1 hz2 (by omega) (by omega) (by omega) (by omega) (by omega) (by omega); have hb6 := hb3.trans hb4; clear hb1 hb3 hb4 hz0 hz1 hz2; have hb3 := hb6; have hz0 := hy0; have hz1 := hy1; have hz2 := hy2; clear hb6 hy0 hy1 hy2)))
    | (go_at_call 67; refine (refMatch_calls _ _ _).out.mono ?_; skip; rintro e w1 ⟨rfl, hb1⟩; (first | (obtain ⟨w2, rfl, hb3, hz0, hz1, hz2⟩ := behind_alloc3 hb1; clear hb1) | (obtain ⟨w4, rfl, hb4, _, hy0, hy1, hy2⟩ := behind_wb3 (B := w.heap.size) hb1 hz0 hz1 hz2 (by omega) (by omega) (by omega) (by omega) (by omega) (by omega); have hb6 := hb3.trans hb4; clear hb1 hb3 hb4 hz0 hz1 hz2; have hb3 := hb6; have hz0 := hy0; have hz1 := hy1; have hz2 := hy2; clear hb6 hy0 hy1 hy2)))
    | (go_at_call 68; refine (refOld_calls _ _ _).out.mono ?_; skip; rintro e w1 ⟨rfl, hb1⟩; (first | (obtain ⟨w2, rfl, hb3, hz0, hz1, hz2⟩ := behind_alloc3 hb1; clear hb1) | (obtain ⟨w4, rfl, hb4, _, hy0, hy1, hy2⟩ := behind_wb3 (B := w.heap.size) hb1 hz0 hz1 hz2 (by omega) (by omega) (by omega) (by omega) (by omega) (by omega); have hb6 := hb3.trans hb4; clear hb1 hb3 hb4 hz0 hz1 hz2; have hb3 := hb6; have hz0 := hy0; have hz1 := hy1; have hz2 := hy2; clear hb6 hy0 hy1 hy2)))
    | (go_at_call 69; refine (apart_calls _ _ _).out.mono ?_; skip; rintro e w1 ⟨rfl, hb1⟩; (first | (obtain ⟨w2, rfl, hb3, hz0, hz1, hz2⟩ := behind_alloc3 hb1; clear hb1) | (obtain ⟨w4, rfl, hb4, _, hy0, hy1, hy2⟩ := behind_wb3 (B := w.heap.size) hb1 hz0 hz1 hz2 (by omega) (by omega) (by omega) (by omega) (by omega) (by omega); have hb6 := hb3.trans hb4; clear hb1 hb3 hb4 hz0 hz1 hz2; have hb3 := hb6; have hz0 := hy0; have hz1 := hy1; have hz2 := hy2; clear hb6 hy0 hy1 hy2)))
    | fail)
  exact bodyPost_ret (v := vv (2, 5)) (by simp [results, Try.results36, go_sem, hz0, hz1, hz2]) rfl ⟨rfl, (by first | exact Below.refl _ _ | exact below_alloc1 _ _ | exact below_alloc2 _ _ _ | exact below_alloc3 _ _ _ _ | (repeat' (first | assumption | exact Below.refl _ _ | exact below_alloc1 _ _ | exact below_alloc2 _ _ _ | exact below_alloc3 _ _ _ _ | (refine Below.drew ?_) | (refine below_wb ?_ ?_) | (refine Below.alloc ?_ ?_ _) | omega | (simp; done) | (simp; omega))))⟩

set_option maxRecDepth 100000 in
set_option maxHeartbeats 4000000 in
theorem first_9 (a b : G) (fa fb : Int) (w : World) (en1 : Spec.isNew b = false) (en2 : Spec.isNew a = false) (eq : (a.c == b.c) = true) (ec1 : (Go.bits .and .u32 fa 8 != 0) = false) (ec2 : (Go.bits .and .u32 fb 8 != 0) = false) (eb1 : (a.b != 0) = false) (eb2 : (b.b != 0) = false) : Pur Try.prog 36 #[.agg (gc a), .int .u32 fa, .agg (gc b), .int .u32 fb] w (vv (0, 6)) := by
  unfold Pur
  have Hn1 := Lib.hid en1
  have Hn2 := Lib.hid en2
  clear en1 en2
  go_enter Try.func36, Try.ntmps36
  go_wp2_with (first
    | (go_at_call 30; refine (refNone_calls _ _).out.mono ?_; rw [isNew_def]; (first | rw [Hn1.out] | rw [Hn2.out]); rintro e w1 ⟨rfl, hb1⟩; (first | (obtain ⟨w2, rfl, hb3, hz0, hz1, hz2⟩ := behind_alloc3 hb1; clear hb1) | (obtain ⟨w4, rfl, hb4, _, hy0, hy1, hy2⟩ := behind_wb3 (B := w.heap.size) hb1 hz0 hz1 hz2 (by omega) (by omega) (by omega) (by omega) (by omega) (by omega); have hb6 := hb3.trans hb4; clear hb1 hb3 hb4 hz0 hz1 hz2; have hb3 := hb6; have hz0 := hy0; have hz1 := hy1; have hz2 := hy2; clear hb6 hy0 hy1 hy2)))
    | (go_at_call 66; refine (refWay_calls _ _ _ _ _).out.mono ?_; (first | rw [way_tt] | rw [way_tf] | rw [way_ft1] | rw [way_ft3] | rw [way_ff]); rintro e w1 ⟨rfl, hb1⟩; (first | (obtain ⟨w2, rfl, hb3, hz0, hz1, hz2⟩ := behind_alloc3 hb1; clear hb1) | (obtain ⟨w4, rfl, hb4, _, hy0, hy1, hy2⟩ := behind_wb3 (B := w.heap.size) hb1 hz0 hz1 hz2 (by omega) (by omega) (by omega) (by omega) (by omega) (by omega); have hb6 := hb3.trans hb4; clear hb1 hb3 hb4 hz0 hz1 hz2; have hb3 := hb6; have hz0 := hy0; have hz1 := hy1; have hz2 := hy2; clear hb6 hy0 hy1 hy2)))
    | (go_at_call 67; refine (refMatch_calls _ _ _).out.mono ?_; skip; rintro e w1 ⟨rfl, hb1⟩; (first | (obtain ⟨w2, rfl, hb3, hz0, hz1, hz2⟩ := behind_alloc3 hb1; clear hb1) | (obtain ⟨w4, rfl, hb4, _, hy0, hy1, hy2⟩ := behind_wb3 (B := w.heap.size) hb1 hz0 hz1 hz2 (by omega) (by omega) (by omega) (by omega) (by omega) (by omega); have hb6 := hb3.trans hb4; clear hb1 hb3 hb4 hz0 hz1 hz2; have hb3 := hb6; have hz0 := hy0; have hz1 := hy1; have hz2 := hy2; clear hb6 hy0 hy1 hy2)))
    | (go_at_call 68; refine (refOld_calls _ _ _).out.mono ?_; skip; rintro e w1 ⟨rfl, hb1⟩; (first | (obtain ⟨w2, rfl, hb3, hz0, hz1, hz2⟩ := behind_alloc3 hb1; clear hb1) | (obtain ⟨w4, rfl, hb4, _, hy0, hy1, hy2⟩ := behind_wb3 (B := w.heap.size) hb1 hz0 hz1 hz2 (by omega) (by omega) (by omega) (by omega) (by omega) (by omega); have hb6 := hb3.trans hb4; clear hb1 hb3 hb4 hz0 hz1 hz2; have hb3 := hb6; have hz0 := hy0; have hz1 := hy1; have hz2 := hy2; clear hb6 hy0 hy1 hy2)))
    | (go_at_call 69; refine (apart_calls _ _ _).out.mono ?_; skip; rintro e w1 ⟨rfl, hb1⟩; (first | (obtain ⟨w2, rfl, hb3, hz0, hz1, hz2⟩ := behind_alloc3 hb1; clear hb1) | (obtain ⟨w4, rfl, hb4, _, hy0, hy1, hy2⟩ := behind_wb3 (B := w.heap.size) hb1 hz0 hz1 hz2 (by omega) (by omega) (by omega) (by omega) (by omega) (by omega); have hb6 := hb3.trans hb4; clear hb1 hb3 hb4 hz0 hz1 hz2; have hb3 := hb6; have hz0 := hy0; have hz1 := hy1; have hz2 := hy2; clear hb6 hy0 hy1 hy2)))
    | fail)
  exact bodyPost_ret (v := vv (0, 6)) (by simp [results, Try.results36, go_sem, hz0, hz1, hz2]) rfl ⟨rfl, (by first | exact Below.refl _ _ | exact below_alloc1 _ _ | exact below_alloc2 _ _ _ | exact below_alloc3 _ _ _ _ | (repeat' (first | assumption | exact Below.refl _ _ | exact below_alloc1 _ _ | exact below_alloc2 _ _ _ | exact below_alloc3 _ _ _ _ | (refine Below.drew ?_) | (refine below_wb ?_ ?_) | (refine Below.alloc ?_ ?_ _) | omega | (simp; done) | (simp; omega))))⟩

set_option maxRecDepth 100000 in
set_option maxHeartbeats 4000000 in
theorem first_10 (a b : G) (fa fb : Int) (w : World) (en1 : Spec.isNew b = false) (en2 : Spec.isNew a = false) (eq : (a.c == b.c) = false) (em1 : Spec.mtch a.b b.c = true) (em2 : Spec.mtch b.b a.c = true) : Pur Try.prog 36 #[.agg (gc a), .int .u32 fa, .agg (gc b), .int .u32 fb] w (vv (5, 8)) := by
  unfold Pur
  have Hn1 := Lib.hid en1
  have Hn2 := Lib.hid en2
  have Hm1 := Lib.hid em1
  have Hm2 := Lib.hid em2
  clear en1 en2 em1 em2
  go_enter Try.func36, Try.ntmps36
  go_wp2_with (first
    | (go_at_call 30; refine (refNone_calls _ _).out.mono ?_; rw [isNew_def]; (first | rw [Hn1.out] | rw [Hn2.out]); rintro e w1 ⟨rfl, hb1⟩; (first | (obtain ⟨w2, rfl, hb3, hz0, hz1, hz2⟩ := behind_alloc3 hb1; clear hb1) | (obtain ⟨w4, rfl, hb4, _, hy0, hy1, hy2⟩ := behind_wb3 (B := w.heap.size) hb1 hz0 hz1 hz2 (by omega) (by omega) (by omega) (by omega) (by omega) (by omega); have hb6 := hb3.trans hb4; clear hb1 hb3 hb4 hz0 hz1 hz2; have hb3 := hb6; have hz0 := hy0; have hz1 := hy1; have hz2 := hy2; clear hb6 hy0 hy1 hy2)))
    | (go_at_call 66; refine (refWay_calls _ _ _ _ _).out.mono ?_; (first | rw [way_tt] | rw [way_tf] | rw [way_ft1] | rw [way_ft3] | rw [way_ff]); rintro e w1 ⟨rfl, hb1⟩; (first | (obtain ⟨w2, rfl, hb3, hz0, hz1, hz2⟩ := behind_alloc3 hb1; clear hb1) | (obtain ⟨w4, rfl, hb4, _, hy0, hy1, hy2⟩ := behind_wb3 (B := w.heap.size) hb1 hz0 hz1 hz2 (by omega) (by omega) (by omega) (by omega) (by omega) (by omega); have hb6 := hb3.trans hb4; clear hb1 hb3 hb4 hz0 hz1 hz2; have hb3 := hb6; have hz0 := hy0; have hz1 := hy1; have hz2 := hy2; clear hb6 hy0 hy1 hy2)))
    | (go_at_call 67; refine (refMatch_calls _ _ _).out.mono ?_; (first | rw [Hm1.out] | rw [Hm2.out]); rintro e w1 ⟨rfl, hb1⟩; (first | (obtain ⟨w2, rfl, hb3, hz0, hz1, hz2⟩ := behind_alloc3 hb1; clear hb1) | (obtain ⟨w4, rfl, hb4, _, hy0, hy1, hy2⟩ := behind_wb3 (B := w.heap.size) hb1 hz0 hz1 hz2 (by omega) (by omega) (by omega) (by omega) (by omega) (by omega); have hb6 := hb3.trans hb4; clear hb1 hb3 hb4 hz0 hz1 hz2; have hb3 := hb6; have hz0 := hy0; have hz1 := hy1; have hz2 := hy2; clear hb6 hy0 hy1 hy2)))
    | (go_at_call 68; refine (refOld_calls _ _ _).out.mono ?_; skip; rintro e w1 ⟨rfl, hb1⟩; (first | (obtain ⟨w2, rfl, hb3, hz0, hz1, hz2⟩ := behind_alloc3 hb1; clear hb1) | (obtain ⟨w4, rfl, hb4, _, hy0, hy1, hy2⟩ := behind_wb3 (B := w.heap.size) hb1 hz0 hz1 hz2 (by omega) (by omega) (by omega) (by omega) (by omega) (by omega); have hb6 := hb3.trans hb4; clear hb1 hb3 hb4 hz0 hz1 hz2; have hb3 := hb6; have hz0 := hy0; have hz1 := hy1; have hz2 := hy2; clear hb6 hy0 hy1 hy2)))
    | (go_at_call 69; refine (apart_calls _ _ _).out.mono ?_; skip; rintro e w1 ⟨rfl, hb1⟩; (first | (obtain ⟨w2, rfl, hb3, hz0, hz1, hz2⟩ := behind_alloc3 hb1; clear hb1) | (obtain ⟨w4, rfl, hb4, _, hy0, hy1, hy2⟩ := behind_wb3 (B := w.heap.size) hb1 hz0 hz1 hz2 (by omega) (by omega) (by omega) (by omega) (by omega) (by omega); have hb6 := hb3.trans hb4; clear hb1 hb3 hb4 hz0 hz1 hz2; have hb3 := hb6; have hz0 := hy0; have hz1 := hy1; have hz2 := hy2; clear hb6 hy0 hy1 hy2)))
    | fail)
  exact bodyPost_ret (v := vv (5, 8)) (by simp [results, Try.results36, go_sem, hz0, hz1, hz2]) rfl ⟨rfl, (by first | exact Below.refl _ _ | exact below_alloc1 _ _ | exact below_alloc2 _ _ _ | exact below_alloc3 _ _ _ _ | (repeat' (first | assumption | exact Below.refl _ _ | exact below_alloc1 _ _ | exact below_alloc2 _ _ _ | exact below_alloc3 _ _ _ _ | (refine Below.drew ?_) | (refine below_wb ?_ ?_) | (refine Below.alloc ?_ ?_ _) | omega | (simp; done) | (simp; omega))))⟩

set_option maxRecDepth 100000 in
set_option maxHeartbeats 4000000 in
theorem first_11 (a b : G) (fa fb : Int) (w : World) (en1 : Spec.isNew b = false) (en2 : Spec.isNew a = false) (eq : (a.c == b.c) = false) (em1 : Spec.mtch a.b b.c = true) (em2 : Spec.mtch b.b a.c = false) : Pur Try.prog 36 #[.agg (gc a), .int .u32 fa, .agg (gc b), .int .u32 fb] w (vv (1, 9)) := by
  unfold Pur
  have Hn1 := Lib.hid en1
  have Hn2 := Lib.hid en2
  have Hm1 := Lib.hid em1
  have Hm2 := Lib.hid em2
  clear en1 en2 em1 em2
  go_enter Try.func36, Try.ntmps36
  go_wp2_with (first
    | (go_at_call 30; refine (refNone_calls _ _).out.mono ?_; rw [isNew_def]; (first | rw [Hn1.out] | rw [Hn2.out]); rintro e w1 ⟨rfl, hb1⟩; (first | (obtain ⟨w2, rfl, hb3, hz0, hz1, hz2⟩ := behind_alloc3 hb1; clear hb1) | (obtain ⟨w4, rfl, hb4, _, hy0, hy1, hy2⟩ := behind_wb3 (B := w.heap.size) hb1 hz0 hz1 hz2 (by omega) (by omega) (by omega) (by omega) (by omega) (by omega); have hb6 := hb3.trans hb4; clear hb1 hb3 hb4 hz0 hz1 hz2; have hb3 := hb6; have hz0 := hy0; have hz1 := hy1; have hz2 := hy2; clear hb6 hy0 hy1 hy2)))
    | (go_at_call 66; refine (refWay_calls _ _ _ _ _).out.mono ?_; (first | rw [way_tt] | rw [way_tf] | rw [way_ft1] | rw [way_ft3] | rw [way_ff]); rintro e w1 ⟨rfl, hb1⟩; (first | (obtain ⟨w2, rfl, hb3, hz0, hz1, hz2⟩ := behind_alloc3 hb1; clear hb1) | (obtain ⟨w4, rfl, hb4, _, hy0, hy1, hy2⟩ := behind_wb3 (B := w.heap.size) hb1 hz0 hz1 hz2 (by omega) (by omega) (by omega) (by omega) (by omega) (by omega); have hb6 := hb3.trans hb4; clear hb1 hb3 hb4 hz0 hz1 hz2; have hb3 := hb6; have hz0 := hy0; have hz1 := hy1; have hz2 := hy2; clear hb6 hy0 hy1 hy2)))
    | (go_at_call 67; refine (refMatch_calls _ _ _).out.mono ?_; (first | rw [Hm1.out] | rw [Hm2.out]); rintro e w1 ⟨rfl, hb1⟩; (first | (obtain ⟨w2, rfl, hb3, hz0, hz1, hz2⟩ := behind_alloc3 hb1; clear hb1) | (obtain ⟨w4, rfl, hb4, _, hy0, hy1, hy2⟩ := behind_wb3 (B := w.heap.size) hb1 hz0 hz1 hz2 (by omega) (by omega) (by omega) (by omega) (by omega) (by omega); have hb6 := hb3.trans hb4; clear hb1 hb3 hb4 hz0 hz1 hz2; have hb3 := hb6; have hz0 := hy0; have hz1 := hy1; have hz2 := hy2; clear hb6 hy0 hy1 hy2)))
    | (go_at_call 68; refine (refOld_calls _ _ _).out.mono ?_; skip; rintro e w1 ⟨rfl, hb1⟩; (first | (obtain ⟨w2, rfl, hb3, hz0, hz1, hz2⟩ := behind_alloc3 hb1; clear hb1) | (obtain ⟨w4, rfl, hb4, _, hy0, hy1, hy2⟩ := behind_wb3 (B := w.heap.size) hb1 hz0 hz1 hz2 (by omega) (by omega) (by omega) (by omega) (by omega) (by omega); have hb6 := hb3.trans hb4; clear hb1 hb3 hb4 hz0 hz1 hz2; have hb3 := hb6; have hz0 := hy0; have hz1 := hy1; have hz2 := hy2; clear hb6 hy0 hy1 hy2)))
    | (go_at_call 69; refine (apart_calls _ _ _).out.mono ?_; skip; rintro e w1 ⟨rfl, hb1⟩; (first | (obtain ⟨w2, rfl, hb3, hz0, hz1, hz2⟩ := behind_alloc3 hb1; clear hb1) | (obtain ⟨w4, rfl, hb4, _, hy0, hy1, hy2⟩ := behind_wb3 (B := w.heap.size) hb1 hz0 hz1 hz2 (by omega) (by omega) (by omega) (by omega) (by omega) (by omega); have hb6 := hb3.trans hb4; clear hb1 hb3 hb4 hz0 hz1 hz2; have hb3 := hb6; have hz0 := hy0; have hz1 := hy1; have hz2 := hy2; clear hb6 hy0 hy1 hy2)))
    | fail)
  exact bodyPost_ret (v := vv (1, 9)) (by simp [results, Try.results36, go_sem, hz0, hz1, hz2]) rfl ⟨rfl, (by first | exact Below.refl _ _ | exact below_alloc1 _ _ | exact below_alloc2 _ _ _ | exact below_alloc3 _ _ _ _ | (repeat' (first | assumption | exact Below.refl _ _ | exact below_alloc1 _ _ | exact below_alloc2 _ _ _ | exact below_alloc3 _ _ _ _ | (refine Below.drew ?_) | (refine below_wb ?_ ?_) | (refine Below.alloc ?_ ?_ _) | omega | (simp; done) | (simp; omega))))⟩

set_option maxRecDepth 100000 in
set_option maxHeartbeats 4000000 in
theorem first_12 (a b : G) (fa fb : Int) (w : World) (en1 : Spec.isNew b = false) (en2 : Spec.isNew a = false) (eq : (a.c == b.c) = false) (em1 : Spec.mtch a.b b.c = false) (em2 : Spec.mtch b.b a.c = true) : Pur Try.prog 36 #[.agg (gc a), .int .u32 fa, .agg (gc b), .int .u32 fb] w (vv (2, 9)) := by
  unfold Pur
  have Hn1 := Lib.hid en1
  have Hn2 := Lib.hid en2
  have Hm1 := Lib.hid em1
  have Hm2 := Lib.hid em2
  clear en1 en2 em1 em2
  go_enter Try.func36, Try.ntmps36
  go_wp2_with (first
    | (go_at_call 30; refine (refNone_calls _ _).out.mono ?_; rw [isNew_def]; (first | rw [Hn1.out] | rw [Hn2.out]); rintro e w1 ⟨rfl, hb1⟩; (first | (obtain ⟨w2, rfl, hb3, hz0, hz1, hz2⟩ := behind_alloc3 hb1; clear hb1) | (obtain ⟨w4, rfl, hb4, _, hy0, hy1, hy2⟩ := behind_wb3 (B := w.heap.size) hb1 hz0 hz1 hz2 (by omega) (by omega) (by omega) (by omega) (by omega) (by omega); have hb6 := hb3.trans hb4; clear hb1 hb3 hb4 hz0 hz1 hz2; have hb3 := hb6; have hz0 := hy0; have hz1 := hy1; have hz2 := hy2; clear hb6 hy0 hy1 hy2)))
    | (go_at_call 66; refine (refWay_calls _ _ _ _ _).out.mono ?_; (first | rw [way_tt] | rw [way_tf] | rw [way_ft1] | rw [way_ft3] | rw [way_ff]); rintro e w1 ⟨rfl, hb1⟩; (first | (obtain ⟨w2, rfl, hb3, hz0, hz1, hz2⟩ := behind_alloc3 hb1; clear hb1) | (obtain ⟨w4, rfl, hb4, _, hy0, hy1, hy2⟩ := behind_wb3 (B := w.heap.size) hb1 hz0 hz1 hz2 (by omega) (by omega) (by omega) (by omega) (by omega) (by omega); have hb6 := hb3.trans hb4; clear hb1 hb3 hb4 hz0 hz1 hz2; have hb3 := hb6; have hz0 := hy0; have hz1 := hy1; have hz2 := hy2; clear hb6 hy0 hy1 hy2)))
    | (go_at_call 67; refine (refMatch_calls _ _ _).out.mono ?_; (first | rw [Hm1.out] | rw [Hm2.out]); rintro e w1 ⟨rfl, hb1⟩; (first | (obtain ⟨w2, rfl, hb3, hz0, hz1, hz2⟩ := behind_alloc3 hb1; clear hb1) | (obtain ⟨w4, rfl, hb4, _, hy0, hy1, hy2⟩ := behind_wb3 (B := w.heap.size) hb1 hz0 hz1 hz2 (by omega) (by omega) (by omega) (by omega) (by omega) (by omega); have hb6 := hb3.trans hb4; clear hb1 hb3 hb4 hz0 hz1 hz2; have hb3 := hb6; have hz0 := hy0; have hz1 := hy1; have hz2 := hy2; clear hb6 hy0 hy1 hy2)))
    | (go_at_call 68; refine (refOld_calls _ _ _).out.mono ?_; skip; rintro e w1 ⟨rfl, hb1⟩; (first | (obtain ⟨w2, rfl, hb3, hz0, hz1, hz2⟩ := behind_alloc3 hb1; clear hb1) | (obtain ⟨w4, rfl, hb4, _, hy0, hy1, hy2⟩ := behind_wb3 (B := w.heap.size) hb1 hz0 hz1 hz2 (by omega) (by omega) (by omega) (by omega) (by omega) (by omega); have hb6 := hb3.trans hb4; clear hb1 hb3 hb4 hz0 hz1 hz2; have hb3 := hb6; have hz0 := hy0; have hz1 := hy1; have hz2 := hy2; clear hb6 hy0 hy1 hy2)))
    | (go_at_call 69; refine (apart_calls _ _ _).out.mono ?_; skip; rintro e w1 ⟨rfl, hb1⟩; (first | (obtain ⟨w2, rfl, hb3, hz0, hz1, hz2⟩ := behind_alloc3 hb1; clear hb1) | (obtain ⟨w4, rfl, hb4, _, hy0, hy1, hy2⟩ := behind_wb3 (B := w.heap.size) hb1 hz0 hz1 hz2 (by omega) (by omega) (by omega) (by omega) (by omega) (by omega); have hb6 := hb3.trans hb4; clear hb1 hb3 hb4 hz0 hz1 hz2; have hb3 := hb6; have hz0 := hy0; have hz1 := hy1; have hz2 := hy2; clear hb6 hy0 hy1 hy2)))
    | fail)
  exact bodyPost_ret (v := vv (2, 9)) (by simp [results, Try.results36, go_sem, hz0, hz1, hz2]) rfl ⟨rfl, (by first | exact Below.refl _ _ | exact below_alloc1 _ _ | exact below_alloc2 _ _ _ | exact below_alloc3 _ _ _ _ | (repeat' (first | assumption | exact Below.refl _ _ | exact below_alloc1 _ _ | exact below_alloc2 _ _ _ | exact below_alloc3 _ _ _ _ | (refine Below.drew ?_) | (refine below_wb ?_ ?_) | (refine Below.alloc ?_ ?_ _) | omega | (simp; done) | (simp; omega))))⟩

set_option maxRecDepth 100000 in
set_option maxHeartbeats 4000000 in
theorem first_13 (a b : G) (fa fb : Int) (w : World) (en1 : Spec.isNew b = false) (en2 : Spec.isNew a = false) (eq : (a.c == b.c) = false) (em1 : Spec.mtch a.b b.c = false) (em2 : Spec.mtch b.b a.c = false) (eo1 : Spec.old b.c a = true) (eo2 : Spec.old a.c b = true) : Pur Try.prog 36 #[.agg (gc a), .int .u32 fa, .agg (gc b), .int .u32 fb] w (vv (6, 10)) := by
  unfold Pur
  have Hn1 := Lib.hid en1
  have Hn2 := Lib.hid en2
  have Hm1 := Lib.hid em1
  have Hm2 := Lib.hid em2
  have Ho1 := Lib.hid eo1
  have Ho2 := Lib.hid eo2
  clear en1 en2 em1 em2 eo1 eo2
  go_enter Try.func36, Try.ntmps36
  go_wp2_with (first
    | (go_at_call 30; refine (refNone_calls _ _).out.mono ?_; rw [isNew_def]; (first | rw [Hn1.out] | rw [Hn2.out]); rintro e w1 ⟨rfl, hb1⟩; (first | (obtain ⟨w2, rfl, hb3, hz0, hz1, hz2⟩ := behind_alloc3 hb1; clear hb1) | (obtain ⟨w4, rfl, hb4, _, hy0, hy1, hy2⟩ := behind_wb3 (B := w.heap.size) hb1 hz0 hz1 hz2 (by omega) (by omega) (by omega) (by omega) (by omega) (by omega); have hb6 := hb3.trans hb4; clear hb1 hb3 hb4 hz0 hz1 hz2; have hb3 := hb6; have hz0 := hy0; have hz1 := hy1; have hz2 := hy2; clear hb6 hy0 hy1 hy2)))
    | (go_at_call 66; refine (refWay_calls _ _ _ _ _).out.mono ?_; (first | rw [way_tt] | rw [way_tf] | rw [way_ft1] | rw [way_ft3] | rw [way_ff]); rintro e w1 ⟨rfl, hb1⟩; (first | (obtain ⟨w2, rfl, hb3, hz0, hz1, hz2⟩ := behind_alloc3 hb1; clear hb1) | (obtain ⟨w4, rfl, hb4, _, hy0, hy1, hy2⟩ := behind_wb3 (B := w.heap.size) hb1 hz0 hz1 hz2 (by omega) (by omega) (by omega) (by omega) (by omega) (by omega); have hb6 := hb3.trans hb4; clear hb1 hb3 hb4 hz0 hz1 hz2; have hb3 := hb6; have hz0 := hy0; have hz1 := hy1; have hz2 := hy2; clear hb6 hy0 hy1 hy2)))
    | (go_at_call 67; refine (refMatch_calls _ _ _).out.mono ?_; (first | rw [Hm1.out] | rw [Hm2.out]); rintro e w1 ⟨rfl, hb1⟩; (first | (obtain ⟨w2, rfl, hb3, hz0, hz1, hz2⟩ := behind_alloc3 hb1; clear hb1) | (obtain ⟨w4, rfl, hb4, _, hy0, hy1, hy2⟩ := behind_wb3 (B := w.heap.size) hb1 hz0 hz1 hz2 (by omega) (by omega) (by omega) (by omega) (by omega) (by omega); have hb6 := hb3.trans hb4; clear hb1 hb3 hb4 hz0 hz1 hz2; have hb3 := hb6; have hz0 := hy0; have hz1 := hy1; have hz2 := hy2; clear hb6 hy0 hy1 hy2)))
    | (go_at_call 68; refine (refOld_calls _ _ _).out.mono ?_; (first | rw [Ho1.out] | rw [Ho2.out]); rintro e w1 ⟨rfl, hb1⟩; (first | (obtain ⟨w2, rfl, hb3, hz0, hz1, hz2⟩ := behind_alloc3 hb1; clear hb1) | (obtain ⟨w4, rfl, hb4, _, hy0, hy1, hy2⟩ := behind_wb3 (B := w.heap.size) hb1 hz0 hz1 hz2 (by omega) (by omega) (by omega) (by omega) (by omega) (by omega); have hb6 := hb3.trans hb4; clear hb1 hb3 hb4 hz0 hz1 hz2; have hb3 := hb6; have hz0 := hy0; have hz1 := hy1; have hz2 := hy2; clear hb6 hy0 hy1 hy2)))
    | (go_at_call 69; refine (apart_calls _ _ _).out.mono ?_; skip; rintro e w1 ⟨rfl, hb1⟩; (first | (obtain ⟨w2, rfl, hb3, hz0, hz1, hz2⟩ := behind_alloc3 hb1; clear hb1) | (obtain ⟨w4, rfl, hb4, _, hy0, hy1, hy2⟩ := behind_wb3 (B := w.heap.size) hb1 hz0 hz1 hz2 (by omega) (by omega) (by omega) (by omega) (by omega) (by omega); have hb6 := hb3.trans hb4; clear hb1 hb3 hb4 hz0 hz1 hz2; have hb3 := hb6; have hz0 := hy0; have hz1 := hy1; have hz2 := hy2; clear hb6 hy0 hy1 hy2)))
    | fail)
  exact bodyPost_ret (v := vv (6, 10)) (by simp [results, Try.results36, go_sem, hz0, hz1, hz2]) rfl ⟨rfl, (by first | exact Below.refl _ _ | exact below_alloc1 _ _ | exact below_alloc2 _ _ _ | exact below_alloc3 _ _ _ _ | (repeat' (first | assumption | exact Below.refl _ _ | exact below_alloc1 _ _ | exact below_alloc2 _ _ _ | exact below_alloc3 _ _ _ _ | (refine Below.drew ?_) | (refine below_wb ?_ ?_) | (refine Below.alloc ?_ ?_ _) | omega | (simp; done) | (simp; omega))))⟩

set_option maxRecDepth 100000 in
set_option maxHeartbeats 4000000 in
theorem first_14 (a b : G) (fa fb : Int) (w : World) (en1 : Spec.isNew b = false) (en2 : Spec.isNew a = false) (eq : (a.c == b.c) = false) (em1 : Spec.mtch a.b b.c = false) (em2 : Spec.mtch b.b a.c = false) (eo1 : Spec.old b.c a = true) (eo2 : Spec.old a.c b = false) : Pur Try.prog 36 #[.agg (gc a), .int .u32 fa, .agg (gc b), .int .u32 fb] w (vv (3, 11)) := by
  unfold Pur
  have Hn1 := Lib.hid en1
  have Hn2 := Lib.hid en2
  have Hm1 := Lib.hid em1
  have Hm2 := Lib.hid em2
  have Ho1 := Lib.hid eo1
  have Ho2 := Lib.hid eo2
  clear en1 en2 em1 em2 eo1 eo2
  go_enter Try.func36, Try.ntmps36
  go_wp2_with (first
    | (go_at_call 30; refine (refNone_calls _ _).out.mono ?_; rw [isNew_def]; (first | rw [Hn1.out] | rw [Hn2.out]); rintro e w1 ⟨rfl, hb1⟩; (first | (obtain ⟨w2, rfl, hb3, hz0, hz1, hz2⟩ := behind_alloc3 hb1; clear hb1) | (obtain ⟨w4, rfl, hb4, _, hy0, hy1, hy2⟩ := behind_wb3 (B := w.heap.size) hb1 hz0 hz1 hz2 (by omega) (by omega) (by omega) (by omega) (by omega) (by omega); have hb6 := hb3.trans hb4; clear hb1 hb3 hb4 hz0 hz1 hz2; have hb3 := hb6; have hz0 := hy0; have hz1 := hy1; have hz2 := hy2; clear hb6 hy0 hy1 hy2)))
    | (go_at_call 66; refine (refWay_calls _ _ _ _ _).out.mono ?_; (first | rw [way_tt] | rw [way_tf] | rw [way_ft1] | rw [way_ft3] | rw [way_ff]); rintro e w1 ⟨rfl, hb1⟩; (first | (obtain ⟨w2, rfl, hb3, hz0, hz1, hz2⟩ := behind_alloc3 hb1; clear hb1) | (obtain ⟨w4, rfl, hb4, _, hy0, hy1, hy2⟩ := behind_wb3 (B := w.heap.size) hb1 hz0 hz1 hz2 (by omega) (by omega) (by omega) (by omega) (by omega) (by omega); have hb6 := hb3.trans hb4; clear hb1 hb3 hb4 hz0 hz1 hz2; have hb3 := hb6; have hz0 := hy0; have hz1 := hy1; have hz2 := hy2; clear hb6 hy0 hy1 hy2)))
    | (go_at_call 67; refine (refMatch_calls _ _ _).out.mono ?_; (first | rw [Hm1.out] | rw [Hm2.out]); rintro e w1 ⟨rfl, hb1⟩; (first | (obtain ⟨w2, rfl, hb3, hz0, hz1, hz2⟩ := behind_alloc3 hb1; clear hb1) | (obtain ⟨w4, rfl, hb4, _, hy0, hy1, hy2⟩ := behind_wb3 (B := w.heap.size) hb1 hz0 hz1 hz2 (by omega) (by omega) (by omega) (by omega) (by omega) (by omega); have hb6 := hb3.trans hb4; clear hb1 hb3 hb4 hz0 hz1 hz2; have hb3 := hb6; have hz0 := hy0; have hz1 := hy1; have hz2 := hy2; clear hb6 hy0 hy1 hy2)))
    | (go_at_call 68; refine (refOld_calls _ _ _).out.mono ?_; (first | rw [Ho1.out] | rw [Ho2.out]); rintro e w1 ⟨rfl, hb1⟩; (first | (obtain ⟨w2, rfl, hb3, hz0, hz1, hz2⟩ := behind_alloc3 hb1; clear hb1) | (obtain ⟨w4, rfl, hb4, _, hy0, hy1, hy2⟩ := behind_wb3 (B := w.heap.size) hb1 hz0 hz1 hz2 (by omega) (by omega) (by omega) (by omega) (by omega) (by omega); have hb6 := hb3.trans hb4; clear hb1 hb3 hb4 hz0 hz1 hz2; have hb3 := hb6; have hz0 := hy0; have hz1 := hy1; have hz2 := hy2; clear hb6 hy0 hy1 hy2)))
    | (go_at_call 69; refine (apart_calls _ _ _).out.mono ?_; skip; rintro e w1 ⟨rfl, hb1⟩; (first | (obtain ⟨w2, rfl, hb3, hz0, hz1, hz2⟩ := behind_alloc3 hb1; clear hb1) | (obtain ⟨w4, rfl, hb4, _, hy0, hy1, hy2⟩ := behind_wb3 (B := w.heap.size) hb1 hz0 hz1 hz2 (by omega) (by omega) (by omega) (by omega) (by omega) (by omega); have hb6 := hb3.trans hb4; clear hb1 hb3 hb4 hz0 hz1 hz2; have hb3 := hb6; have hz0 := hy0; have hz1 := hy1; have hz2 := hy2; clear hb6 hy0 hy1 hy2)))
    | fail)
  exact bodyPost_ret (v := vv (3, 11)) (by simp [results, Try.results36, go_sem, hz0, hz1, hz2]) rfl ⟨rfl, (by first | exact Below.refl _ _ | exact below_alloc1 _ _ | exact below_alloc2 _ _ _ | exact below_alloc3 _ _ _ _ | (repeat' (first | assumption | exact Below.refl _ _ | exact below_alloc1 _ _ | exact below_alloc2 _ _ _ | exact below_alloc3 _ _ _ _ | (refine Below.drew ?_) | (refine below_wb ?_ ?_) | (refine Below.alloc ?_ ?_ _) | omega | (simp; done) | (simp; omega))))⟩

set_option maxRecDepth 100000 in
set_option maxHeartbeats 4000000 in
theorem first_15 (a b : G) (fa fb : Int) (w : World) (en1 : Spec.isNew b = false) (en2 : Spec.isNew a = false) (eq : (a.c == b.c) = false) (em1 : Spec.mtch a.b b.c = false) (em2 : Spec.mtch b.b a.c = false) (eo1 : Spec.old b.c a = false) (eo2 : Spec.old a.c b = true) : Pur Try.prog 36 #[.agg (gc a), .int .u32 fa, .agg (gc b), .int .u32 fb] w (vv (4, 11)) := by
  unfold Pur
  have Hn1 := Lib.hid en1
  have Hn2 := Lib.hid en2
  have Hm1 := Lib.hid em1
  have Hm2 := Lib.hid em2
  have Ho1 := Lib.hid eo1
  have Ho2 := Lib.hid eo2
  clear en1 en2 em1 em2 eo1 eo2
  go_enter Try.func36, Try.ntmps36
  go_wp2_with (first
    | (go_at_call 30; refine (refNone_calls _ _).out.mono ?_; rw [isNew_def]; (first | rw [Hn1.out] | rw [Hn2.out]); rintro e w1 ⟨rfl, hb1⟩; (first | (obtain ⟨w2, rfl, hb3, hz0, hz1, hz2⟩ := behind_alloc3 hb1; clear hb1) | (obtain ⟨w4, rfl, hb4, _, hy0, hy1, hy2⟩ := behind_wb3 (B := w.heap.size) hb1 hz0 hz1 hz2 (by omega) (by omega) (by omega) (by omega) (by omega) (by omega); have hb6 := hb3.trans hb4; clear hb1 hb3 hb4 hz0 hz1 hz2; have hb3 := hb6; have hz0 := hy0; have hz1 := hy1; have hz2 := hy2; clear hb6 hy0 hy1 hy2)))
    | (go_at_call 66; refine (refWay_calls _ _ _ _ _).out.mono ?_; (first | rw [way_tt] | rw [way_tf] | rw [way_ft1] | rw [way_ft3] | rw [way_ff]); rintro e w1 ⟨rfl, hb1⟩; (first | (obtain ⟨w2, rfl, hb3, hz0, hz1, hz2⟩ := behind_alloc3 hb1; clear hb1) | (obtain ⟨w4, rfl, hb4, _, hy0, hy1, hy2⟩ := behind_wb3 (B := w.heap.size) hb1 hz0 hz1 hz2 (by omega) (by omega) (by omega) (by omega) (by omega) (by omega); have hb6 := hb3.trans hb4; clear hb1 hb3 hb4 hz0 hz1 hz2; have hb3 := hb6; have hz0 := hy0; have hz1 := hy1; have hz2 := hy2; clear hb6 hy0 hy1 hy2)))
    | (go_at_call 67; refine (refMatch_calls _ _ _).out.mono ?_; (first | rw [Hm1.out] | rw [Hm2.out]); rintro e w1 ⟨rfl, hb1⟩; (first | (obtain ⟨w2, rfl, hb3, hz0, hz1, hz2⟩ := behind_alloc3 hb1; clear hb1) | (obtain ⟨w4, rfl, hb4, _, hy0, hy1, hy2⟩ := behind_wb3 (B := w.heap.size) hb1 hz0 hz1 hz2 (by omega) (by omega) (by omega) (by omega) (by omega) (by omega); have hb6 := hb3.trans hb4; clear hb1 hb3 hb4 hz0 hz1 hz2; have hb3 := hb6; have hz0 := hy0; have hz1 := hy1; have hz2 := hy2; clear hb6 hy0 hy1 hy2)))
    | (go_at_call 68; refine (refOld_calls _ _ _).out.mono ?_; (first | rw [Ho1.out] | rw [Ho2.out]); rintro e w1 ⟨rfl, hb1⟩; (first | (obtain ⟨w2, rfl, hb3, hz0, hz1, hz2⟩ := behind_alloc3 hb1; clear hb1) | (obtain ⟨w4, rfl, hb4, _, hy0, hy1, hy2⟩ := behind_wb3 (B := w.heap.size) hb1 hz0 hz1 hz2 (by omega) (by omega) (by omega) (by omega) (by omega) (by omega); have hb6 := hb3.trans hb4; clear hb1 hb3 hb4 hz0 hz1 hz2; have hb3 := hb6; have hz0 := hy0; have hz1 := hy1; have hz2 := hy2; clear hb6 hy0 hy1 hy2)))
    | (go_at_call 69; refine (apart_calls _ _ _).out.mono ?_; skip; rintro e w1 ⟨rfl, hb1⟩; (first | (obtain ⟨w2, rfl, hb3, hz0, hz1, hz2⟩ := behind_alloc3 hb1; clear hb1) | (obtain ⟨w4, rfl, hb4, _, hy0, hy1, hy2⟩ := behind_wb3 (B := w.heap.size) hb1 hz0 hz1 hz2 (by omega) (by omega) (by omega) (by omega) (by omega) (by omega); have hb6 := hb3.trans hb4; clear hb1 hb3 hb4 hz0 hz1 hz2; have hb3 := hb6; have hz0 := hy0; have hz1 := hy1; have hz2 := hy2; clear hb6 hy0 hy1 hy2)))
    | fail)
  exact bodyPost_ret (v := vv (4, 11)) (by simp [results, Try.results36, go_sem, hz0, hz1, hz2]) rfl ⟨rfl, (by first | exact Below.refl _ _ | exact below_alloc1 _ _ | exact below_alloc2 _ _ _ | exact below_alloc3 _ _ _ _ | (repeat' (first | assumption | exact Below.refl _ _ | exact below_alloc1 _ _ | exact below_alloc2 _ _ _ | exact below_alloc3 _ _ _ _ | (refine Below.drew ?_) | (refine below_wb ?_ ?_) | (refine Below.alloc ?_ ?_ _) | omega | (simp; done) | (simp; omega))))⟩

set_option maxRecDepth 100000 in
set_option maxHeartbeats 4000000 in
theorem first_16 (a b : G) (fa fb : Int) (w : World) (en1 : Spec.isNew b = false) (en2 : Spec.isNew a = false) (eq : (a.c == b.c) = false) (em1 : Spec.mtch a.b b.c = false) (em2 : Spec.mtch b.b a.c = false) (eo1 : Spec.old b.c a = false) (eo2 : Spec.old a.c b = false) : Pur Try.prog 36 #[.agg (gc a), .int .u32 fa, .agg (gc b), .int .u32 fb] w (vv (Spec.apart a b)) := by
  unfold Pur
  have Hn1 := Lib.hid en1
  have Hn2 := Lib.hid en2
  have Hm1 := Lib.hid em1
  have Hm2 := Lib.hid em2
  have Ho1 := Lib.hid eo1
  have Ho2 := Lib.hid eo2
  clear en1 en2 em1 em2 eo1 eo2
  obtain ⟨x1, x2, hx⟩ : ∃ x1 x2, Spec.apart a b = (x1, x2) := ⟨_, _, rfl⟩
  have Hx := Lib.hid hx
  rw [Hx.out]
  clear hx
  go_enter Try.func36, Try.ntmps36
  go_wp2_with (first
    | (go_at_call 30; refine (refNone_calls _ _).out.mono ?_; rw [isNew_def]; (first | rw [Hn1.out] | rw [Hn2.out]); rintro e w1 ⟨rfl, hb1⟩; (first | (obtain ⟨w2, rfl, hb3, hz0, hz1, hz2⟩ := behind_alloc3 hb1; clear hb1) | (obtain ⟨w4, rfl, hb4, _, hy0, hy1, hy2⟩ := behind_wb3 (B := w.heap.size) hb1 hz0 hz1 hz2 (by omega) (by omega) (by omega) (by omega) (by omega) (by omega); have hb6 := hb3.trans hb4; clear hb1 hb3 hb4 hz0 hz1 hz2; have hb3 := hb6; have hz0 := hy0; have hz1 := hy1; have hz2 := hy2; clear hb6 hy0 hy1 hy2)))
    | (go_at_call 66; refine (refWay_calls _ _ _ _ _).out.mono ?_; (first | rw [way_tt] | rw [way_tf] | rw [way_ft1] | rw [way_ft3] | rw [way_ff]); rintro e w1 ⟨rfl, hb1⟩; (first | (obtain ⟨w2, rfl, hb3, hz0, hz1, hz2⟩ := behind_alloc3 hb1; clear hb1) | (obtain ⟨w4, rfl, hb4, _, hy0, hy1, hy2⟩ := behind_wb3 (B := w.heap.size) hb1 hz0 hz1 hz2 (by omega) (by omega) (by omega) (by omega) (by omega) (by omega); have hb6 := hb3.trans hb4; clear hb1 hb3 hb4 hz0 hz1 hz2; have hb3 := hb6; have hz0 := hy0; have hz1 := hy1; have hz2 := hy2; clear hb6 hy0 hy1 hy2)))
    | (go_at_call 67; refine (refMatch_calls _ _ _).out.mono ?_; (first | rw [Hm1.out] | rw [Hm2.out]); rintro e w1 ⟨rfl, hb1⟩; (first | (obtain ⟨w2, rfl, hb3, hz0, hz1, hz2⟩ := behind_alloc3 hb1; clear hb1) | (obtain ⟨w4, rfl, hb4, _, hy0, hy1, hy2⟩ := behind_wb3 (B := w.heap.size) hb1 hz0 hz1 hz2 (by omega) (by omega) (by omega) (by omega) (by omega) (by omega); have hb6 := hb3.trans hb4; clear hb1 hb3 hb4 hz0 hz1 hz2; have hb3 := hb6; have hz0 := hy0; have hz1 := hy1; have hz2 := hy2; clear hb6 hy0 hy1 hy2)))
    | (go_at_call 68; refine (refOld_calls _ _ _).out.mono ?_; (first | rw [Ho1.out] | rw [Ho2.out]); rintro e w1 ⟨rfl, hb1⟩; (first | (obtain ⟨w2, rfl, hb3, hz0, hz1, hz2⟩ := behind_alloc3 hb1; clear hb1) | (obtain ⟨w4, rfl, hb4, _, hy0, hy1, hy2⟩ := behind_wb3 (B := w.heap.size) hb1 hz0 hz1 hz2 (by omega) (by omega) (by omega) (by omega) (by omega) (by omega); have hb6 := hb3.trans hb4; clear hb1 hb3 hb4 hz0 hz1 hz2; have hb3 := hb6; have hz0 := hy0; have hz1 := hy1; have hz2 := hy2; clear hb6 hy0 hy1 hy2)))
    | (go_at_call 69; refine (apart_calls _ _ _).out.mono ?_; rw [Hx.out]; rintro e w1 ⟨rfl, hb1⟩; (first | (obtain ⟨w2, rfl, hb3, hz0, hz1, hz2⟩ := behind_alloc3 hb1; clear hb1) | (obtain ⟨w4, rfl, hb4, _, hy0, hy1, hy2⟩ := behind_wb3 (B := w.heap.size) hb1 hz0 hz1 hz2 (by omega) (by omega) (by omega) (by omega) (by omega) (by omega); have hb6 := hb3.trans hb4; clear hb1 hb3 hb4 hz0 hz1 hz2; have hb3 := hb6; have hz0 := hy0; have hz1 := hy1; have hz2 := hy2; clear hb6 hy0 hy1 hy2)))
    | fail)
  exact bodyPost_ret (v := vv (x1, x2)) (by simp [results, Try.results36, go_sem, hz0, hz1, hz2]) rfl ⟨rfl, (by first | exact Below.refl _ _ | exact below_alloc1 _ _ | exact below_alloc2 _ _ _ | exact below_alloc3 _ _ _ _ | (repeat' (first | assumption | exact Below.refl _ _ | exact below_alloc1 _ _ | exact below_alloc2 _ _ _ | exact below_alloc3 _ _ _ _ | (refine Below.drew ?_) | (refine below_wb ?_ ?_) | (refine Below.alloc ?_ ?_ _) | omega | (simp; done) | (simp; omega))))⟩

theorem refFirst_calls (a b : G) (fa fb : Int) (w : World) : Pur Try.prog 36 #[.agg (gc a), .int .u32 fa, .agg (gc b), .int .u32 fb] w (vv (Spec.first a (Go.bits .and .u32 fa 8 != 0) b (Go.bits .and .u32 fb 8 != 0))) := by
  unfold Spec.first
  split
  · exact first_0 a b fa fb w (by assumption) (by assumption)
  · exact first_1 a b fa fb w (by assumption) (by assumption)
  · exact first_2 a b fa fb w (by assumption) (by assumption)
  · exact first_3 a b fa fb w (by assumption) (by assumption) (by assumption) (by assumption) (by assumption)
  · exact first_4 a b fa fb w (by assumption) (by assumption) (by assumption) (by assumption) (by assumption)
  · exact first_5 a b fa fb w (by assumption) (by assumption) (by assumption) (by assumption) (by assumption)
  · exact first_6 a b fa fb w (by assumption) (by assumption) (by assumption) (by assumption) (by assumption) (by assumption) (by assumption)
  · exact first_7 a b fa fb w (by assumption) (by assumption) (by assumption) (by assumption) (by assumption) (by assumption) (by assumption)
  · exact first_8 a b fa fb w (by assumption) (by assumption) (by assumption) (by assumption) (by assumption) (by assumption) (by assumption)
  · exact first_9 a b fa fb w (by assumption) (by assumption) (by assumption) (by assumption) (by assumption) (by assumption) (by assumption)
  · exact first_10 a b fa fb w (by assumption) (by assumption) (by assumption) (by assumption) (by assumption)
  · exact first_11 a b fa fb w (by assumption) (by assumption) (by assumption) (by assumption) (by assumption)
  · exact first_12 a b fa fb w (by assumption) (by assumption) (by assumption) (by assumption) (by assumption)
  · exact first_13 a b fa fb w (by assumption) (by assumption) (by assumption) (by assumption) (by assumption) (by assumption) (by assumption)
  · exact first_14 a b fa fb w (by assumption) (by assumption) (by assumption) (by assumption) (by assumption) (by assumption) (by assumption)
  · exact first_15 a b fa fb w (by assumption) (by assumption) (by assumption) (by assumption) (by assumption) (by assumption) (by assumption)
  · exact first_16 a b fa fb w (by assumption) (by assumption) (by assumption) (by assumption) (by assumption) (by assumption) (by assumption)
end Go.Proofs.Ytboanmhibbhceaa
