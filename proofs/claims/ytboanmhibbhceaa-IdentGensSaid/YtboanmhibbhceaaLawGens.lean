/- Each call that makes identifiers (Fresh, Rotate, BeginSource, BeginTarget, EndSource, EndTarget) answers as the document says, at every turn; a turn of any other kind does nothing. -/
import Derived.Test.YtboanmhibbhceaaGens
namespace Go.Proofs.Ytboanmhibbhceaa
open Go.RowKit

/-- The cells of a Turn. -/
abbrev turnV (kd nd nm : Int) (g s : G) : Value := .agg #[.int .i64 kd, .int .i64 nd, .int .u64 nm, .int .u64 g.c, .int .u64 g.b, .int .u64 g.o, .int .u64 g.p, .int .u64 s.c, .int .u64 s.b, .int .u64 s.o, .int .u64 s.p]

set_option maxRecDepth 100000 in
set_option maxHeartbeats 1000000 in
theorem identGens_1 (nd nm : Int) (g s : G) (w : World) : Pur Try.prog 4 #[turnV 1 nd nm g s] w (.bool true) := by
  unfold Pur
  go_enter Try.func4, Try.ntmps4
  go_wp2_with fail
  refine wp_region_R (Below (w.heap.size + 1) (w.alloc (.cells (turnV 1 nd nm g s).cells 28))) (by kernel_rfl) (by kernel_rfl) (by first | exact Below.refl _ _ | exact below_alloc1 _ _ | exact below_alloc2 _ _ _ | exact below_alloc3 _ _ _ _ | (repeat' (first | assumption | exact Below.refl _ _ | exact below_alloc1 _ _ | exact below_alloc2 _ _ _ | exact below_alloc3 _ _ _ _ | (refine Below.drew ?_) | (refine below_wb ?_ ?_) | omega | (simp; done)))) ?_
  (repeat (first | (apply wpR_val rfl; (focus (intro w1 hR; obtain ⟨hc, hf⟩ := bcellB hR; (try go_simp); (try exact Eq.refl _); done)); (try simp only [Act.put, List.setIfInBounds_toArray, List.set_cons_succ, List.set_cons_zero])) | (apply wpR_call rfl; (focus (intro w1 hR; obtain ⟨hc, hf⟩ := bcellB hR; (try go_simp); (try exact And.intro rfl rfl); done)); (focus (intro w1 hR; first | exact (fresh_calls nd nm _).at_ (by first | omega | (simp; done) | (simp; omega)) hR | exact (refFresh_calls nd nm _).at_ (by first | omega | (simp; done) | (simp; omega)) hR)); (try simp only [Act.put, List.setIfInBounds_toArray, List.set_cons_succ, List.set_cons_zero]))))
  refine wpR_nil (fun w' hw' => ?_)
  go_wp2_with fail
  go_ret
  exact ⟨rfl, (below_alloc1 _ _).trans (hw'.mono (by omega))⟩

set_option maxRecDepth 100000 in
set_option maxHeartbeats 1000000 in
theorem identGens_2 (nd nm : Int) (g s : G) (w : World) : Pur Try.prog 4 #[turnV 2 nd nm g s] w (.bool true) := by
  unfold Pur
  go_enter Try.func4, Try.ntmps4
  go_wp2_with fail
  refine wp_region_R (Below (w.heap.size + 1) (w.alloc (.cells (turnV 2 nd nm g s).cells 28))) (by kernel_rfl) (by kernel_rfl) (by first | exact Below.refl _ _ | exact below_alloc1 _ _ | exact below_alloc2 _ _ _ | exact below_alloc3 _ _ _ _ | (repeat' (first | assumption | exact Below.refl _ _ | exact below_alloc1 _ _ | exact below_alloc2 _ _ _ | exact below_alloc3 _ _ _ _ | (refine Below.drew ?_) | (refine below_wb ?_ ?_) | omega | (simp; done)))) ?_
  (repeat (first | (apply wpR_val rfl; (focus (intro w1 hR; obtain ⟨hc, hf⟩ := bcellB hR; (try go_simp); (try exact Eq.refl _); done)); (try simp only [Act.put, List.setIfInBounds_toArray, List.set_cons_succ, List.set_cons_zero])) | (apply wpR_call rfl; (focus (intro w1 hR; obtain ⟨hc, hf⟩ := bcellB hR; (try go_simp); (try exact And.intro rfl rfl); done)); (focus (intro w1 hR; first | exact (rotate_calls g nm _).at_ (by first | omega | (simp; done) | (simp; omega)) hR | exact (refRotate_calls g nm _).at_ (by first | omega | (simp; done) | (simp; omega)) hR)); (try simp only [Act.put, List.setIfInBounds_toArray, List.set_cons_succ, List.set_cons_zero]))))
  refine wpR_nil (fun w' hw' => ?_)
  go_wp2_with fail
  go_ret
  exact ⟨rfl, (below_alloc1 _ _).trans (hw'.mono (by omega))⟩

set_option maxRecDepth 100000 in
set_option maxHeartbeats 1000000 in
theorem identGens_3 (nd nm : Int) (g s : G) (w : World) : Pur Try.prog 4 #[turnV 3 nd nm g s] w (.bool true) := by
  unfold Pur
  go_enter Try.func4, Try.ntmps4
  go_wp2_with fail
  refine wp_region_R (Below (w.heap.size + 1) (w.alloc (.cells (turnV 3 nd nm g s).cells 28))) (by kernel_rfl) (by kernel_rfl) (by first | exact Below.refl _ _ | exact below_alloc1 _ _ | exact below_alloc2 _ _ _ | exact below_alloc3 _ _ _ _ | (repeat' (first | assumption | exact Below.refl _ _ | exact below_alloc1 _ _ | exact below_alloc2 _ _ _ | exact below_alloc3 _ _ _ _ | (refine Below.drew ?_) | (refine below_wb ?_ ?_) | omega | (simp; done)))) ?_
  (repeat (first | (apply wpR_val rfl; (focus (intro w1 hR; obtain ⟨hc, hf⟩ := bcellB hR; (try go_simp); (try exact Eq.refl _); done)); (try simp only [Act.put, List.setIfInBounds_toArray, List.set_cons_succ, List.set_cons_zero])) | (apply wpR_call rfl; (focus (intro w1 hR; obtain ⟨hc, hf⟩ := bcellB hR; (try go_simp); (try exact And.intro rfl rfl); done)); (focus (intro w1 hR; first | exact (beginSource_calls g nm _).at_ (by first | omega | (simp; done) | (simp; omega)) hR | exact (refBeginSource_calls g nm _).at_ (by first | omega | (simp; done) | (simp; omega)) hR)); (try simp only [Act.put, List.setIfInBounds_toArray, List.set_cons_succ, List.set_cons_zero]))))
  refine wpR_nil (fun w' hw' => ?_)
  go_wp2_with fail
  go_ret
  exact ⟨rfl, (below_alloc1 _ _).trans (hw'.mono (by omega))⟩

set_option maxRecDepth 100000 in
set_option maxHeartbeats 1000000 in
theorem identGens_4 (nd nm : Int) (g s : G) (w : World) : Pur Try.prog 4 #[turnV 4 nd nm g s] w (.bool true) := by
  unfold Pur
  go_enter Try.func4, Try.ntmps4
  go_wp2_with fail
  refine wp_region_R (Below (w.heap.size + 1) (w.alloc (.cells (turnV 4 nd nm g s).cells 28))) (by kernel_rfl) (by kernel_rfl) (by first | exact Below.refl _ _ | exact below_alloc1 _ _ | exact below_alloc2 _ _ _ | exact below_alloc3 _ _ _ _ | (repeat' (first | assumption | exact Below.refl _ _ | exact below_alloc1 _ _ | exact below_alloc2 _ _ _ | exact below_alloc3 _ _ _ _ | (refine Below.drew ?_) | (refine below_wb ?_ ?_) | omega | (simp; done)))) ?_
  (repeat (first | (apply wpR_val rfl; (focus (intro w1 hR; obtain ⟨hc, hf⟩ := bcellB hR; (try go_simp); (try exact Eq.refl _); done)); (try simp only [Act.put, List.setIfInBounds_toArray, List.set_cons_succ, List.set_cons_zero])) | (apply wpR_call rfl; (focus (intro w1 hR; obtain ⟨hc, hf⟩ := bcellB hR; (try go_simp); (try exact And.intro rfl rfl); done)); (focus (intro w1 hR; first | exact (beginTarget_calls g s _).at_ (by first | omega | (simp; done) | (simp; omega)) hR | exact (refBeginTarget_calls g s _).at_ (by first | omega | (simp; done) | (simp; omega)) hR)); (try simp only [Act.put, List.setIfInBounds_toArray, List.set_cons_succ, List.set_cons_zero]))))
  refine wpR_nil (fun w' hw' => ?_)
  go_wp2_with fail
  go_ret
  exact ⟨rfl, (below_alloc1 _ _).trans (hw'.mono (by omega))⟩

set_option maxRecDepth 100000 in
set_option maxHeartbeats 1000000 in
theorem identGens_5 (nd nm : Int) (g s : G) (w : World) : Pur Try.prog 4 #[turnV 5 nd nm g s] w (.bool true) := by
  unfold Pur
  go_enter Try.func4, Try.ntmps4
  go_wp2_with fail
  refine wp_region_R (Below (w.heap.size + 1) (w.alloc (.cells (turnV 5 nd nm g s).cells 28))) (by kernel_rfl) (by kernel_rfl) (by first | exact Below.refl _ _ | exact below_alloc1 _ _ | exact below_alloc2 _ _ _ | exact below_alloc3 _ _ _ _ | (repeat' (first | assumption | exact Below.refl _ _ | exact below_alloc1 _ _ | exact below_alloc2 _ _ _ | exact below_alloc3 _ _ _ _ | (refine Below.drew ?_) | (refine below_wb ?_ ?_) | omega | (simp; done)))) ?_
  (repeat (first | (apply wpR_val rfl; (focus (intro w1 hR; obtain ⟨hc, hf⟩ := bcellB hR; (try go_simp); (try exact Eq.refl _); done)); (try simp only [Act.put, List.setIfInBounds_toArray, List.set_cons_succ, List.set_cons_zero])) | (apply wpR_call rfl; (focus (intro w1 hR; obtain ⟨hc, hf⟩ := bcellB hR; (try go_simp); (try exact And.intro rfl rfl); done)); (focus (intro w1 hR; first | exact (endSource_calls g _).at_ (by first | omega | (simp; done) | (simp; omega)) hR | exact (refEndSource_calls g _).at_ (by first | omega | (simp; done) | (simp; omega)) hR)); (try simp only [Act.put, List.setIfInBounds_toArray, List.set_cons_succ, List.set_cons_zero]))))
  refine wpR_nil (fun w' hw' => ?_)
  go_wp2_with fail
  go_ret
  exact ⟨rfl, (below_alloc1 _ _).trans (hw'.mono (by omega))⟩

set_option maxRecDepth 100000 in
set_option maxHeartbeats 1000000 in
theorem identGens_6 (nd nm : Int) (g s : G) (w : World) : Pur Try.prog 4 #[turnV 6 nd nm g s] w (.bool true) := by
  unfold Pur
  go_enter Try.func4, Try.ntmps4
  go_wp2_with fail
  refine wp_region_R (Below (w.heap.size + 1) (w.alloc (.cells (turnV 6 nd nm g s).cells 28))) (by kernel_rfl) (by kernel_rfl) (by first | exact Below.refl _ _ | exact below_alloc1 _ _ | exact below_alloc2 _ _ _ | exact below_alloc3 _ _ _ _ | (repeat' (first | assumption | exact Below.refl _ _ | exact below_alloc1 _ _ | exact below_alloc2 _ _ _ | exact below_alloc3 _ _ _ _ | (refine Below.drew ?_) | (refine below_wb ?_ ?_) | omega | (simp; done)))) ?_
  (repeat (first | (apply wpR_val rfl; (focus (intro w1 hR; obtain ⟨hc, hf⟩ := bcellB hR; (try go_simp); (try exact Eq.refl _); done)); (try simp only [Act.put, List.setIfInBounds_toArray, List.set_cons_succ, List.set_cons_zero])) | (apply wpR_call rfl; (focus (intro w1 hR; obtain ⟨hc, hf⟩ := bcellB hR; (try go_simp); (try exact And.intro rfl rfl); done)); (focus (intro w1 hR; first | exact (endTarget_calls g s _).at_ (by first | omega | (simp; done) | (simp; omega)) hR | exact (refEndTarget_calls g s _).at_ (by first | omega | (simp; done) | (simp; omega)) hR)); (try simp only [Act.put, List.setIfInBounds_toArray, List.set_cons_succ, List.set_cons_zero]))))
  refine wpR_nil (fun w' hw' => ?_)
  go_wp2_with fail
  go_ret
  exact ⟨rfl, (below_alloc1 _ _).trans (hw'.mono (by omega))⟩

set_option maxRecDepth 100000 in
set_option maxHeartbeats 1000000 in
theorem identGens_0 (kd nd nm : Int) (g s : G) (w : World) (h1 : (kd == 1) = false) (h2 : (kd == 2) = false) (h3 : (kd == 3) = false) (h4 : (kd == 4) = false) (h5 : (kd == 5) = false) (h6 : (kd == 6) = false) :
    Pur Try.prog 4 #[turnV kd nd nm g s] w (.bool true) := by
  unfold Pur
  go_enter Try.func4, Try.ntmps4
  go_wp2_with fail
  go_ret
  exact ⟨rfl, (by first | exact Below.refl _ _ | exact below_alloc1 _ _ | exact below_alloc2 _ _ _ | exact below_alloc3 _ _ _ _ | (repeat' (first | assumption | exact Below.refl _ _ | exact below_alloc1 _ _ | exact below_alloc2 _ _ _ | exact below_alloc3 _ _ _ _ | (refine Below.drew ?_) | (refine below_wb ?_ ?_) | omega | (simp; done))))⟩

theorem identGens_calls (kd nd nm : Int) (g s : G) (w : World) : Pur Try.prog 4 #[turnV kd nd nm g s] w (.bool true) := by
  by_cases h1 : kd = 1
  · subst h1; exact identGens_1 _ _ _ _ _
  by_cases h2 : kd = 2
  · subst h2; exact identGens_2 _ _ _ _ _
  by_cases h3 : kd = 3
  · subst h3; exact identGens_3 _ _ _ _ _
  by_cases h4 : kd = 4
  · subst h4; exact identGens_4 _ _ _ _ _
  by_cases h5 : kd = 5
  · subst h5; exact identGens_5 _ _ _ _ _
  by_cases h6 : kd = 6
  · subst h6; exact identGens_6 _ _ _ _ _
  exact identGens_0 kd nd nm g s w (by simpa using h1) (by simpa using h2) (by simpa using h3) (by simpa using h4) (by simpa using h5) (by simpa using h6)

theorem turn_leaves : leaves Try.prog 30 28 = some [.int .i64, .int .i64, .int .u64, .int .u64, .int .u64, .int .u64, .int .u64, .int .u64, .int .u64, .int .u64, .int .u64] := by kernel_rfl

set_option maxRecDepth 100000 in
theorem identGens_lifted (os : Os) (started : os.Started) (H : Type) (enc : TypeId × Value → H) :
    ReturnsInHanded {} Try.checked os 4 .any (Rows.identGensSpec.pre6 enc Try.prog Try.f4 Rows.identGensRow.domain false) (Rows.identGensSpec.post enc Try.prog Try.f4 false true false false) := by
  refine returnsInHanded_of_change_sized (C := Try.checked) seat_own started (by kernel_rfl) Try.func4
    (ChangeSpec.witness6 (enc := enc) (C := Try.checked) false ⟨#[], #[.agg #[.int .i64 0, .int .i64 0, .int .u64 0, .int .u64 0, .int .u64 0, .int .u64 0, .int .u64 0, .int .u64 0, .int .u64 0, .int .u64 0, .int .u64 0]], []⟩ 8 (by kernel_rfl) (by kernel_rfl) (by kernel_rfl) (by kernel_rfl)) ?_
  intro W base args ds gs before hval hW hcnd hsz _
  have hW' := hW
  obtain ⟨p, q, hA, hV, rfl, hfz, hnd⟩ := hW
  rw [Try.params4] at hA hval
  obtain ⟨v0, d0, rfl, rfl, h0⟩ := ChangeShapes.trodAll_one hA
  obtain ⟨rfl, rfl⟩ := ChangeShapes.trodVars_none hV
  obtain ⟨cs, rfl, hl⟩ := open_leaves turn_leaves (by kernel_rfl) (hval 0 _ v0 rfl rfl) h0
  obtain ⟨kd, cs, rfl, _, hl⟩ := hl.int
  obtain ⟨nd, cs, rfl, _, hl⟩ := hl.int
  obtain ⟨nm, cs, rfl, _, hl⟩ := hl.int
  obtain ⟨g1, cs, rfl, _, hl⟩ := hl.int
  obtain ⟨g2, cs, rfl, _, hl⟩ := hl.int
  obtain ⟨g3, cs, rfl, _, hl⟩ := hl.int
  obtain ⟨g4, cs, rfl, _, hl⟩ := hl.int
  obtain ⟨s1, cs, rfl, _, hl⟩ := hl.int
  obtain ⟨s2, cs, rfl, _, hl⟩ := hl.int
  obtain ⟨s3, cs, rfl, _, hl⟩ := hl.int
  obtain ⟨s4, cs, rfl, _, hl⟩ := hl.int
  obtain rfl := hl.unnil
  refine (identGens_calls kd nd nm ⟨g1, g2, g3, g4⟩ ⟨s1, s2, s3, s4⟩ W).out.mono fun e W' ⟨he, hb⟩ => ⟨_, he, ?_⟩
  exact law_post (tb := 4) seat_laid rfl rfl Try.underlying4 (by kernel_rfl) (fun l hl => by match l, hl with | [_], _ => rfl) hW' hb

theorem identGens_holds : Rows.IdentGensSaid :=
  OpenClaim.holds_of_wide 4 Try.f4 rfl rfl rfl rfl rfl rfl rfl ⟨rfl, rfl, rfl, rfl, rfl⟩ rfl rfl rfl rfl rfl (by kernel_rfl) Try.func4 (by kernel_rfl)
    (of_decide_eq_true (by kernel_rfl)) (by unfold Func.isWrapper; rw [if_neg (of_decide_eq_false (by kernel_rfl))]; exact ⟨rfl, rfl⟩)
    (fun os started H enc _ => identGens_lifted os started H enc)
#print axioms identGens_holds
end Go.Proofs.Ytboanmhibbhceaa
