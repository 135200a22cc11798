/- Compare answers as the document says, whatever the two sides. -/
import Derived.Test.YtboanmhibbhceaaCompLaw
import Derived.Test.YtboanmhibbhceaaComp2
namespace Go.Proofs.Ytboanmhibbhceaa
open Go.RowKit
set_option linter.unusedVariables false
set_option linter.unusedSimpArgs false

set_option maxRecDepth 100000 in
set_option maxHeartbeats 4000000 in
theorem refCompare_calls (node own peer : Int) (g h : G) (w : World) (a b : Int) (hv : Spec.compare ⟨node == 0, g, Go.bits .and .u32 own 8 != 0, h, Go.bits .and .u32 peer 8 != 0⟩ = (a, b)) :
    Pur Try.prog 23 #[.int .i64 node, .agg (gc g), .int .u32 own, .agg (gc h), .int .u32 peer] w (vv2 (a, b)) := by
  unfold Pur
  cases e : (node == 0)
  · rw [e, cmp_peer] at hv
    obtain ⟨x, y, hx⟩ : ∃ x y, Spec.first h (Go.bits .and .u32 peer 8 != 0) g (Go.bits .and .u32 own 8 != 0) = (x, y) := ⟨_, _, rfl⟩
    rw [hx] at hv
    obtain ⟨rfl, rfl⟩ := Prod.mk.inj hv
    have H := Lib.hid hx
    clear hx hv
    go_enter Try.func23, Try.ntmps23
    go_wp2_with (first
      | (go_at_call 36; refine (refFirst_calls _ _ _ _ _).out.mono ?_; rw [H.out]; rintro e w1 ⟨rfl, hb1⟩; obtain ⟨w2, rfl, hb3, hz0, hz1, hz2⟩ := behind_alloc3 hb1; clear hb1; have hn0 := Nat.ne_of_lt hz0; have hn1 := Nat.ne_of_lt hz1; have hn2 := Nat.ne_of_lt hz2; have hn0s := Ne.symm hn0; have hn1s := Ne.symm hn1; have hn2s := Ne.symm hn2)
      | (go_at_call 34; refine (refMirror_calls _ _ _).out.mono ?_; rintro e w1 ⟨rfl, hb1⟩; obtain ⟨w4, rfl, hb4, hy0, hy1, hy2, hy3⟩ := behind_wb3_new (B := w.heap.size) hb1 hz0 hz1 hz2 (by omega) (by omega) (by omega) (by omega) (by omega) (by omega); have hb6 := hb3.trans hb4; clear hb1; have hm0 := Nat.ne_of_lt hy0; have hm1 := Nat.ne_of_lt hy1; have hm2 := Nat.ne_of_lt hy2; have hm3 := Nat.ne_of_lt hy3)
      | fail)
    exact bodyPost_ret (v := vv2 (Spec.mirror x, y)) (by simp [results, Try.results23, go_sem, hy0, hy1, hy2, hy3, hn0, hn1, hn2, hn0s, hn1s, hn2s]) rfl ⟨rfl, (by first | exact Below.refl _ _ | exact below_alloc1 _ _ | exact below_alloc2 _ _ _ | exact below_alloc3 _ _ _ _ | (repeat' (first | assumption | exact Below.refl _ _ | exact below_alloc1 _ _ | exact below_alloc2 _ _ _ | exact below_alloc3 _ _ _ _ | (refine Below.drew ?_) | (refine below_wb ?_ ?_) | (refine Below.alloc ?_ ?_ _) | omega | (simp; done) | (simp; omega))))⟩
  · rw [e, cmp_own] at hv
    have H := Lib.hid hv
    clear hv
    go_enter Try.func23, Try.ntmps23
    go_wp2_with (first
      | (go_at_call 36; refine (refFirst_calls _ _ _ _ _).out.mono ?_; rw [H.out]; rintro e w1 ⟨rfl, hb1⟩; obtain ⟨w2, rfl, hb3, hz0, hz1, hz2⟩ := behind_alloc3 hb1; clear hb1)
      | fail)
    exact bodyPost_ret (v := vv2 (a, b)) (by simp [results, Try.results23, go_sem, hz0, hz1, hz2]) rfl ⟨rfl, (by first | exact Below.refl _ _ | exact below_alloc1 _ _ | exact below_alloc2 _ _ _ | exact below_alloc3 _ _ _ _ | (repeat' (first | assumption | exact Below.refl _ _ | exact below_alloc1 _ _ | exact below_alloc2 _ _ _ | exact below_alloc3 _ _ _ _ | (refine Below.drew ?_) | (refine below_wb ?_ ?_) | (refine Below.alloc ?_ ?_ _) | omega | (simp; done) | (simp; omega))))⟩

set_option maxRecDepth 100000 in
set_option maxHeartbeats 4000000 in
theorem identCompares_calls (node own peer : Int) (g h : G) (w : World) : Pur Try.prog 6 #[.int .i64 node, .agg (gc g), .int .u32 own, .agg (gc h), .int .u32 peer] w (.bool true) := by
  unfold Pur
  obtain ⟨a, b, hv⟩ : ∃ a b, Spec.compare ⟨node == 0, g, Go.bits .and .u32 own 8 != 0, h, Go.bits .and .u32 peer 8 != 0⟩ = (a, b) := ⟨_, _, rfl⟩
  have H := Lib.hid hv
  clear hv
  go_enter Try.func6, Try.ntmps6
  go_wp2_with (first
    | (go_at_call 22; refine (compare_calls _ _ _ _ _ _).out.mono ?_; rw [H.out]; rintro e w1 ⟨rfl, hb1⟩; obtain ⟨w2, rfl, hb3, hz0, hz1⟩ := behind_alloc2 hb1; clear hb1; have hn0 := Nat.ne_of_lt hz0; have hn1 := Nat.ne_of_lt hz1)
    | fail)
  refine wp_region_here (by kernel_rfl) (by kernel_rfl) ?_
  (repeat (first | (apply wpR_pass rfl; (try simp only [Act.put, List.setIfInBounds_toArray, List.set_cons_succ, List.set_cons_zero])) | (apply wpR_val rfl; (focus (intro w1 hR; obtain ⟨hc, hf⟩ := bcellB hR; (try go_simp); (try exact Eq.refl _); done)); (try simp only [Act.put, List.setIfInBounds_toArray, List.set_cons_succ, List.set_cons_zero])) | (apply wpR_call rfl; (focus (intro w1 hR; obtain ⟨hc, hf⟩ := bcellB hR; (try go_simp); (try exact And.intro rfl rfl); done)); (focus (intro w1 hR; first | exact (refCompare_calls _ _ _ _ _ _ a b H.out).at_ (by first | omega | (simp; done) | (simp; omega)) hR)); (try simp only [Act.put, List.setIfInBounds_toArray, List.set_cons_succ, List.set_cons_zero])) | (apply wpR_val_want rfl; (focus (intro w1 hR; obtain ⟨hc, hf⟩ := bcellB hR; (try go_simp); (try exact Eq.refl _); done)); (try simp only [Act.put, List.setIfInBounds_toArray, List.set_cons_succ, List.set_cons_zero])) | (apply wpR_call_want rfl; (focus (intro w1 hR; obtain ⟨hc, hf⟩ := bcellB hR; (try go_simp); (try exact And.intro rfl rfl); done)); (focus (intro w1 hR; first | exact (refCompare_calls _ _ _ _ _ _ a b H.out).at_ (by first | omega | (simp; done) | (simp; omega)) hR)); (try simp only [Act.put, List.setIfInBounds_toArray, List.set_cons_succ, List.set_cons_zero]))))
  refine wpR_nil (fun w' hw' => ?_)
  go_wp2_with fail
  go_ret
  exact ⟨rfl, (below_wb (below_wb (Below.alloc hb3 (by omega) _) (by omega)) (by omega)).trans (hw'.mono (by simp; omega))⟩

section
open Go.ChangeShapes
variable {H : Type} {enc : TypeId × Value → H} {P : Program} {w : World} {base : Nat} {spare : Nat → Bool} {held : Bool}
theorem trodAll_five {t t' t'' t3 t4 : TypeId} {args : Array Value} {ds : List (DataW H)} {ps : List MemPlace} (h : DataW.TrodAll enc P w base spare held [t, t', t'', t3, t4] args.toList ds ps) :
    ∃ v v' v'' v3 v4 d d' d'' d3 d4 p p' p'' p3 p4, args = #[v, v', v'', v3, v4] ∧ ds = [d, d', d'', d3, d4] ∧ DataW.Trod enc P w base spare held t v d p ∧ DataW.Trod enc P w base spare held t' v' d' p' ∧ DataW.Trod enc P w base spare held t'' v'' d'' p'' ∧ DataW.Trod enc P w base spare held t3 v3 d3 p3 ∧ DataW.Trod enc P w base spare held t4 v4 d4 p4 := by
  obtain ⟨v, vs, d, ds', p, q, hargs, rfl, rfl, hd, hrest⟩ := trodAll_cons h
  obtain ⟨v', vs', d', ds'', p', q', rfl, rfl, rfl, hd', hrest'⟩ := trodAll_cons hrest
  obtain ⟨v'', vs'', d'', ds''', p'', q'', rfl, rfl, rfl, hd'', hrest''⟩ := trodAll_cons hrest'
  obtain ⟨v3, vs3, d3, ds3, p3, q3, rfl, rfl, rfl, hd3, hrest3⟩ := trodAll_cons hrest''
  obtain ⟨v4, vs4, d4, ds4, p4, q4, rfl, rfl, rfl, hd4, hrest4⟩ := trodAll_cons hrest3
  obtain ⟨rfl, rfl, rfl⟩ := trodAll_nil hrest4
  exact ⟨v, v', v'', v3, v4, d, d', d'', d3, d4, p, p', p'', p3, p4, by cases args; simp_all, rfl, hd, hd', hd'', hd3, hd4⟩
end

theorem gens_leaves : leaves Try.prog 30 26 = some [.int .u64, .int .u64, .int .u64, .int .u64] := by kernel_rfl
theorem cu3 : Try.prog.underlying 3 = some (.int .i64) := by kernel_rfl
theorem cu35 : Try.prog.underlying 35 = some (.int .u32) := by kernel_rfl

set_option maxRecDepth 100000 in
theorem identCompares_lifted (os : Os) (started : os.Started) (H : Type) (enc : TypeId × Value → H) :
    ReturnsInHanded {} Try.checked os 6 .any (Rows.identComparesSpec.pre6 enc Try.prog Try.f6 Rows.identComparesRow.domain false) (Rows.identComparesSpec.post enc Try.prog Try.f6 false true false false) := by
  refine returnsInHanded_of_change_sized (C := Try.checked) seat_own started (by kernel_rfl) Try.func6
    (ChangeSpec.witness6 (enc := enc) (C := Try.checked) false ⟨#[], #[.int .i64 0, .agg #[.int .u64 0, .int .u64 0, .int .u64 0, .int .u64 0], .int .u32 0, .agg #[.int .u64 0, .int .u64 0, .int .u64 0, .int .u64 0], .int .u32 0], []⟩ 8 (by kernel_rfl) (by kernel_rfl) (by kernel_rfl) (by kernel_rfl)) ?_
  intro W base args ds gs before hval hW hcnd hsz _
  have hW' := hW
  obtain ⟨p, q, hA, hV, rfl, hfz, hnd⟩ := hW
  rw [Try.params6] at hA hval
  obtain ⟨v0, v1, v2, v3, v4, d0, d1, d2, d3, d4, p0, p1, p2, p3, p4, rfl, rfl, h0, h1, h2, h3, h4⟩ := trodAll_five hA
  obtain ⟨rfl, rfl⟩ := ChangeShapes.trodVars_none hV
  obtain ⟨node, rfl, _, _, _⟩ := ChangeShapes.open_int cu3 (hval 0 _ v0 rfl rfl) h0
  obtain ⟨cs, rfl, hl⟩ := open_leaves gens_leaves (by kernel_rfl) (hval 1 _ v1 rfl rfl) h1
  obtain ⟨g1, cs, rfl, _, hl⟩ := hl.int
  obtain ⟨g2, cs, rfl, _, hl⟩ := hl.int
  obtain ⟨g3, cs, rfl, _, hl⟩ := hl.int
  obtain ⟨g4, cs, rfl, _, hl⟩ := hl.int
  obtain rfl := hl.unnil
  obtain ⟨own, rfl, _, _, _⟩ := ChangeShapes.open_int cu35 (hval 2 _ v2 rfl rfl) h2
  obtain ⟨cs, rfl, hl⟩ := open_leaves gens_leaves (by kernel_rfl) (hval 3 _ v3 rfl rfl) h3
  obtain ⟨s1, cs, rfl, _, hl⟩ := hl.int
  obtain ⟨s2, cs, rfl, _, hl⟩ := hl.int
  obtain ⟨s3, cs, rfl, _, hl⟩ := hl.int
  obtain ⟨s4, cs, rfl, _, hl⟩ := hl.int
  obtain rfl := hl.unnil
  obtain ⟨peer, rfl, _, _, _⟩ := ChangeShapes.open_int cu35 (hval 4 _ v4 rfl rfl) h4
  refine (identCompares_calls node own peer ⟨g1, g2, g3, g4⟩ ⟨s1, s2, s3, s4⟩ W).out.mono fun e W' ⟨he, hb⟩ => ⟨_, he, ?_⟩
  exact law_post (tb := 4) seat_laid rfl rfl Try.underlying4 (by kernel_rfl) (fun l hl => by match l, hl with | [_, _, _, _, _], _ => rfl) hW' hb

theorem identCompares_holds : Rows.IdentComparesSaid :=
  OpenClaim.holds_of_wide 6 Try.f6 rfl rfl rfl rfl rfl rfl rfl ⟨rfl, rfl, rfl, rfl, rfl⟩ rfl rfl rfl rfl rfl (by kernel_rfl) Try.func6 (by kernel_rfl)
    (of_decide_eq_true (by kernel_rfl)) (by unfold Func.isWrapper; rw [if_neg (of_decide_eq_false (by kernel_rfl))]; exact ⟨rfl, rfl⟩)
    (fun os started H enc _ => identCompares_lifted os started H enc)
#print axioms identCompares_holds
end Go.Proofs.Ytboanmhibbhceaa
