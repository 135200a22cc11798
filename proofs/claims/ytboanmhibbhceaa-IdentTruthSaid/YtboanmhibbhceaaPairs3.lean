/- The fourteen rules, third part. -/
import Derived.Test.YtboanmhibbhceaaPairs2
import Derived.LoopN
namespace Go.Proofs.Ytboanmhibbhceaa
open Go.RowKit
set_option linter.unusedVariables false
set_option linter.unusedSimpArgs false

namespace Spec
def oneCounts (p : Pr) : Int := if mtch p.g.c p.h.c = true ∧ (p.g.b != 0) ≠ (p.h.b != 0) then source (p.g.b != 0) else -1
def bothAhead (p : Pr) : Int := if mtch p.g.b p.h.c = true ∧ mtch p.h.b p.g.c = true then 5 else -1
def oneAhead (p : Pr) : Int := if mtch p.g.b p.h.c ≠ mtch p.h.b p.g.c then source (mtch p.g.b p.h.c) else -1
def bothBehind (p : Pr) : Int := if old p.g.c p.h = true ∧ old p.h.c p.g = true then 6 else -1
def oneBehind (p : Pr) : Int := if old p.g.c p.h ≠ old p.h.c p.g then target (old p.g.c p.h) else -1
def rel (x : Int) (h : G) : Bool := mtch x h.b || old x h
def related (p : Pr) : Int := if rel p.g.b p.h = true ∨ rel p.g.o p.h = true ∨ rel p.g.p p.h = true then 6 else -1
end Spec

set_option maxRecDepth 100000 in
set_option maxHeartbeats 4000000 in
theorem oneCounts_calls (p : Pr) (w : World) : Pur Try.prog 56 #[.agg (pc p)] w (.int .i64 (Spec.oneCounts p)) := by
  unfold Pur
  obtain ⟨first, g, gx, h, hx⟩ := p
  cases e1 : Spec.mtch g.c h.c <;> cases e2 : (g.b != 0) <;> cases e3 : (h.b != 0)
  all_goals
    have H1 := Lib.hid e1
    have H2 := Lib.hid e2
    have H3 := Lib.hid e3
    clear e1
    go_enter Try.func56, Try.ntmps56
    go_wp2_with fail
    refine wp_region_R (Below (w.heap.size + 1) (w.alloc (.cells (pc ⟨first, g, gx, h, hx⟩) 68))) (by kernel_rfl) (by kernel_rfl) (by first | exact Below.refl _ _ | exact below_alloc1 _ _ | exact below_alloc2 _ _ _ | exact below_alloc3 _ _ _ _ | (repeat' (first | assumption | exact Below.refl _ _ | exact below_alloc1 _ _ | exact below_alloc2 _ _ _ | exact below_alloc3 _ _ _ _ | (refine Below.drew ?_) | (refine below_wb ?_ ?_) | (refine Below.alloc ?_ ?_ _) | omega | (simp; done) | (simp; omega)))) ?_
    (repeat (first | (apply wpR_pass rfl; (try simp only [Act.put, List.setIfInBounds_toArray, List.set_cons_succ, List.set_cons_zero])) | (apply wpR_val rfl; (focus (intro w1 hR; obtain ⟨hc, hf⟩ := bcellB hR; (try go_simp); (try exact Eq.refl _); done)); (try simp only [Act.put, List.setIfInBounds_toArray, List.set_cons_succ, List.set_cons_zero])) | (apply wpR_call rfl; (focus (intro w1 hR; obtain ⟨hc, hf⟩ := bcellB hR; (try go_simp); (try exact And.intro rfl rfl); done)); (focus (intro w1 hR; first | exact ().at_ (by first | omega | (simp; done) | (simp; omega)) hR)); (try simp only [Act.put, List.setIfInBounds_toArray, List.set_cons_succ, List.set_cons_zero])) | (apply wpR_val_want rfl; (focus (intro w1 hR; obtain ⟨hc, hf⟩ := bcellB hR; (try go_simp); (try exact Eq.refl _); done)); (try simp only [Act.put, List.setIfInBounds_toArray, List.set_cons_succ, List.set_cons_zero])) | (apply wpR_call_want rfl; (focus (intro w1 hR; obtain ⟨hc, hf⟩ := bcellB hR; (try go_simp); (try exact And.intro rfl rfl); done)); (focus (intro w1 hR; first | exact ().at_ (by first | omega | (simp; done) | (simp; omega)) hR)); (try simp only [Act.put, List.setIfInBounds_toArray, List.set_cons_succ, List.set_cons_zero]))))
    refine wpR_nil (fun w2 hb2 => ?_)
    obtain ⟨w3, rfl, hb3, hz0⟩ := behind_alloc1 (hb2.mono (by simp))
    clear hb2
    go_wp2_with (first | (go_at_call 75; refine (alike_calls ⟨_, g, _, h, _⟩ _).out.mono ?_; rw [H1.out]; rintro e w1 ⟨rfl, hb1⟩; (obtain ⟨w2, rfl, hb4, _, hy0⟩ := behind_wb1 (B := w.heap.size) hb1 hz0 (by omega)); have hb5 := hb3.trans hb4; clear hb1 hb3 hb4 hz0) | (go_at_call 50; go_in) | fail)
    all_goals go_ret
    all_goals exact ⟨ret_i64 (by simp [Spec.oneCounts, Spec.source, H1.out, H2.out, H3.out]), (by first | exact Below.refl _ _ | exact below_alloc1 _ _ | exact below_alloc2 _ _ _ | exact below_alloc3 _ _ _ _ | (repeat' (first | assumption | exact Below.refl _ _ | exact below_alloc1 _ _ | exact below_alloc2 _ _ _ | exact below_alloc3 _ _ _ _ | (refine Below.drew ?_) | (refine below_wb ?_ ?_) | (refine Below.alloc ?_ ?_ _) | omega | (simp; done) | (simp; omega))))⟩

set_option maxRecDepth 100000 in
set_option maxHeartbeats 4000000 in
theorem bothAhead_calls (p : Pr) (w : World) : Pur Try.prog 59 #[.agg (pc p)] w (.int .i64 (Spec.bothAhead p)) := by
  unfold Pur
  obtain ⟨first, g, gx, h, hx⟩ := p
  cases e1 : Spec.mtch g.b h.c <;> cases e2 : Spec.mtch h.b g.c
  all_goals
    have H1 := Lib.hid e1
    have H2 := Lib.hid e2
    clear e1 e2
    go_enter Try.func59, Try.ntmps59
    go_wp2_with (first | (go_at_call 76; refine (ahead_calls ⟨_, g, _, h, _⟩ _).out.mono ?_; rw [H1.out, H2.out]; rintro e w1 ⟨rfl, hb1⟩; obtain ⟨w2, rfl, hb3, hz0⟩ := behind_alloc1 hb1; clear hb1) | fail)
    all_goals go_ret
    all_goals exact ⟨ret_i64 (by simp [Spec.bothAhead, H1.out, H2.out]), (by first | exact Below.refl _ _ | exact below_alloc1 _ _ | exact below_alloc2 _ _ _ | exact below_alloc3 _ _ _ _ | (repeat' (first | assumption | exact Below.refl _ _ | exact below_alloc1 _ _ | exact below_alloc2 _ _ _ | exact below_alloc3 _ _ _ _ | (refine Below.drew ?_) | (refine below_wb ?_ ?_) | (refine Below.alloc ?_ ?_ _) | omega | (simp; done) | (simp; omega))))⟩

set_option maxRecDepth 100000 in
set_option maxHeartbeats 4000000 in
theorem oneAhead_calls (p : Pr) (w : World) : Pur Try.prog 60 #[.agg (pc p)] w (.int .i64 (Spec.oneAhead p)) := by
  unfold Pur
  obtain ⟨first, g, gx, h, hx⟩ := p
  cases e1 : Spec.mtch g.b h.c <;> cases e2 : Spec.mtch h.b g.c
  all_goals
    have H1 := Lib.hid e1
    have H2 := Lib.hid e2
    clear e1 e2
    go_enter Try.func60, Try.ntmps60
    go_wp2_with (first | (go_at_call 76; refine (ahead_calls ⟨_, g, _, h, _⟩ _).out.mono ?_; rw [H1.out, H2.out]; rintro e w1 ⟨rfl, hb1⟩; obtain ⟨w2, rfl, hb3, hz0⟩ := behind_alloc1 hb1; clear hb1) | (go_at_call 50; go_in) | fail)
    all_goals go_ret
    all_goals exact ⟨ret_i64 (by simp [Spec.oneAhead, Spec.source, H1.out, H2.out]), (by first | exact Below.refl _ _ | exact below_alloc1 _ _ | exact below_alloc2 _ _ _ | exact below_alloc3 _ _ _ _ | (repeat' (first | assumption | exact Below.refl _ _ | exact below_alloc1 _ _ | exact below_alloc2 _ _ _ | exact below_alloc3 _ _ _ _ | (refine Below.drew ?_) | (refine below_wb ?_ ?_) | (refine Below.alloc ?_ ?_ _) | omega | (simp; done) | (simp; omega))))⟩

set_option maxRecDepth 100000 in
set_option maxHeartbeats 4000000 in
theorem bothBehind_calls (p : Pr) (w : World) : Pur Try.prog 61 #[.agg (pc p)] w (.int .i64 (Spec.bothBehind p)) := by
  unfold Pur
  obtain ⟨first, g, gx, h, hx⟩ := p
  cases e1 : Spec.old g.c h <;> cases e2 : Spec.old h.c g
  all_goals
    have H1 := Lib.hid e1
    have H2 := Lib.hid e2
    clear e1 e2
    go_enter Try.func61, Try.ntmps61
    go_wp2_with (first | (go_at_call 77; refine (behind_calls ⟨_, g, _, h, _⟩ _).out.mono ?_; rw [H1.out, H2.out]; rintro e w1 ⟨rfl, hb1⟩; obtain ⟨w2, rfl, hb3, hz0⟩ := behind_alloc1 hb1; clear hb1) | fail)
    all_goals go_ret
    all_goals exact ⟨ret_i64 (by simp [Spec.bothBehind, H1.out, H2.out]), (by first | exact Below.refl _ _ | exact below_alloc1 _ _ | exact below_alloc2 _ _ _ | exact below_alloc3 _ _ _ _ | (repeat' (first | assumption | exact Below.refl _ _ | exact below_alloc1 _ _ | exact below_alloc2 _ _ _ | exact below_alloc3 _ _ _ _ | (refine Below.drew ?_) | (refine below_wb ?_ ?_) | (refine Below.alloc ?_ ?_ _) | omega | (simp; done) | (simp; omega))))⟩

set_option maxRecDepth 100000 in
set_option maxHeartbeats 4000000 in
theorem oneBehind_calls (p : Pr) (w : World) : Pur Try.prog 62 #[.agg (pc p)] w (.int .i64 (Spec.oneBehind p)) := by
  unfold Pur
  obtain ⟨first, g, gx, h, hx⟩ := p
  cases e1 : Spec.old g.c h <;> cases e2 : Spec.old h.c g
  all_goals
    have H1 := Lib.hid e1
    have H2 := Lib.hid e2
    clear e1 e2
    go_enter Try.func62, Try.ntmps62
    go_wp2_with (first | (go_at_call 77; refine (behind_calls ⟨_, g, _, h, _⟩ _).out.mono ?_; rw [H1.out, H2.out]; rintro e w1 ⟨rfl, hb1⟩; obtain ⟨w2, rfl, hb3, hz0⟩ := behind_alloc1 hb1; clear hb1) | (go_at_call 51; go_in) | fail)
    all_goals go_ret
    all_goals exact ⟨ret_i64 (by simp [Spec.oneBehind, Spec.target, H1.out, H2.out]), (by first | exact Below.refl _ _ | exact below_alloc1 _ _ | exact below_alloc2 _ _ _ | exact below_alloc3 _ _ _ _ | (repeat' (first | assumption | exact Below.refl _ _ | exact below_alloc1 _ _ | exact below_alloc2 _ _ _ | exact below_alloc3 _ _ _ _ | (refine Below.drew ?_) | (refine below_wb ?_ ?_) | (refine Below.alloc ?_ ?_ _) | omega | (simp; done) | (simp; omega))))⟩

theorem ix97_0 (a b c : Int) : ∀ w, (Instr.index 97 (.agg #[.int .u64 a, .int .u64 b, .int .u64 c]) (.int .i64 0)).run Try.prog w = .ok (.int .u64 a) w := fun _ => by kernel_rfl
theorem ix97_1 (a b c : Int) : ∀ w, (Instr.index 97 (.agg #[.int .u64 a, .int .u64 b, .int .u64 c]) (.int .i64 1)).run Try.prog w = .ok (.int .u64 b) w := fun _ => by kernel_rfl
theorem ix97_2 (a b c : Int) : ∀ w, (Instr.index 97 (.agg #[.int .u64 a, .int .u64 b, .int .u64 c]) (.int .i64 2)).run Try.prog w = .ok (.int .u64 c) w := fun _ => by kernel_rfl

theorem rel_cases (a b c : Int) (h : G) : Spec.mtch a h.b = true ∨ (Spec.mtch a h.b = false ∧ Spec.old a h = true) ∨ (Spec.mtch a h.b = false ∧ Spec.old a h = false ∧ Spec.mtch b h.b = true) ∨ (Spec.mtch a h.b = false ∧ Spec.old a h = false ∧ Spec.mtch b h.b = false ∧ Spec.old b h = true)
    ∨ (Spec.mtch a h.b = false ∧ Spec.old a h = false ∧ Spec.mtch b h.b = false ∧ Spec.old b h = false ∧ Spec.mtch c h.b = true) ∨ (Spec.mtch a h.b = false ∧ Spec.old a h = false ∧ Spec.mtch b h.b = false ∧ Spec.old b h = false ∧ Spec.mtch c h.b = false ∧ Spec.old c h = true)
    ∨ (Spec.mtch a h.b = false ∧ Spec.old a h = false ∧ Spec.mtch b h.b = false ∧ Spec.old b h = false ∧ Spec.mtch c h.b = false ∧ Spec.old c h = false) := by
  cases Spec.mtch a h.b <;> cases Spec.old a h <;> cases Spec.mtch b h.b <;> cases Spec.old b h <;> cases Spec.mtch c h.b <;> cases Spec.old c h <;> simp

set_option maxRecDepth 100000 in
set_option maxHeartbeats 4000000 in
theorem related_calls (p : Pr) (w : World) : Pur Try.prog 64 #[.agg (pc p)] w (.int .i64 (Spec.related p)) := by
  unfold Pur
  obtain ⟨first, g, gx, h, hx⟩ := p
  have i0 := ix97_0 g.b g.o g.p
  have i1 := ix97_1 g.b g.o g.p
  have i2 := ix97_2 g.b g.o g.p
  rcases rel_cases g.b g.o g.p h with e1 | ⟨e1, e2⟩ | ⟨e1, e2, e3⟩ | ⟨e1, e2, e3, e4⟩ | ⟨e1, e2, e3, e4, e5⟩ | ⟨e1, e2, e3, e4, e5, e6⟩ | ⟨e1, e2, e3, e4, e5, e6⟩
  all_goals
    have H1 := Lib.hid e1
    have H2 := H1
    have H3 := H1
    have H4 := H1
    have H5 := H1
    have H6 := H1
    (try have H2 := Lib.hid e2)
    (try have H3 := Lib.hid e3)
    (try have H4 := Lib.hid e4)
    (try have H5 := Lib.hid e5)
    (try have H6 := Lib.hid e6)
    clear e1
    (try clear e2)
    (try clear e3)
    (try clear e4)
    (try clear e5)
    (try clear e6)
    go_enter Try.func64, Try.ntmps64
    go_wp2_with fail
    refine wp_loop_rounds 4 ?_
    (repeat (rw [rounds_succ]; go_wp2_with (first | (go_at_call 78; refine (match_calls _ _ _).out.mono ?_; (first | rw [H1.out] | rw [H3.out] | rw [H5.out]); rintro e w1 ⟨rfl, hb1⟩; first | (obtain ⟨w2, rfl, hb3, hz0⟩ := behind_alloc1 hb1; clear hb1) | (obtain ⟨w4, rfl, hb4, _, hy0⟩ := behind_wb1 (B := w.heap.size) hb1 hz0 (by omega); have hb6 := hb3.trans hb4; clear hb1 hb3 hb4 hz0; have hb3 := hb6; have hz0 := hy0; clear hb6 hy0)) | (go_at_call 79; refine (old_calls _ _ _).out.mono ?_; (first | rw [H2.out] | rw [H4.out] | rw [H6.out]); rintro e w1 ⟨rfl, hb1⟩; (obtain ⟨w4, rfl, hb4, _, hy0⟩ := behind_wb1 (B := w.heap.size) hb1 hz0 (by omega); have hb6 := hb3.trans hb4; clear hb1 hb3 hb4 hz0; have hb3 := hb6; have hz0 := hy0; clear hb6 hy0)) | fail)))
    all_goals go_ret
    all_goals exact ⟨ret_i64 (by simp [Spec.related, Spec.rel, H1.out, H2.out, H3.out, H4.out, H5.out, H6.out]), (by first | exact Below.refl _ _ | exact below_alloc1 _ _ | exact below_alloc2 _ _ _ | exact below_alloc3 _ _ _ _ | (repeat' (first | assumption | exact Below.refl _ _ | exact below_alloc1 _ _ | exact below_alloc2 _ _ _ | exact below_alloc3 _ _ _ _ | (refine Below.drew ?_) | (refine below_wb ?_ ?_) | (refine Below.alloc ?_ ?_ _) | omega | (simp; done) | (simp; omega))))⟩
end Go.Proofs.Ytboanmhibbhceaa
