-- PRINTED BY print.sh 35421559b90ae4d0a3588c463048766b98c2df88dd9212a6774a882060cdf62d: not written by this session
import Derived.Test.YtboanmhibbhceaaPIdentFreshUnlikex0
namespace Go.Proofs.Ytboanmhibbhceaa.PIdentFreshUnlike
open Go.RowKit Go.Proofs.YtboanmhibbhceaaW.PrintWords Go.Proofs.YtboanmhibbhceaaW.PrintLast Go.Proofs.YtboanmhibbhceaaW.PrintMore
attribute [local go_sem] max2_int min2_int max_two min_two max_three min_three max_four min_four   -- for this text's walks alone
set_option linter.unusedVariables false
set_option linter.unusedSimpArgs false

/-! ### ident_Fresh: function 8 -/
def ident_Fresh.f (a0 : Int) (a1 : Int) : Option (Int) := some (IntKind.u64.wrap ((IntKind.u64.wrap ((IntKind.u64.wrap (32 * a1)) + (IntKind.u64.wrap (16 * (IntKind.u64.wrap (Go.bits .and .i64 a0 1)))))) + 8))
set_option maxHeartbeats 8000000 in
set_option maxRecDepth 100000 in
theorem ident_Fresh.calls (a0 : Int) (a1 : Int) (r : Int) (w : World) (h : ident_Fresh.f a0 a1 = some r) :
    Calls Try.prog 8 #[.int .i64 a0, .int .u64 a1] w fun e w' => e = .returned (.int .u64 r) ∧ Drawn0 w w' := by
  have H : (some (IntKind.u64.wrap ((IntKind.u64.wrap ((IntKind.u64.wrap (32 * a1)) + (IntKind.u64.wrap (16 * (IntKind.u64.wrap (Go.bits .and .i64 a0 1)))))) + 8))) = some r := h
  clear h
  obtain rfl := Option.some.inj H
  go_enter Try.func8, Try.ntmps8
  go_wp2
  go_ret
  exact ⟨by first | rfl | (simp; done) | (simp [*]; done), by repeat (first | exact Drawn0.refl _ | apply Drawn0.step)⟩

/-! ### replicalaw06_IdentFreshUnlike: function 3 -/
mutual
def replicalaw06_IdentFreshUnlike.j0 : Nat → Bool → Int → Bool → Int → Bool → Option (Bool)
  | 0, _, _, _, _, _ => none
  | k + 1, x0, x1, x2, x3, x21 => if x21 = true then (some true) else (if x0 = true then (replicalaw06_IdentFreshUnlike.j1 k x1 x2 x3 1) else (replicalaw06_IdentFreshUnlike.j1 k x1 x2 x3 0))
def replicalaw06_IdentFreshUnlike.j1 : Nat → Int → Bool → Int → Int → Option (Bool)
  | 0, _, _, _, _ => none
  | k + 1, x1, x2, x3, x10 => if x2 = true then (replicalaw06_IdentFreshUnlike.j2 k x1 x3 x10 1) else (replicalaw06_IdentFreshUnlike.j2 k x1 x3 x10 0)
def replicalaw06_IdentFreshUnlike.j2 : Nat → Int → Int → Int → Int → Option (Bool)
  | 0, _, _, _, _ => none
  | k + 1, x1, x3, x10, x11 => (ident_Fresh.f x10 x1).bind fun t101 => ((ident_Fresh.f x11 x3).bind fun t102 => (if t101 = 0 then (some false) else (if t101 = 4 then (some false) else (if t102 = 0 then (some false) else (if t102 = 4 then (some false) else (if x10 = x11 then (some ((t101 == t102) == (x1 == x3))) else (some ((t101 == t102) == false))))))))
end
def replicalaw06_IdentFreshUnlike.f (k : Nat) (a0 : Bool) (a1 : Int) (a2 : Bool) (a3 : Int) : Option (Bool) := if a1 ≥ 576460752303423488 then (replicalaw06_IdentFreshUnlike.j0 k a0 a1 a2 a3 true) else (replicalaw06_IdentFreshUnlike.j0 k a0 a1 a2 a3 (decide (a3 ≥ 576460752303423488)))
theorem replicalaw06_IdentFreshUnlike.mono_l : ∀ k, (∀ y0 y1 y2 y3 y4, LeO (replicalaw06_IdentFreshUnlike.j0 k y0 y1 y2 y3 y4) (replicalaw06_IdentFreshUnlike.j0 (k + 1) y0 y1 y2 y3 y4)) ∧ (∀ y0 y1 y2 y3, LeO (replicalaw06_IdentFreshUnlike.j1 k y0 y1 y2 y3) (replicalaw06_IdentFreshUnlike.j1 (k + 1) y0 y1 y2 y3)) ∧ (∀ y0 y1 y2 y3, LeO (replicalaw06_IdentFreshUnlike.j2 k y0 y1 y2 y3) (replicalaw06_IdentFreshUnlike.j2 (k + 1) y0 y1 y2 y3))
  | 0 => ⟨fun _ _ _ _ _ r h => by simp [replicalaw06_IdentFreshUnlike.j0] at h, fun _ _ _ _ r h => by simp [replicalaw06_IdentFreshUnlike.j1] at h, fun _ _ _ _ r h => by simp [replicalaw06_IdentFreshUnlike.j2] at h⟩
  | k + 1 => by
    obtain ⟨ih0, ih1, ih2⟩ := replicalaw06_IdentFreshUnlike.mono_l k
    refine ⟨?_, ?_, ?_⟩
    · intro y0 y1 y2 y3 y4
      unfold replicalaw06_IdentFreshUnlike.j0
      repeat' first
      | (with_reducible exact ih0 _ _ _ _ _)
      | (with_reducible exact ih1 _ _ _ _)
      | (with_reducible exact ih2 _ _ _ _)
      | (with_reducible exact LeO.refl _)
      | (with_reducible exact LeO.none _)
      | (with_reducible refine LeO.ite ?_ ?_)
      | (with_reducible refine LeO.bind ?_ (fun _ => ?_))
      | exact ih0 _ _ _ _ _
      | exact ih1 _ _ _ _
      | exact ih2 _ _ _ _
      | exact LeO.none _
      | refine LeO.ite ?_ ?_
      | refine LeO.bind ?_ (fun _ => ?_)
    · intro y0 y1 y2 y3
      unfold replicalaw06_IdentFreshUnlike.j1
      repeat' first
      | (with_reducible exact ih0 _ _ _ _ _)
      | (with_reducible exact ih1 _ _ _ _)
      | (with_reducible exact ih2 _ _ _ _)
      | (with_reducible exact LeO.refl _)
      | (with_reducible exact LeO.none _)
      | (with_reducible refine LeO.ite ?_ ?_)
      | (with_reducible refine LeO.bind ?_ (fun _ => ?_))
      | exact ih0 _ _ _ _ _
      | exact ih1 _ _ _ _
      | exact ih2 _ _ _ _
      | exact LeO.none _
      | refine LeO.ite ?_ ?_
      | refine LeO.bind ?_ (fun _ => ?_)
    · intro y0 y1 y2 y3
      unfold replicalaw06_IdentFreshUnlike.j2
      repeat' first
      | (with_reducible exact ih0 _ _ _ _ _)
      | (with_reducible exact ih1 _ _ _ _)
      | (with_reducible exact ih2 _ _ _ _)
      | (with_reducible exact LeO.refl _)
      | (with_reducible exact LeO.none _)
      | (with_reducible refine LeO.ite ?_ ?_)
      | (with_reducible refine LeO.bind ?_ (fun _ => ?_))
      | exact ih0 _ _ _ _ _
      | exact ih1 _ _ _ _
      | exact ih2 _ _ _ _
      | exact LeO.none _
      | refine LeO.ite ?_ ?_
      | refine LeO.bind ?_ (fun _ => ?_)
theorem replicalaw06_IdentFreshUnlike.mono : ∀ a0 a1 a2 a3 k, LeO (replicalaw06_IdentFreshUnlike.f k a0 a1 a2 a3) (replicalaw06_IdentFreshUnlike.f (k + 1) a0 a1 a2 a3) := by
  intro a0 a1 a2 a3 k
  obtain ⟨ih0, ih1, ih2⟩ := replicalaw06_IdentFreshUnlike.mono_l k
  unfold replicalaw06_IdentFreshUnlike.f
  repeat' first
      | (with_reducible exact ih0 _ _ _ _ _)
      | (with_reducible exact ih1 _ _ _ _)
      | (with_reducible exact ih2 _ _ _ _)
      | (with_reducible exact LeO.refl _)
      | (with_reducible exact LeO.none _)
      | (with_reducible refine LeO.ite ?_ ?_)
      | (with_reducible refine LeO.bind ?_ (fun _ => ?_))
      | exact ih0 _ _ _ _ _
      | exact ih1 _ _ _ _
      | exact ih2 _ _ _ _
      | exact LeO.none _
      | refine LeO.ite ?_ ?_
      | refine LeO.bind ?_ (fun _ => ?_)
set_option maxHeartbeats 8000000 in
set_option maxRecDepth 100000 in
theorem replicalaw06_IdentFreshUnlike.calls (k : Nat) (a0 : Bool) (a1 : Int) (a2 : Bool) (a3 : Int) (r : Bool) (w : World) (h : replicalaw06_IdentFreshUnlike.f k a0 a1 a2 a3 = some r) :
    Calls Try.prog 3 #[.bool a0, .int .u64 a1, .bool a2, .int .u64 a3] w fun e w' => e = .returned (.bool r) ∧ Drawn0 w w' := by
  have H : (if a1 ≥ 576460752303423488 then (replicalaw06_IdentFreshUnlike.j0 k a0 a1 a2 a3 true) else (replicalaw06_IdentFreshUnlike.j0 k a0 a1 a2 a3 (decide (a3 ≥ 576460752303423488)))) = some r := h
  clear h
  have HC5 := Aside0.mk H
  clear H
  go_enter Try.func3, Try.ntmps3
  go_upto_region 2 with (fail)
  go_cut [21] (fun v21 wc => ∃ (kq : Nat) (x21_4 : Bool), v21 = .bool x21_4 ∧ Aside0 (replicalaw06_IdentFreshUnlike.j0 kq a0 a1 a2 a3 x21_4 = some r) ∧ Aside0 (kq ≤ k) ∧ Drawn0 w wc)
  case first =>
    have H := HC5.out
    clear HC5
    by_cases c6 : a1 ≥ 576460752303423488
    · rw [if_pos c6] at H
      have c6b0 : decide (576460752303423488 ≤ a1) = true := decide_eq_true c6
      clear c6
      (first | rw [c6b0] | (simp only [i64_w, i32_w]; rw [c6b0]) | skip)
      have H' := Aside0.mk H
      clear H
      go_wp2
      go_meet
      case rel => exact ⟨_, (true), (by first | rfl | (simp; done) | (simp [*]; done)), H', ⟨by first | omega | exact Nat.le_refl _⟩, by repeat (first | exact Drawn0.refl _ | apply Drawn0.step)⟩
    · rw [if_neg c6] at H
      have c6b0 : decide (576460752303423488 ≤ a1) = false := decide_eq_false c6
      clear c6
      (first | rw [c6b0] | (simp only [i64_w, i32_w]; rw [c6b0]) | skip)
      have H' := Aside0.mk H
      clear H
      go_wp2
      go_meet
      case rel => exact ⟨_, (decide (a3 ≥ 576460752303423488)), (by first | rfl | (simp; done) | (simp [*]; done)), H', ⟨by first | omega | exact Nat.le_refl _⟩, by repeat (first | exact Drawn0.refl _ | apply Drawn0.step)⟩
  case rest =>
    clear HC5
    try clear p2
    try clear c3
    try clear c6
    try clear c6b0
    obtain ⟨kq, x21_4, rfl, HA, HJ4, ⟨mc4, rfl⟩⟩ := hcut
    cases kq with
    | zero => exact absurd HA.out (by simp [replicalaw06_IdentFreshUnlike.j0])
    | succ kj4 =>
      have H := HA.out
      clear HA
      simp only [replicalaw06_IdentFreshUnlike.j0] at H
      by_cases c7 : x21_4 = true
      · subst c7
        have H1 : (some true) = some r := by rw [if_pos rfl] at H; exact H
        clear H
        have H := H1
        clear H1
        obtain rfl := Option.some.inj H
        go_wp2
        go_ret
        exact ⟨by first | rfl | (simp; done) | (simp [*]; done), by repeat (first | exact Drawn0.refl _ | apply Drawn0.step)⟩
      · replace c7 := Bool.eq_false_iff.mpr c7
        subst c7
        have H1 : (if a0 = true then (replicalaw06_IdentFreshUnlike.j1 kj4 a1 a2 a3 1) else (replicalaw06_IdentFreshUnlike.j1 kj4 a1 a2 a3 0)) = some r := by rw [if_neg (show ¬ (false = true) by decide)] at H; exact H
        clear H
        have H := H1
        clear H1
        have HC8 := Aside0.mk H
        clear H
        go_upto_if 22 with (fail)
        go_cut [10] (fun v10 wc => ∃ (kq : Nat) (x10_7 : Int), v10 = .int .i64 x10_7 ∧ Aside0 (replicalaw06_IdentFreshUnlike.j1 kq a1 a2 a3 x10_7 = some r) ∧ Aside0 (kq ≤ kj4) ∧ Drawn0 w wc)
        case first =>
          have H := HC8.out
          clear HC8
          by_cases c9 : a0 = true
          · subst c9
            have H1 : (replicalaw06_IdentFreshUnlike.j1 kj4 a1 a2 a3 1) = some r := by rw [if_pos rfl] at H; exact H
            clear H
            have H := H1
            clear H1
            have H' := Aside0.mk H
            clear H
            go_wp2
            go_meet
            case rel => exact ⟨_, (1), (by first | rfl | (simp; done) | (simp [*]; done)), H', ⟨by have := HJ4.out; first | omega | exact Nat.le_refl _⟩, by repeat (first | exact Drawn0.refl _ | apply Drawn0.step)⟩
          · replace c9 := Bool.eq_false_iff.mpr c9
            subst c9
            have H1 : (replicalaw06_IdentFreshUnlike.j1 kj4 a1 a2 a3 0) = some r := by rw [if_neg (show ¬ (false = true) by decide)] at H; exact H
            clear H
            have H := H1
            clear H1
            have H' := Aside0.mk H
            clear H
            go_wp2
            go_meet
            case rel => exact ⟨_, (0), (by first | rfl | (simp; done) | (simp [*]; done)), H', ⟨by have := HJ4.out; first | omega | exact Nat.le_refl _⟩, by repeat (first | exact Drawn0.refl _ | apply Drawn0.step)⟩
        case rest =>
          clear HC8
          try clear p2
          try clear c3
          try clear c4
          try clear c6
          try clear c6b0
          try clear c7
          try clear c9
          try clear p2
          obtain ⟨kq, x10_7, rfl, HA, HJ7, ⟨mc7, rfl⟩⟩ := hcut
          cases kq with
          | zero => exact absurd HA.out (by simp [replicalaw06_IdentFreshUnlike.j1])
          | succ kj7 =>
            have H := HA.out
            clear HA
            simp only [replicalaw06_IdentFreshUnlike.j1] at H
            have HC10 := Aside0.mk H
            clear H
            go_upto_if 23 with (fail)
            go_cut [11] (fun v11 wc => ∃ (kq : Nat) (x11_9 : Int), v11 = .int .i64 x11_9 ∧ Aside0 (replicalaw06_IdentFreshUnlike.j2 kq a1 a3 x10_7 x11_9 = some r) ∧ Aside0 (kq ≤ kj7) ∧ Drawn0 w wc)
            case first =>
              have H := HC10.out
              clear HC10
              by_cases c11 : a2 = true
              · subst c11
                have H1 : (replicalaw06_IdentFreshUnlike.j2 kj7 a1 a3 x10_7 1) = some r := by rw [if_pos rfl] at H; exact H
                clear H
                have H := H1
                clear H1
                have H' := Aside0.mk H
                clear H
                go_wp2
                go_meet
                case rel => exact ⟨_, (1), (by first | rfl | (simp; done) | (simp [*]; done)), H', ⟨by have := HJ4.out; have := HJ7.out; first | omega | exact Nat.le_refl _⟩, by repeat (first | exact Drawn0.refl _ | apply Drawn0.step)⟩
              · replace c11 := Bool.eq_false_iff.mpr c11
                subst c11
                have H1 : (replicalaw06_IdentFreshUnlike.j2 kj7 a1 a3 x10_7 0) = some r := by rw [if_neg (show ¬ (false = true) by decide)] at H; exact H
                clear H
                have H := H1
                clear H1
                have H' := Aside0.mk H
                clear H
                go_wp2
                go_meet
                case rel => exact ⟨_, (0), (by first | rfl | (simp; done) | (simp [*]; done)), H', ⟨by have := HJ4.out; have := HJ7.out; first | omega | exact Nat.le_refl _⟩, by repeat (first | exact Drawn0.refl _ | apply Drawn0.step)⟩
            case rest =>
              clear HC10
              try clear c1
              try clear p2
              try clear c3
              try clear c4
              try clear c6
              try clear c6b0
              try clear c7
              try clear c9
              try clear c11
              try clear p2
              obtain ⟨kq, x11_9, rfl, HA, HJ9, ⟨mc9, rfl⟩⟩ := hcut
              cases kq with
              | zero => exact absurd HA.out (by simp [replicalaw06_IdentFreshUnlike.j2])
              | succ kj9 =>
                have H := HA.out
                clear HA
                simp only [replicalaw06_IdentFreshUnlike.j2] at H
                replace H := Option.bind_eq_some_iff.mp H
                obtain ⟨t101, A120, H⟩ := H
                replace H : ((ident_Fresh.f x11_9 a3).bind fun t102 => (if t101 = 0 then (some false) else (if t101 = 4 then (some false) else (if t102 = 0 then (some false) else (if t102 = 4 then (some false) else (if x10_7 = x11_9 then (some ((t101 == t102) == (a1 == a3))) else (some ((t101 == t102) == false)))))))) = some r := H
                have A12 := Aside0.mk A120
                clear A120
                replace H := Option.bind_eq_some_iff.mp H
                obtain ⟨t102, A130, H⟩ := H
                replace H : (if t101 = 0 then (some false) else (if t101 = 4 then (some false) else (if t102 = 0 then (some false) else (if t102 = 4 then (some false) else (if x10_7 = x11_9 then (some ((t101 == t102) == (a1 == a3))) else (some ((t101 == t102) == false))))))) = some r := H
                have A13 := Aside0.mk A130
                clear A130
                by_cases c14 : t101 = 0
                · rw [if_pos c14] at H
                  have c14b0 : (t101 == 0) = true := beq_iff_eq.mpr c14
                  have c14b1 : (t101 != 0) = false := bne_eq_false_iff_eq.mpr c14
                  clear c14
                  obtain rfl := Option.some.inj H
                  go_wp2_with (first | ((with_reducible refine gate_callee (f := 8) rfl ?_); refine goesL_ (some 26) rfl rfl Try.func8 (by kernel_rfl) rfl #[.int .i64 x10_7, .int .u64 a1] rfl (by (try simp only [List.map_toArray, List.map_cons, List.map_nil]); first | done | rfl | (simp only [List.length_drop, List.length_take]; rfl)) ?_; (with_reducible refine (ident_Fresh.calls x10_7 a1 t101 _ A12.out).mono ?_); rintro e w' ⟨rfl, ⟨nd, rfl⟩⟩; refine ⟨_, rfl, ?_⟩) | ((with_reducible refine gate_callee (f := 8) rfl ?_); refine goesL_ (some 29) rfl rfl Try.func8 (by kernel_rfl) rfl #[.int .i64 x11_9, .int .u64 a3] rfl (by (try simp only [List.map_toArray, List.map_cons, List.map_nil]); first | done | rfl | (simp only [List.length_drop, List.length_take]; rfl)) ?_; (with_reducible refine (ident_Fresh.calls x11_9 a3 t102 _ A13.out).mono ?_); rintro e w' ⟨rfl, ⟨nd, rfl⟩⟩; refine ⟨_, rfl, ?_⟩))
                  go_ret
                  exact ⟨by first | rfl | (simp; done) | (simp [*]; done), by repeat (first | exact Drawn0.refl _ | apply Drawn0.step)⟩
                · rw [if_neg c14] at H
                  have c14b0 : (t101 == 0) = false := beq_eq_false_iff_ne.mpr c14
                  have c14b1 : (t101 != 0) = true := bne_iff_ne.mpr c14
                  by_cases c15 : t101 = 4
                  · rw [if_pos c15] at H
                    have c15b0 : (t101 == 4) = true := beq_iff_eq.mpr c15
                    have c15b1 : (t101 != 4) = false := bne_eq_false_iff_eq.mpr c15
                    clear c15
                    obtain rfl := Option.some.inj H
                    go_wp2_with (first | ((with_reducible refine gate_callee (f := 8) rfl ?_); refine goesL_ (some 26) rfl rfl Try.func8 (by kernel_rfl) rfl #[.int .i64 x10_7, .int .u64 a1] rfl (by (try simp only [List.map_toArray, List.map_cons, List.map_nil]); first | done | rfl | (simp only [List.length_drop, List.length_take]; rfl)) ?_; (with_reducible refine (ident_Fresh.calls x10_7 a1 t101 _ A12.out).mono ?_); rintro e w' ⟨rfl, ⟨nd, rfl⟩⟩; refine ⟨_, rfl, ?_⟩) | ((with_reducible refine gate_callee (f := 8) rfl ?_); refine goesL_ (some 29) rfl rfl Try.func8 (by kernel_rfl) rfl #[.int .i64 x11_9, .int .u64 a3] rfl (by (try simp only [List.map_toArray, List.map_cons, List.map_nil]); first | done | rfl | (simp only [List.length_drop, List.length_take]; rfl)) ?_; (with_reducible refine (ident_Fresh.calls x11_9 a3 t102 _ A13.out).mono ?_); rintro e w' ⟨rfl, ⟨nd, rfl⟩⟩; refine ⟨_, rfl, ?_⟩))
                    go_ret
                    exact ⟨by first | rfl | (simp; done) | (simp [*]; done), by repeat (first | exact Drawn0.refl _ | apply Drawn0.step)⟩
                  · rw [if_neg c15] at H
                    have c15b0 : (t101 == 4) = false := beq_eq_false_iff_ne.mpr c15
                    have c15b1 : (t101 != 4) = true := bne_iff_ne.mpr c15
                    by_cases c16 : t102 = 0
                    · rw [if_pos c16] at H
                      have c16b0 : (t102 == 0) = true := beq_iff_eq.mpr c16
                      have c16b1 : (t102 != 0) = false := bne_eq_false_iff_eq.mpr c16
                      clear c16
                      obtain rfl := Option.some.inj H
                      go_wp2_with (first | ((with_reducible refine gate_callee (f := 8) rfl ?_); refine goesL_ (some 26) rfl rfl Try.func8 (by kernel_rfl) rfl #[.int .i64 x10_7, .int .u64 a1] rfl (by (try simp only [List.map_toArray, List.map_cons, List.map_nil]); first | done | rfl | (simp only [List.length_drop, List.length_take]; rfl)) ?_; (with_reducible refine (ident_Fresh.calls x10_7 a1 t101 _ A12.out).mono ?_); rintro e w' ⟨rfl, ⟨nd, rfl⟩⟩; refine ⟨_, rfl, ?_⟩) | ((with_reducible refine gate_callee (f := 8) rfl ?_); refine goesL_ (some 29) rfl rfl Try.func8 (by kernel_rfl) rfl #[.int .i64 x11_9, .int .u64 a3] rfl (by (try simp only [List.map_toArray, List.map_cons, List.map_nil]); first | done | rfl | (simp only [List.length_drop, List.length_take]; rfl)) ?_; (with_reducible refine (ident_Fresh.calls x11_9 a3 t102 _ A13.out).mono ?_); rintro e w' ⟨rfl, ⟨nd, rfl⟩⟩; refine ⟨_, rfl, ?_⟩))
                      go_ret
                      exact ⟨by first | rfl | (simp; done) | (simp [*]; done), by repeat (first | exact Drawn0.refl _ | apply Drawn0.step)⟩
                    · rw [if_neg c16] at H
                      have c16b0 : (t102 == 0) = false := beq_eq_false_iff_ne.mpr c16
                      have c16b1 : (t102 != 0) = true := bne_iff_ne.mpr c16
                      by_cases c17 : t102 = 4
                      · rw [if_pos c17] at H
                        have c17b0 : (t102 == 4) = true := beq_iff_eq.mpr c17
                        have c17b1 : (t102 != 4) = false := bne_eq_false_iff_eq.mpr c17
                        clear c17
                        obtain rfl := Option.some.inj H
                        go_wp2_with (first | ((with_reducible refine gate_callee (f := 8) rfl ?_); refine goesL_ (some 26) rfl rfl Try.func8 (by kernel_rfl) rfl #[.int .i64 x10_7, .int .u64 a1] rfl (by (try simp only [List.map_toArray, List.map_cons, List.map_nil]); first | done | rfl | (simp only [List.length_drop, List.length_take]; rfl)) ?_; (with_reducible refine (ident_Fresh.calls x10_7 a1 t101 _ A12.out).mono ?_); rintro e w' ⟨rfl, ⟨nd, rfl⟩⟩; refine ⟨_, rfl, ?_⟩) | ((with_reducible refine gate_callee (f := 8) rfl ?_); refine goesL_ (some 29) rfl rfl Try.func8 (by kernel_rfl) rfl #[.int .i64 x11_9, .int .u64 a3] rfl (by (try simp only [List.map_toArray, List.map_cons, List.map_nil]); first | done | rfl | (simp only [List.length_drop, List.length_take]; rfl)) ?_; (with_reducible refine (ident_Fresh.calls x11_9 a3 t102 _ A13.out).mono ?_); rintro e w' ⟨rfl, ⟨nd, rfl⟩⟩; refine ⟨_, rfl, ?_⟩))
                        go_ret
                        exact ⟨by first | rfl | (simp; done) | (simp [*]; done), by repeat (first | exact Drawn0.refl _ | apply Drawn0.step)⟩
                      · rw [if_neg c17] at H
                        have c17b0 : (t102 == 4) = false := beq_eq_false_iff_ne.mpr c17
                        have c17b1 : (t102 != 4) = true := bne_iff_ne.mpr c17
                        by_cases c18 : x10_7 = x11_9
                        · rw [if_pos c18] at H
                          have c18b0 : (x10_7 == x11_9) = true := beq_iff_eq.mpr c18
                          have c18b1 : (x10_7 != x11_9) = false := bne_eq_false_iff_eq.mpr c18
                          clear c18
                          obtain rfl := Option.some.inj H
                          go_wp2_with (first | ((with_reducible refine gate_callee (f := 8) rfl ?_); refine goesL_ (some 26) rfl rfl Try.func8 (by kernel_rfl) rfl #[.int .i64 x10_7, .int .u64 a1] rfl (by (try simp only [List.map_toArray, List.map_cons, List.map_nil]); first | done | rfl | (simp only [List.length_drop, List.length_take]; rfl)) ?_; (with_reducible refine (ident_Fresh.calls x10_7 a1 t101 _ A12.out).mono ?_); rintro e w' ⟨rfl, ⟨nd, rfl⟩⟩; refine ⟨_, rfl, ?_⟩) | ((with_reducible refine gate_callee (f := 8) rfl ?_); refine goesL_ (some 29) rfl rfl Try.func8 (by kernel_rfl) rfl #[.int .i64 x11_9, .int .u64 a3] rfl (by (try simp only [List.map_toArray, List.map_cons, List.map_nil]); first | done | rfl | (simp only [List.length_drop, List.length_take]; rfl)) ?_; (with_reducible refine (ident_Fresh.calls x11_9 a3 t102 _ A13.out).mono ?_); rintro e w' ⟨rfl, ⟨nd, rfl⟩⟩; refine ⟨_, rfl, ?_⟩))
                          go_ret
                          exact ⟨by first | rfl | (simp; done) | (simp [*]; done), by repeat (first | exact Drawn0.refl _ | apply Drawn0.step)⟩
                        · rw [if_neg c18] at H
                          have c18b0 : (x10_7 == x11_9) = false := beq_eq_false_iff_ne.mpr c18
                          have c18b1 : (x10_7 != x11_9) = true := bne_iff_ne.mpr c18
                          obtain rfl := Option.some.inj H
                          go_wp2_with (first | ((with_reducible refine gate_callee (f := 8) rfl ?_); refine goesL_ (some 26) rfl rfl Try.func8 (by kernel_rfl) rfl #[.int .i64 x10_7, .int .u64 a1] rfl (by (try simp only [List.map_toArray, List.map_cons, List.map_nil]); first | done | rfl | (simp only [List.length_drop, List.length_take]; rfl)) ?_; (with_reducible refine (ident_Fresh.calls x10_7 a1 t101 _ A12.out).mono ?_); rintro e w' ⟨rfl, ⟨nd, rfl⟩⟩; refine ⟨_, rfl, ?_⟩) | ((with_reducible refine gate_callee (f := 8) rfl ?_); refine goesL_ (some 29) rfl rfl Try.func8 (by kernel_rfl) rfl #[.int .i64 x11_9, .int .u64 a3] rfl (by (try simp only [List.map_toArray, List.map_cons, List.map_nil]); first | done | rfl | (simp only [List.length_drop, List.length_take]; rfl)) ?_; (with_reducible refine (ident_Fresh.calls x11_9 a3 t102 _ A13.out).mono ?_); rintro e w' ⟨rfl, ⟨nd, rfl⟩⟩; refine ⟨_, rfl, ?_⟩))
                          go_ret
                          exact ⟨by first | rfl | (simp; done) | (simp [*]; done), by repeat (first | exact Drawn0.refl _ | apply Drawn0.step)⟩

/-- THE ONE PURE STATEMENT of replicalaw06_IdentFreshUnlike: yours. -/
def replicalaw06_IdentFreshUnlike.Pure : Prop := ∀ (a0 : Bool) (a1 : Int) (a2 : Bool) (a3 : Int), (Lit.int .u64 a1).wf = true → (Lit.int .u64 a3).wf = true → ∃ k, replicalaw06_IdentFreshUnlike.f k a0 a1 a2 a3 = some true
theorem replicalaw06_IdentFreshUnlike.walk (P : replicalaw06_IdentFreshUnlike.Pure) (a0 : Bool) (a1 : Int) (a2 : Bool) (a3 : Int) (w : World) (w1 : (Lit.int .u64 a1).wf = true) (w3 : (Lit.int .u64 a3).wf = true) :
    Calls Try.prog 3 #[.bool a0, .int .u64 a1, .bool a2, .int .u64 a3] w fun e w' => e = .returned (.bool true) ∧ Below w.heap.size w w' := by
  obtain ⟨k, h⟩ := P a0 a1 a2 a3 w1 w3
  refine (replicalaw06_IdentFreshUnlike.calls k a0 a1 a2 a3 true w h).mono ?_
  rintro e w' ⟨rfl, hd⟩
  exact ⟨rfl, hd.below⟩

end Go.Proofs.Ytboanmhibbhceaa.PIdentFreshUnlike
