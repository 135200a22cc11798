/- The Book: do all lists hold what they must? (Printed by wip/w7gen/mkbk.py.) -/
import Derived.Test.YtbgfoobcpacfeaaDoorPk8
import Derived.Test.YtbgfoobcpacfeaaDoorBkLib
namespace Go.Proofs.YtbgfoobcpacfeaaDoor
open Go.RowKit
set_option maxRecDepth 100000
set_option linter.unusedVariables false
set_option linter.unusedSimpArgs false
/-- A loop of 'holds', behind i lists: the frame, and the world grown. -/
def HoldI (r : Nat) (w : World) (s : Nat) (i : Nat) (a : Act) (w' : World) : Prop :=
  (∃ U : Nat → Value, a = if s = 3 then ⟨#[.pointer (some ⟨r, 0, none⟩), U 1, .bool false, .int .i64 i, U 4, U 5, U 6, U 7, U 8, U 9, U 10, U 11, U 12, U 13, U 14, U 15, U 16, U 17, U 18, U 19, U 20, U 21, U 22, U 23, U 24, U 25, U 26, U 27, U 28, U 29, U 30, U 31, U 32, U 33, U 34, U 35, U 36, U 37, U 38, U 39, U 40, U 41, U 42, U 43, U 44, U 45, U 46, U 47, U 48, U 49, U 50, U 51, U 52, U 53, U 54], []⟩ else ⟨#[.pointer (some ⟨r, 0, none⟩), U 1, .bool false, U 3, .int .i64 i, U 5, U 6, U 7, U 8, U 9, U 10, U 11, U 12, U 13, U 14, U 15, U 16, U 17, U 18, U 19, U 20, U 21, U 22, U 23, U 24, U 25, U 26, U 27, U 28, U 29, U 30, U 31, U 32, U 33, U 34, U 35, U 36, U 37, U 38, U 39, U 40, U 41, U 42, U 43, U 44, U 45, U 46, U 47, U 48, U 49, U 50, U 51, U 52, U 53, U 54], []⟩) ∧ Below w.heap.size w w'
/-- What a round reads. -/
theorem row_round {w : World} {r B : Nat} {own : Nat → Nat} {v : Nat → Value} {V : Nat → List Value} {m : Int} (h : Bk w r B own v V m) {j k : Nat} (hj : j < 4) (hk : k < 4) (hA : Alike w (V j) (V k)) {i : Nat} (hi : i < (V j).length) :
    ∃ g cap g' cap' p n c p' c', v j = .slice (some ⟨g, 0, none⟩) (V j).length cap ∧ v k = .slice (some ⟨g', 0, none⟩) (V j).length cap' ∧ g < w.heap.size ∧ g' < w.heap.size ∧ w.cell? ⟨g, i, none⟩ = some (.slice p n c) ∧ w.cell? ⟨g', i, none⟩ = some (.slice p' n c') ∧
      ∀ w', Below w.heap.size w w' → Pur Tryd.prog 22 #[.slice p n c, .slice p' n c'] w' (.bool true) := by
  have hi' : i < (V k).length := by rw [← hA.1]; exact hi
  obtain ⟨l, ha, hb⟩ := hA.2 i _ _ (List.getElem?_eq_getElem hi) (List.getElem?_eq_getElem hi')
  obtain ⟨g, cap, e, hg, hc⟩ := (h.row j hj).get (List.getElem?_eq_getElem hi)
  obtain ⟨g', cap', e', hg', hc'⟩ := (h.row k hk).get (List.getElem?_eq_getElem hi')
  obtain ⟨p, c, ef⟩ := ha.form
  obtain ⟨p', c', ef'⟩ := hb.form
  rw [ef] at hc ha
  rw [ef'] at hc' hb
  rw [← hA.1] at e'
  exact ⟨g, cap, g', cap', p, l.length, c, p', c', e, e', hg, hg', hc, hc', fun w' hw => same_calls (ha.below hw) (hb.below hw)⟩

set_option maxHeartbeats 8000000 in
theorem bholds_calls {w : World} {r B : Nat} {own : Nat → Nat} {v : Nat → Value} {V : Nat → List Value} {m : Int} (h : Bk w r B own v V m) (h0 : Alike w (V 0) (V 1)) (h2 : Alike w (V 2) (V 3)) : Pur Tryd.prog 37 #[.pointer (some ⟨r, 0, none⟩)] w (.bool true) := by
  unfold Pur
  have hrl := h.lt
  have Hr0 := Lib.hid (fun (i : Nat) (hi : i < (V 0).length) => row_round h (j := 0) (k := 1) (by decide) (by decide) h0 hi)
  have Hr2 := Lib.hid (fun (i : Nat) (hi : i < (V 2).length) => row_round h (j := 2) (k := 3) (by decide) (by decide) h2 hi)
  have hc0 := h.cell 0 _ rfl
  have hc1 := h.cell 1 _ rfl
  have hc2 := h.cell 2 _ rfl
  have hc3 := h.cell 3 _ rfl
  obtain ⟨p0, k0, e0⟩ := (h.row 0 (by decide)).form
  obtain ⟨p2, k2, e2⟩ := (h.row 2 (by decide)).form
  rw [e0] at hc0 Hr0
  rw [e2] at hc2 Hr2
  have hln0 : (V 0).length ≤ 9223372036854775807 := by
    obtain ⟨_, ⟨_, e⟩ | ⟨_, cap, _, _, _, _, h1, h2, _⟩⟩ := h.row 0 (by decide)
    · omega
    · have : maxLen = 9223372036854775807 := rfl
      omega
  have hln2 : (V 2).length ≤ 9223372036854775807 := by
    obtain ⟨_, ⟨_, e⟩ | ⟨_, cap, _, _, _, _, h1, h2, _⟩⟩ := h.row 2 (by decide)
    · omega
    · have : maxLen = 9223372036854775807 := rfl
      omega
  clear h h0 h2 e0 e2
  generalize (V 0).length = n0 at *
  generalize (V 2).length = n2 at *
  generalize v 1 = v1 at *
  generalize v 3 = v3 at *
  go_enter Tryd.func37, Tryd.ntmps37
  go_wp2_with fail
  refine wp_loop_count (HoldI r w 3) n0 ⟨exU (fun U => ⟨#[.pointer (some ⟨r, 0, none⟩), U 1, .bool false, .int .i64 0, U 4, U 5, U 6, U 7, U 8, U 9, U 10, U 11, U 12, U 13, U 14, U 15, U 16, U 17, U 18, U 19, U 20, U 21, U 22, U 23, U 24, U 25, U 26, U 27, U 28, U 29, U 30, U 31, U 32, U 33, U 34, U 35, U 36, U 37, U 38, U 39, U 40, U 41, U 42, U 43, U 44, U 45, U 46, U 47, U 48, U 49, U 50, U 51, U 52, U 53, U 54], []⟩) rfl, Below.refl _ _⟩ ?_ ?_
  · rintro i a w' hi ⟨⟨U, rfl⟩, hb⟩
    obtain ⟨g, cap, g', cap', p, ln, c, p', c', ea, eb, hg, hg', hca, hcb, hsame⟩ := Hr0.out i hi
    rw [ea] at hc0
    rw [eb] at hc1
    have ha0 := (bcell hb).1 r 0 hrl
    have hb1 := (bcell hb).1 r 1 hrl
    rw [hc0] at ha0
    rw [hc1] at hb1
    have hx := ((bcell hb).1 g i hg).trans hca
    have hy := ((bcell hb).1 g' i hg').trans hcb
    have hs := hb.size
    have hrl' : r < w'.heap.size := Nat.lt_of_lt_of_le hrl hs
    have hgl' : g < w'.heap.size := Nat.lt_of_lt_of_le hg hs
    have hgl2' : g' < w'.heap.size := Nat.lt_of_lt_of_le hg' hs
    have hi0 : (0 : Int) ≤ (i : Int) := Int.natCast_nonneg i
    have hiI : (i : Int) < (n0 : Int) := by omega
    have hw6 : IntKind.i64.wrap ((i : Int) + 1) = (i : Int) + 1 := IntWalk.i64_in _ ⟨by omega, by omega⟩
    have Hsame := Lib.hid (fun (w1 : World) (hR : Below w'.heap.size w' w1) => hsame w1 (hb.trans (hR.mono hs)))
    clear hc0 hc1 ea eb hca hcb hsame hi
    go_wp2_with fail
    refine wp_region_here (by kernel_rfl) (by kernel_rfl) ?_
    (repeat (first | (apply wpR_pass rfl; (try simp only [Act.put, List.setIfInBounds_toArray, List.set_cons_succ, List.set_cons_zero])) | (apply wpR_val rfl; (focus (intro w1 hR; obtain ⟨hc, hf⟩ := bcellB hR; (try go_simp); (try exact Eq.refl _); done)); (try simp only [Act.put, List.setIfInBounds_toArray, List.set_cons_succ, List.set_cons_zero])) | (apply wpR_call rfl; (focus (intro w1 hR; obtain ⟨hc, hf⟩ := bcellB hR; (try go_simp); (try exact And.intro rfl rfl); done)); (focus (intro w1 hR; first | exact (Hsame.out w1 hR).at_ (by first | omega | (simp; done) | (simp; omega)) hR)); (try simp only [Act.put, List.setIfInBounds_toArray, List.set_cons_succ, List.set_cons_zero])) | (apply wpR_val_want rfl; (focus (intro w1 hR; obtain ⟨hc, hf⟩ := bcellB hR; (try go_simp); (try exact Eq.refl _); done)); (try simp only [Act.put, List.setIfInBounds_toArray, List.set_cons_succ, List.set_cons_zero])) | (apply wpR_call_want rfl; (focus (intro w1 hR; obtain ⟨hc, hf⟩ := bcellB hR; (try go_simp); (try exact And.intro rfl rfl); done)); (focus (intro w1 hR; first | exact (Hsame.out w1 hR).at_ (by first | omega | (simp; done) | (simp; omega)) hR)); (try simp only [Act.put, List.setIfInBounds_toArray, List.set_cons_succ, List.set_cons_zero]))))
    refine wpR_nil ?_
    intro w2 hb2
    clear ha0 hb1 hx hy
    go_wp2_with fail
    exact ⟨exU (fun U => ⟨#[.pointer (some ⟨r, 0, none⟩), U 1, .bool false, .int .i64 (i + 1 : Nat), U 4, U 5, U 6, U 7, U 8, U 9, U 10, U 11, U 12, U 13, U 14, U 15, U 16, U 17, U 18, U 19, U 20, U 21, U 22, U 23, U 24, U 25, U 26, U 27, U 28, U 29, U 30, U 31, U 32, U 33, U 34, U 35, U 36, U 37, U 38, U 39, U 40, U 41, U 42, U 43, U 44, U 45, U 46, U 47, U 48, U 49, U 50, U 51, U 52, U 53, U 54], []⟩) rfl, hb.trans (hb2.mono hs)⟩
  · rintro a w' ⟨⟨U, rfl⟩, hb0⟩
    have ha0 := (bcell hb0).1 r 0 hrl
    rw [hc0] at ha0
    have hrl' : r < w'.heap.size := Nat.lt_of_lt_of_le hrl hb0.size
    go_wp2_with fail
    clear ha0 hc0 hc1
    refine wp_loop_count (HoldI r w 4) n2 ⟨exU (fun U => ⟨#[.pointer (some ⟨r, 0, none⟩), U 1, .bool false, U 3, .int .i64 0, U 5, U 6, U 7, U 8, U 9, U 10, U 11, U 12, U 13, U 14, U 15, U 16, U 17, U 18, U 19, U 20, U 21, U 22, U 23, U 24, U 25, U 26, U 27, U 28, U 29, U 30, U 31, U 32, U 33, U 34, U 35, U 36, U 37, U 38, U 39, U 40, U 41, U 42, U 43, U 44, U 45, U 46, U 47, U 48, U 49, U 50, U 51, U 52, U 53, U 54], []⟩) rfl, hb0⟩ ?_ ?_
    · rintro i a w' hi ⟨⟨U, rfl⟩, hb⟩
      obtain ⟨g, cap, g', cap', p, ln, c, p', c', ea, eb, hg, hg', hca, hcb, hsame⟩ := Hr2.out i hi
      rw [ea] at hc2
      rw [eb] at hc3
      have ha0 := (bcell hb).1 r 2 hrl
      have hb1 := (bcell hb).1 r 3 hrl
      rw [hc2] at ha0
      rw [hc3] at hb1
      have hx := ((bcell hb).1 g i hg).trans hca
      have hy := ((bcell hb).1 g' i hg').trans hcb
      have hs := hb.size
      have hrl' : r < w'.heap.size := Nat.lt_of_lt_of_le hrl hs
      have hgl' : g < w'.heap.size := Nat.lt_of_lt_of_le hg hs
      have hgl2' : g' < w'.heap.size := Nat.lt_of_lt_of_le hg' hs
      have hi0 : (0 : Int) ≤ (i : Int) := Int.natCast_nonneg i
      have hiI : (i : Int) < (n2 : Int) := by omega
      have hw6 : IntKind.i64.wrap ((i : Int) + 1) = (i : Int) + 1 := IntWalk.i64_in _ ⟨by omega, by omega⟩
      have Hsame := Lib.hid (fun (w1 : World) (hR : Below w'.heap.size w' w1) => hsame w1 (hb.trans (hR.mono hs)))
      clear hc2 hc3 ea eb hca hcb hsame hi
      go_wp2_with fail
      refine wp_region_here (by kernel_rfl) (by kernel_rfl) ?_
      (repeat (first | (apply wpR_pass rfl; (try simp only [Act.put, List.setIfInBounds_toArray, List.set_cons_succ, List.set_cons_zero])) | (apply wpR_val rfl; (focus (intro w1 hR; obtain ⟨hc, hf⟩ := bcellB hR; (try go_simp); (try exact Eq.refl _); done)); (try simp only [Act.put, List.setIfInBounds_toArray, List.set_cons_succ, List.set_cons_zero])) | (apply wpR_call rfl; (focus (intro w1 hR; obtain ⟨hc, hf⟩ := bcellB hR; (try go_simp); (try exact And.intro rfl rfl); done)); (focus (intro w1 hR; first | exact (Hsame.out w1 hR).at_ (by first | omega | (simp; done) | (simp; omega)) hR)); (try simp only [Act.put, List.setIfInBounds_toArray, List.set_cons_succ, List.set_cons_zero])) | (apply wpR_val_want rfl; (focus (intro w1 hR; obtain ⟨hc, hf⟩ := bcellB hR; (try go_simp); (try exact Eq.refl _); done)); (try simp only [Act.put, List.setIfInBounds_toArray, List.set_cons_succ, List.set_cons_zero])) | (apply wpR_call_want rfl; (focus (intro w1 hR; obtain ⟨hc, hf⟩ := bcellB hR; (try go_simp); (try exact And.intro rfl rfl); done)); (focus (intro w1 hR; first | exact (Hsame.out w1 hR).at_ (by first | omega | (simp; done) | (simp; omega)) hR)); (try simp only [Act.put, List.setIfInBounds_toArray, List.set_cons_succ, List.set_cons_zero]))))
      refine wpR_nil ?_
      intro w2 hb2
      clear ha0 hb1 hx hy
      go_wp2_with fail
      exact ⟨exU (fun U => ⟨#[.pointer (some ⟨r, 0, none⟩), U 1, .bool false, U 3, .int .i64 (i + 1 : Nat), U 5, U 6, U 7, U 8, U 9, U 10, U 11, U 12, U 13, U 14, U 15, U 16, U 17, U 18, U 19, U 20, U 21, U 22, U 23, U 24, U 25, U 26, U 27, U 28, U 29, U 30, U 31, U 32, U 33, U 34, U 35, U 36, U 37, U 38, U 39, U 40, U 41, U 42, U 43, U 44, U 45, U 46, U 47, U 48, U 49, U 50, U 51, U 52, U 53, U 54], []⟩) rfl, hb.trans (hb2.mono hs)⟩
    · rintro a w' ⟨⟨U, rfl⟩, hb0⟩
      have ha0 := (bcell hb0).1 r 2 hrl
      rw [hc2] at ha0
      have hrl' : r < w'.heap.size := Nat.lt_of_lt_of_le hrl hb0.size
      go_wp2_with fail
      go_ret
      exact ⟨rfl, hb0⟩
end Go.Proofs.YtbgfoobcpacfeaaDoor
