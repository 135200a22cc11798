/- The document's bitmap: CountRange, Count. -/
import Derived.Test.YtckbckdaffdjmaaDoorRmTell
namespace Go.Proofs.YtckbckdaffdjmaaDoor
open Go.RowKit
set_option maxRecDepth 100000
set_option linter.unusedVariables false
set_option linter.unusedSimpArgs false

/-- The frame is F of something. (A name, so that the walk leaves it standing.) -/
def Is (F : (Nat → Value) → Act) (a : Act) : Prop := ∃ U, a = F U
theorem Is.out {F : (Nat → Value) → Act} {a : Act} (h : Is F a) : ∃ U, a = F U := h
theorem isU {t : Array Value} (F : (Nat → Value) → Act) (h : (⟨t, []⟩ : Act) = F (fun k => t.getD k undef)) : Is F ⟨t, []⟩ := ⟨_, h⟩
set_option maxHeartbeats 4000000 in
theorem rcountrange_err {w : World} {r bb : Nat} {bs : List Bool} (h : RM w r bb bs) {first count : Int} (h1 : (Lit.int .i64 first).wf = true) (h2 : (Lit.int .i64 count).wf = true) (he : Bm.rangeE bs.length first count ≠ 0) : Pur Tryd.prog 60 #[.pointer (some ⟨r, 0, none⟩), .int .i64 first, .int .i64 count] w (.tuple #[.int .i64 0, .int .i64 (Bm.rangeE bs.length first count : Nat)]) := by
  unfold Pur
  have hc := ranged_calls h h1 h2
  have he' : (((Bm.rangeE bs.length first count : Nat) : Int) != 0) = true := bne_iff_ne.2 fun e => he (Int.ofNat_inj.1 e)
  clear h he
  go_enter Tryd.func60, Tryd.ntmps60
  go_wp2_with (first | (go_at_call 94; refine hc.out.mono ?_; rintro e w2 ⟨rfl, hb2⟩) | fail)
  refine bodyPost_ret (results_tmp2 rfl _ _ _) rfl ?_
  exact ⟨rfl, hb2⟩
theorem wf_nat {n : Nat} (h : n < 9223372036854775808) : (Lit.int .i64 (n : Int)).wf = true := by simp [Lit.wf, IntKind.min, IntKind.max, IntKind.bits, IntKind.signed]; omega
set_option maxHeartbeats 4000000 in
theorem rcountrange_calls {w : World} {r bb : Nat} {bs : List Bool} (h : RM w r bb bs) {f c : Nat} (hfc : f + c ≤ bs.length) : Pur Tryd.prog 60 #[.pointer (some ⟨r, 0, none⟩), .int .i64 f, .int .i64 c] w (.tuple #[.int .i64 (Bm.cnt (fun i => bs.getD i false) f c : Nat), .int .i64 0]) := by
  unfold Pur
  have hmx := h.max
  have hc := ranged_calls h (first := f) (count := c) (wf_nat (by omega)) (wf_nat (by omega))
  rw [show Bm.rangeE bs.length f c = 0 by unfold Bm.rangeE; rw [if_neg (by omega), if_neg (by omega)]] at hc
  have c0 := h.hs.cell (i := 0) rfl
  have lr := heap_lt h.hs
  have lb := heap_lt h.hb
  have HB := Lib.hid h.hb
  obtain ⟨L, hL⟩ : ∃ L, L = bs.length := ⟨_, rfl⟩
  have HL := Lib.hid hL
  rw [← hL] at c0 hmx hfc
  clear h hL
  go_enter Tryd.func60, Tryd.ntmps60
  go_wp2_with (first | (go_at_call 94; refine hc.out.mono ?_; rintro e w2 ⟨rfl, hb2⟩) | fail)
  refine wp_loop_count (fun j a w' => Is (fun U => ⟨#[.pointer (some ⟨r, 0, none⟩), .int .i64 f, .int .i64 c, U 3, U 4, U 5, U 6, U 7, U 8, .int .i64 (Bm.cnt (fun i => bs.getD i false) f j : Nat), .int .i64 (f + j : Nat), U 11, U 12, U 13, U 14, U 15, U 16, U 17, U 18, U 19, U 20, U 21, U 22, U 23, U 24, U 25, U 26, U 27, U 28, U 29, U 30, U 31, U 32, U 33, U 34, U 35], []⟩) a ∧ Below w.heap.size w w') c ⟨isU (fun U => ⟨#[.pointer (some ⟨r, 0, none⟩), .int .i64 f, .int .i64 c, U 3, U 4, U 5, U 6, U 7, U 8, .int .i64 0, .int .i64 f, U 11, U 12, U 13, U 14, U 15, U 16, U 17, U 18, U 19, U 20, U 21, U 22, U 23, U 24, U 25, U 26, U 27, U 28, U 29, U 30, U 31, U 32, U 33, U 34, U 35], []⟩) rfl, hb2⟩ ?_ ?_
  · rintro j a w' hj ⟨hU, hbi⟩
    obtain ⟨U, rfl⟩ := hU.out
    have hlt : f + j < bs.length := by rw [← HL.out]; omega
    obtain ⟨b, hb⟩ : ∃ b, bs[f + j]? = some b := ⟨_, List.getElem?_eq_getElem hlt⟩
    have hcb := ((bcell hbi).1 _ _ lb).trans (HB.out.cell (i := f + j) (v := .bool b) (by simp [hb]))
    have hc0 := ((bcell hbi).1 r 0 lr).trans c0
    have hcn : Bm.cnt (fun i => bs.getD i false) f (j + 1) = Bm.cnt (fun i => bs.getD i false) f j + (if b = true then 1 else 0) := by
      rw [Bm.cnt, List.getD_eq_getElem?_getD, hb]; rfl
    have hcl := Bm.cnt_le (fun i => bs.getD i false) f j
    have HC := Lib.hid hcn
    clear hcn
    generalize Bm.cnt (fun i => bs.getD i false) f j = k at *
    obtain ⟨m, hm⟩ : ∃ m, m = f + j := ⟨_, rfl⟩
    rw [← hm] at hcb hlt ⊢
    have h1 : ((m : Nat) : Int) < (f : Int) + (c : Int) := by omega
    have h2 : ((m : Nat) : Int) < (L : Int) := by omega
    have h3 : (0 : Int) ≤ ((m : Nat) : Int) := by omega
    have h4 : (f : Int) + (c : Int) ≤ 65536 := by omega
    have HM : Hid (f + (j + 1) = m + 1) := show _ = _ by omega
    rw [HM.out, HC.out]
    have HN := Lib.hid hbi
    clear hc hb hb2 hlt hm hbi hU
    cases b with
    | false =>
      rw [if_neg (by decide), Nat.add_zero]
      go_wp2_with fail
      exact ⟨isU (fun U => ⟨#[.pointer (some ⟨r, 0, none⟩), .int .i64 f, .int .i64 c, U 3, U 4, U 5, U 6, U 7, U 8, .int .i64 k, .int .i64 (m + 1 : Nat), U 11, U 12, U 13, U 14, U 15, U 16, U 17, U 18, U 19, U 20, U 21, U 22, U 23, U 24, U 25, U 26, U 27, U 28, U 29, U 30, U 31, U 32, U 33, U 34, U 35], []⟩) rfl, HN.out⟩
    | true =>
      rw [if_pos rfl]
      go_wp2_with fail
      exact ⟨isU (fun U => ⟨#[.pointer (some ⟨r, 0, none⟩), .int .i64 f, .int .i64 c, U 3, U 4, U 5, U 6, U 7, U 8, .int .i64 (k + 1 : Nat), .int .i64 (m + 1 : Nat), U 11, U 12, U 13, U 14, U 15, U 16, U 17, U 18, U 19, U 20, U 21, U 22, U 23, U 24, U 25, U 26, U 27, U 28, U 29, U 30, U 31, U 32, U 33, U 34, U 35], []⟩) rfl, HN.out⟩
  · rintro a w' ⟨hU, hbi⟩
    obtain ⟨U, rfl⟩ := hU.out
    clear hU
    have h1 : (((f + c : Nat) : Int) < (f : Int) + (c : Int)) = False := by simp
    have h4 : (f : Int) + (c : Int) ≤ 65536 := by omega
    clear hc hb2
    go_wp2_with fail
    refine bodyPost_ret (results_tmp2 rfl _ _ _) rfl ?_
    exact ⟨rfl, hbi⟩
set_option maxHeartbeats 4000000 in
theorem rcount_calls {w : World} {r bb : Nat} {bs : List Bool} (h : RM w r bb bs) : Pur Tryd.prog 59 #[.pointer (some ⟨r, 0, none⟩)] w (.int .i64 (Bm.cnt (fun i => bs.getD i false) 0 bs.length : Nat)) := by
  unfold Pur
  have hc := rcountrange_calls h (f := 0) (c := bs.length) (by omega)
  have c0 := h.hs.cell (i := 0) rfl
  clear h
  go_enter Tryd.func59, Tryd.ntmps59
  go_wp2_with (first | (go_at_call 60; refine hc.out.mono ?_; rintro e w2 ⟨rfl, hb2⟩) | fail)
  go_ret
  exact ⟨rfl, hb2⟩
end Go.Proofs.YtckbckdaffdjmaaDoor
