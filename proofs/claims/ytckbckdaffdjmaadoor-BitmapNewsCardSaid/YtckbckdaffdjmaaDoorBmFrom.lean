/- From. -/
import Derived.Test.YtckbckdaffdjmaaDoorBmLay
namespace Go.Proofs.YtckbckdaffdjmaaDoor
open Go.RowKit
set_option maxRecDepth 100000
set_option linter.unusedVariables false
set_option linter.unusedSimpArgs false

namespace Bm
/-- The first i words laid. -/
def laid (n : Nat) (V : List UInt64) (i : Nat) : List UInt64 := V.take i ++ List.replicate (room n - i) 0
theorem laid_zero (n : Nat) (V : List UInt64) : laid n V 0 = List.replicate (room n) 0 := by simp [laid]
theorem laid_all {n : Nat} {V : List UInt64} (h : V.length = room n) : laid n V (room n) = V := by simp [laid, ← h]
theorem laid_length {n : Nat} {V : List UInt64} (h : V.length = room n) {i : Nat} (hi : i ≤ room n) : (laid n V i).length = room n := by simp [laid]; omega
theorem laid_next {n : Nat} {V : List UInt64} (h : V.length = room n) {i : Nat} {x : UInt64} (hx : V[i]? = some x) : (laid n V i).set i x = laid n V (i + 1) := by
  have hi : i < V.length := (List.getElem?_eq_some_iff.1 hx).1
  apply List.ext_getElem?
  intro j
  unfold laid
  by_cases e : i = j
  · subst e
    rw [List.getElem?_set_self (by simp; omega), List.getElem?_append_left (by simp; omega), List.getElem?_take, if_pos (by omega), hx]
  · rw [List.getElem?_set_ne e]
    by_cases hj : j < i
    · rw [List.getElem?_append_left (by simp; omega), List.getElem?_append_left (by simp; omega), List.getElem?_take, List.getElem?_take, if_pos hj, if_pos (by omega)]
    · rw [List.getElem?_append_right (by simp; omega), List.getElem?_append_right (by simp; omega), List.getElem?_replicate, List.getElem?_replicate, List.length_take, List.length_take]
      by_cases h2 : j < room n
      · rw [if_pos (by omega), if_pos (by omega)]
      · rw [if_neg (by omega), if_neg (by omega)]
theorem laid_ok {n : Nat} {V : List UInt64} (h : Ok n V) {i : Nat} (hi : i ≤ room n) : Ok n (laid n V i) := by
  refine ⟨h.pos, h.max, laid_length h.len hi, fun j hj => ?_⟩
  have hb := h.tail j hj
  unfold bit at *
  simp only [List.getD_eq_getElem?_getD, laid] at *
  by_cases e : j / 64 < i
  · rw [List.getElem?_append_left (by have := h.len; simp; omega), List.getElem?_take, if_pos e]; exact hb
  · rw [List.getElem?_append_right (by have := h.len; simp; omega), List.getElem?_replicate]
    split <;> simp
end Bm
set_option maxHeartbeats 4000000 in
theorem from_err1 {w : World} {n : Int} (hn : (Lit.int .i64 n).wf = true) (v : Value) (h : n < 1 ∨ 65536 < n) : Pur Tryd.prog 54 #[.int .i64 n, v] w (.tuple #[.pointer none, .int .i64 1]) := by
  unfold Pur
  have hc := new_err (w := w) hn h
  go_enter Tryd.func54, Tryd.ntmps54
  go_wp2_with (first | (go_at_call 56; refine hc.out.mono ?_; rintro e w1 ⟨rfl, hb⟩) | fail)
  refine bodyPost_ret (results_tmp2 rfl _ _ _) rfl ?_
  exact ⟨rfl, hb⟩
set_option maxHeartbeats 4000000 in
theorem from_err2 {w : World} {n : Nat} (h1 : 1 ≤ n) (h2 : n ≤ 65536) {v : Value} {V : List UInt64} (h : RU w v V) (he : Bm.validE n V ≠ 0) : Pur Tryd.prog 54 #[.int .i64 n, v] w (.tuple #[.pointer none, .int .i64 (Bm.validE n V : Nat)]) := by
  unfold Pur
  have hc := new_calls (w := w) h1 h2
  have he' : (((Bm.validE n V : Nat) : Int) != 0) = true := bne_iff_ne.2 fun e => he (Int.ofNat_inj.1 e)
  have H := Lib.hid h
  clear h he
  go_enter Tryd.func54, Tryd.ntmps54
  go_wp2_with (first | (go_at_call 56; refine hc.mono ?_; rintro e w1 ⟨p, bw, ba, rfl, hm, hp1, hp2, hp3, hb⟩; have hv := valid_calls h1 h2 (H.out.below hb)) | (go_at_call 82; refine hv.out.mono ?_; rintro e w2 ⟨rfl, hb2⟩) | fail)
  refine bodyPost_ret (results_tmp2 rfl _ _ _) rfl ?_
  exact ⟨rfl, hb.trans (hb2.mono hb.size)⟩
set_option maxHeartbeats 4000000 in
theorem from_calls {w : World} {n : Nat} {v : Value} {V : List UInt64} (h : RU w v V) (hok : Bm.Ok n V) :
    Calls Tryd.prog 54 #[.int .i64 n, v] w fun e w' => ∃ p bw ba, e = .returned (.tuple #[.pointer (some ⟨p, 0, none⟩), .int .i64 0]) ∧ BM w' p bw ba n V ∧ w.heap.size ≤ p ∧ w.heap.size ≤ bw ∧ w.heap.size ≤ ba ∧ Below w.heap.size w w' := by
  have h1 := hok.pos
  have h2 := hok.max
  have hlen := hok.len
  have hc := new_calls (w := w) h1 h2
  have he := Bm.valid_of_ok hok
  have H := Lib.hid h
  obtain ⟨q, cp, rfl, k1, k2, k3, hr⟩ := h
  rw [hlen] at k1 k3 H ⊢
  have HR := Lib.hid hr
  clear hr
  go_enter Tryd.func54, Tryd.ntmps54
  go_wp2_with (first | (go_at_call 56; refine hc.mono ?_; rintro e w1 ⟨p, bw, ba, rfl, hm, hp1, hp2, hp3, hb⟩; have hv := valid_calls h1 h2 (H.out.below hb); rw [he] at hv) | (go_at_call 82; refine hv.out.mono ?_; rintro e w2 ⟨rfl, hb2⟩) | fail)
  have hb3 : Below w.heap.size w w2 := hb.trans (hb2.mono hb.size)
  have hm3 := hm.below hb2
  refine wp_loop_count (fun i a w' => (∃ U : Nat → Value, a = ⟨#[U 0, U 1, U 2, U 3, U 4, U 5, .pointer (some ⟨p, 0, none⟩), U 7, U 8, U 9, U 10, U 11, U 12, U 13, U 14, U 15, U 16, U 17, U 18, U 19, U 20, U 21, U 22, U 23, .slice q (Bm.room n) cp, .int .i64 (Bm.room n : Nat), .int .i64 i, U 27, U 28, U 29, U 30, U 31, U 32, U 33, U 34, U 35, U 36], []⟩) ∧ BM w' p bw ba n (Bm.laid n V i) ∧ Below w.heap.size w w') (Bm.room n) ⟨exU (fun U => ⟨#[U 0, U 1, U 2, U 3, U 4, U 5, .pointer (some ⟨p, 0, none⟩), U 7, U 8, U 9, U 10, U 11, U 12, U 13, U 14, U 15, U 16, U 17, U 18, U 19, U 20, U 21, U 22, U 23, .slice q (Bm.room n) cp, .int .i64 (Bm.room n : Nat), .int .i64 0, U 27, U 28, U 29, U 30, U 31, U 32, U 33, U 34, U 35, U 36], []⟩) rfl, by rw [Bm.laid_zero]; exact hm3, hb3⟩ ?_ ?_
  · rintro i a w' hi ⟨⟨U, rfl⟩, hmi, hbi⟩
    obtain ⟨x, hx⟩ : ∃ x, V[i]? = some x := ⟨V[i]'(by omega), List.getElem?_eq_getElem (by omega)⟩
    obtain ⟨g, o, rfl, hg, hcell⟩ := HR.out _ _ hx
    have hcell' := ((bcell hbi).1 g _ hg).trans hcell
    have hlay := lay_calls hmi (k := i) (by rw [Bm.laid_length hlen (by omega)]; exact hi) x (by rw [Bm.laid_next hlen hx]; exact Bm.laid_ok hok (by omega))
    rw [Bm.laid_next hlen hx] at hlay
    have hi' : (i : Int) < ((Bm.room n : Nat) : Int) := by exact_mod_cast hi
    have hi0 : (0 : Int) ≤ (i : Int) := Int.natCast_nonneg i
    have Hn : Hid (w.heap.size ≤ w'.heap.size) := hbi.size
    have hk1 : Bm.room n ≤ 1024 := hmi.room_le.1
    clear hc hv hb2 hb hm hm3 hb3 he hx
    go_wp2_with (first | (go_at_call 69; refine hlay.mono ?_; rintro e w3 ⟨rfl, hm4, hM⟩) | fail)
    have hb5 : Below w.heap.size w w3 := hbi.trans (hM.below Hn.out (by rintro k (rfl | rfl | rfl) <;> assumption))
    exact ⟨exU (fun U => ⟨#[U 0, U 1, U 2, U 3, U 4, U 5, .pointer (some ⟨p, 0, none⟩), U 7, U 8, U 9, U 10, U 11, U 12, U 13, U 14, U 15, U 16, U 17, U 18, U 19, U 20, U 21, U 22, U 23, .slice (some ⟨g, o, none⟩) (Bm.room n) cp, .int .i64 (Bm.room n : Nat), .int .i64 (i + 1 : Nat), U 27, U 28, U 29, U 30, U 31, U 32, U 33, U 34, U 35, U 36], []⟩) rfl, hm4, hb5⟩
  · rintro a w' ⟨⟨U, rfl⟩, hmi, hbi⟩
    rw [Bm.laid_all hlen] at hmi
    clear hc hv hb2 hb hm hm3 hb3 he
    go_wp2_with fail
    refine bodyPost_ret (results_tmp2 rfl _ _ _) rfl ?_
    exact ⟨p, bw, ba, rfl, hmi, hp1, hp2, hp3, hbi⟩
end Go.Proofs.YtckbckdaffdjmaaDoor
