/- The document's bitmap: bools, New, From; bits as words: pack, Upper, Words, Summary. -/
import Derived.Test.YtckbckdaffdjmaaDoorRmLib
namespace Go.Proofs.YtckbckdaffdjmaaDoor
open Go.RowKit
set_option maxRecDepth 100000
set_option linter.unusedVariables false
set_option linter.unusedSimpArgs false

namespace Bm
/-- A list of which the first i are laid. -/
def part {α : Type} (l : List α) (d : α) (i : Nat) : List α := l.take i ++ List.replicate (l.length - i) d
theorem part_zero {α : Type} (l : List α) (d : α) : part l d 0 = List.replicate l.length d := by simp [part]
theorem part_all {α : Type} (l : List α) (d : α) : part l d l.length = l := by simp [part]
theorem part_length {α : Type} (l : List α) (d : α) {i : Nat} (h : i ≤ l.length) : (part l d i).length = l.length := by simp [part]; omega
theorem part_get {α : Type} (l : List α) (d : α) {i : Nat} (h : i < l.length) : (part l d i)[i]? = some d := by
  unfold part
  rw [List.getElem?_append_right (by simp; omega), List.getElem?_replicate, if_pos (by simp; omega)]
theorem part_next {α : Type} {l : List α} (d : α) {i : Nat} {x : α} (hx : l[i]? = some x) : (part l d i).set i x = part l d (i + 1) := by
  have hi : i < l.length := (List.getElem?_eq_some_iff.1 hx).1
  apply List.ext_getElem?
  intro j
  unfold part
  by_cases e : i = j
  · subst e
    rw [List.getElem?_set_self (by simp; omega), List.getElem?_append_left (by simp; omega), List.getElem?_take, if_pos (by omega), hx]
  · rw [List.getElem?_set_ne e]
    by_cases hj : j < i
    · rw [List.getElem?_append_left (by simp; omega), List.getElem?_append_left (by simp; omega), List.getElem?_take, List.getElem?_take, if_pos hj, if_pos (by omega)]
    · rw [List.getElem?_append_right (by simp; omega), List.getElem?_append_right (by simp; omega), List.getElem?_replicate, List.getElem?_replicate, List.length_take, List.length_take]
      by_cases h2 : j < l.length
      · rw [if_pos (by omega), if_pos (by omega)]
      · rw [if_neg (by omega), if_neg (by omega)]
theorem part_map {α β : Type} (f : α → β) (l : List α) (d : α) (i : Nat) : (part l d i).map f = part (l.map f) (f d) i := by simp [part, List.map_take]
end Bm
theorem shr_bit {x r : Nat} (hx : x < 18446744073709551616) : (bits .and .u64 ((x : Int) / 2 ^ r) 1 == 1) = x.testBit r := by
  have h1 : (x : Int) / 2 ^ r = ((x / 2 ^ r : Nat) : Int) := by rw [Int.natCast_ediv]; simp
  have h2 : x / 2 ^ r < 18446744073709551616 := Nat.lt_of_le_of_lt (Nat.div_le_self _ _) hx
  have h3 := u64_and_nat (x / 2 ^ r) 1 h2 (by decide)
  rw [h1]
  rw [Nat.and_one_is_mod] at h3
  rw [show bits .and .u64 ((x / 2 ^ r : Nat) : Int) 1 = ((x / 2 ^ r % 2 : Nat) : Int) from h3, Nat.testBit_eq_decide_div_mod_eq]
  rcases Nat.mod_two_eq_zero_or_one (x / 2 ^ r) with e | e <;> rw [e] <;> rfl
set_option maxHeartbeats 4000000 in
theorem rbools_calls {w : World} {n : Nat} {v : Value} {V : List UInt64} (h : RU w v V) (hn : n ≤ 65536) (hlen : V.length = Bm.room n) :
    Calls Tryd.prog 92 #[.int .i64 n, v] w fun e w' => ∃ g, e = .returned (.slice (some ⟨g, 0, none⟩) n n) ∧ Rw w' g 4 ((Bm.bools n V).map Value.bool) ∧ w.heap.size ≤ g ∧ Below w.heap.size w w' := by
  obtain ⟨q, cp, rfl, k1, k2, k3, hr⟩ := h
  have hm := bo_made n (by omega)
  rw [bo_cells] at hm
  have HR := Lib.hid hr
  have hbl := Bm.bools_length n V
  rw [hlen] at k1 k3 ⊢
  have HL := Lib.hid hlen
  clear hr hlen
  go_enter Tryd.func92, Tryd.ntmps92
  go_wp2_with fail
  refine wp_loop_count (fun i a w' => (∃ U : Nat → Value, a = ⟨#[.int .i64 n, .slice q (Bm.room n) cp, U 2, U 3, U 4, .slice (some ⟨w.heap.size, 0, none⟩) n n, .int .i64 i, U 7, U 8, U 9, U 10, U 11, U 12, U 13, U 14, U 15, U 16, U 17, U 18, U 19, U 20, U 21, U 22, U 23, U 24, U 25, U 26, U 27, U 28], []⟩) ∧ Rw w' w.heap.size 4 ((Bm.part (Bm.bools n V) false i).map Value.bool) ∧ Below w.heap.size w w') n ⟨exU (fun U => ⟨#[.int .i64 n, .slice q (Bm.room n) cp, U 2, U 3, U 4, .slice (some ⟨w.heap.size, 0, none⟩) n n, .int .i64 0, U 7, U 8, U 9, U 10, U 11, U 12, U 13, U 14, U 15, U 16, U 17, U 18, U 19, U 20, U 21, U 22, U 23, U 24, U 25, U 26, U 27, U 28], []⟩) rfl, by rw [Bm.part_zero, hbl]; exact (heap_new _ _ _ rfl).trans (by simp), below_alloc1 _ _⟩ ?_ ?_
  · rintro i a w' hi ⟨⟨U, rfl⟩, hrow, hbi⟩
    have hq := Bm.room_lt hi
    obtain ⟨x, hx⟩ : ∃ x, V[i / 64]? = some x := ⟨V[i / 64]'(by rw [HL.out]; exact hq), List.getElem?_eq_getElem (by rw [HL.out]; exact hq)⟩
    obtain ⟨g, o, rfl, hg, hcell⟩ := HR.out _ _ hx
    have hcell' := ((bcell hbi).1 g _ hg).trans hcell
    have hbit : Bm.bit V i = x.toNat.testBit (i % 64) := by rw [Bm.bit, List.getD_eq_getElem?_getD, hx]; rfl
    have hbv := shr_bit (r := i % 64) x.toNat_lt
    rw [← hbit] at hbv
    have hnext := Bm.part_next false (Bm.bools_get (W := V) hi)
    have hold := Bm.part_get (Bm.bools n V) false (i := i) (by omega)
    have hc0 := hrow.cell (i := i) (v := .bool false) (by simp [hold])
    have hf0 := hrow.frozen i
    have hset := hrow.set i (.bool (Bm.bit V i))
    rw [← List.map_set, hnext] at hset
    have hbe : Below w.heap.size w (w'.setCell ⟨w.heap.size, i, none⟩ (.bool (Bm.bit V i))) := hbi.setCell (p := ⟨w.heap.size, i, none⟩) (Nat.le_refl _) _
    have HS := Lib.hid hset
    have HB := Lib.hid hbe
    have hi' : (i : Int) < (n : Int) := by exact_mod_cast hi
    have hi0 : (0 : Int) ≤ (i : Int) := Int.natCast_nonneg i
    have hq0 : 0 ≤ (i : Int) / 64 := by omega
    have hq1 : (i : Int) / 64 < ((Bm.room n : Nat) : Int) := by omega
    have hq2 : ((i : Int) / 64).toNat = i / 64 := by omega
    clear hm hbl hx hbit hnext hold hrow hset hbe hbi
    go_wp2_with fail
    exact ⟨exU (fun U => ⟨#[.int .i64 n, .slice (some ⟨g, o, none⟩) (Bm.room n) cp, U 2, U 3, U 4, .slice (some ⟨w.heap.size, 0, none⟩) n n, .int .i64 (i + 1 : Nat), U 7, U 8, U 9, U 10, U 11, U 12, U 13, U 14, U 15, U 16, U 17, U 18, U 19, U 20, U 21, U 22, U 23, U 24, U 25, U 26, U 27, U 28], []⟩) rfl, HS.out, HB.out⟩
  · rintro a w' ⟨⟨U, rfl⟩, hrow, hbi⟩
    have ha := Bm.part_all (Bm.bools n V) false
    rw [hbl] at ha
    rw [ha] at hrow
    clear hm hbl ha
    go_wp2_with fail
    go_ret
    exact ⟨_, rfl, hrow, Nat.le_refl _, hbi⟩
end Go.Proofs.YtckbckdaffdjmaaDoor
