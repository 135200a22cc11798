/- The document's own reading: a field's number; is a digest all zero? (Printed by wip/w7gen/mkrfsm2.py.) -/
import Derived.Test.YtbgfoobcpacfeaaDoorPk8
import Derived.Test.YtbgfoobcpacfeaaDoorRfSm
namespace Go.Proofs.YtbgfoobcpacfeaaDoor
open Go.RowKit
set_option maxRecDepth 100000
set_option linter.unusedVariables false
set_option linter.unusedSimpArgs false

set_option maxHeartbeats 8000000 in
theorem rfield_calls {w : World} {pv : Value} {p : Wi.Pk} (hp : p.Ok) (k : Nat) (hk5 : k < 5) : Pur Tryd.prog 46 #[.agg (pkL p pv).toArray, .int .i64 (2 ^ k : Nat)] w (.int .i64 (p.num k : Nat)) := by
  unfold Pur
  have hk : PkAt (w.alloc (.cells (pkL p pv).toArray 34)) w.heap.size p pv := heap_new w _ _ rfl
  have hb1 := below_alloc1 w (.cells (pkL p pv).toArray 34)
  have hlt := hk.lt
  have c1 := hk.c1
  have c2 := hk.c2
  have c3 := hk.c3
  have c4 := hk.c4
  have c5 := hk.c5
  have w_id : IntKind.i64.wrap ((p.id : Nat) : Int) = ((p.id : Nat) : Int) := IntWalk.i64_in _ ⟨by omega, by have := hp.id; omega⟩
  have w_block : IntKind.i64.wrap ((p.block : Nat) : Int) = ((p.block : Nat) : Int) := IntWalk.i64_in _ ⟨by omega, by have := hp.block; omega⟩
  have w_epoch : IntKind.i64.wrap ((p.epoch : Nat) : Int) = ((p.epoch : Nat) : Int) := IntWalk.i64_in _ ⟨by omega, by have := hp.epoch; omega⟩
  have w_count : IntKind.i64.wrap ((p.count : Nat) : Int) = ((p.count : Nat) : Int) := IntWalk.i64_in _ ⟨by omega, by have := hp.count; omega⟩
  have w_flags : IntKind.i64.wrap ((p.flags : Nat) : Int) = ((p.flags : Nat) : Int) := IntWalk.i64_in _ ⟨by omega, by have := hp.flags; omega⟩
  clear hk
  generalize hca : (pkL p pv).toArray = ca at *
  rcases k with _ | _ | _ | _ | _ | k
  · show Calls _ _ #[.agg ca, .int .i64 1] w fun e w' => e = Ending.returned (.int .i64 (p.id : Nat)) ∧ _
    go_enter Tryd.func46, Tryd.ntmps46
    go_wp2_with fail
    go_ret
    exact ⟨rfl, hb1⟩
  · show Calls _ _ #[.agg ca, .int .i64 2] w fun e w' => e = Ending.returned (.int .i64 (p.block : Nat)) ∧ _
    go_enter Tryd.func46, Tryd.ntmps46
    go_wp2_with fail
    go_ret
    exact ⟨rfl, hb1⟩
  · show Calls _ _ #[.agg ca, .int .i64 4] w fun e w' => e = Ending.returned (.int .i64 (p.epoch : Nat)) ∧ _
    go_enter Tryd.func46, Tryd.ntmps46
    go_wp2_with fail
    go_ret
    exact ⟨rfl, hb1⟩
  · show Calls _ _ #[.agg ca, .int .i64 8] w fun e w' => e = Ending.returned (.int .i64 (p.count : Nat)) ∧ _
    go_enter Tryd.func46, Tryd.ntmps46
    go_wp2_with fail
    go_ret
    exact ⟨rfl, hb1⟩
  · show Calls _ _ #[.agg ca, .int .i64 16] w fun e w' => e = Ending.returned (.int .i64 (p.flags : Nat)) ∧ _
    go_enter Tryd.func46, Tryd.ntmps46
    go_wp2_with fail
    go_ret
    exact ⟨rfl, hb1⟩
  · omega

/-- The loop of 'zeroes', behind i bytes. -/
def ZroI (l : List UInt8) (g : Nat) (w : World) (i : Nat) (a : Act) (w' : World) : Prop :=
  (∃ U : Nat → Value, a = ⟨#[.agg (l.map bv).toArray, .pointer (some ⟨g, 0, none⟩), .bool false, .int .i64 i, U 4, U 5, U 6, U 7, U 8, U 9, U 10, U 11], []⟩) ∧ (l.take i).any (fun b => b != 0) = false ∧ w' = w
set_option maxHeartbeats 4000000 in
theorem rzeroes_calls {w : World} {l : List UInt8} (hl : l.length = 32) : Pur Tryd.prog 85 #[.agg (l.map bv).toArray] w (.bool (decide (l = Wi.zeros))) := by
  unfold Pur
  have hz : Hid (decide (l = Wi.zeros) = !(l.any fun b => b != 0)) := by
    show _ = _
    rw [Bool.eq_iff_iff, Bool.not_eq_true', decide_eq_true_iff, List.any_eq_false]
    refine ⟨fun h x hx => ?_, fun h => List.eq_replicate_iff.2 ⟨hl, fun x hx => by simpa using h x hx⟩⟩
    subst h
    simp [List.eq_of_mem_replicate hx]
  have hk : (w.alloc (.cells (l.map bv).toArray 31)).heap[w.heap.size]? = some (.cells (l.map bv).toArray 31 (0, 0)) := heap_new w _ _ rfl
  have hb1 := below_alloc1 w (.cells (l.map bv).toArray 31)
  have hlt := heap_lt hk
  have hcell : ∀ (i : Nat) (x : UInt8), l[i]? = some x → (w.alloc (.cells (l.map bv).toArray 31)).cell? ⟨w.heap.size, i, none⟩ = some (bv x) := fun i x hx => by
    rw [has_cell hk]
    simp [hx]
  clear hk
  go_enter Tryd.func85, Tryd.ntmps85
  go_wp2_with fail
  refine wp_loop_count (ZroI l w.heap.size (w.alloc (.cells (l.map bv).toArray 31))) 32 ⟨exU (fun U => ⟨#[.agg (l.map bv).toArray, .pointer (some ⟨w.heap.size, 0, none⟩), .bool false, .int .i64 0, U 4, U 5, U 6, U 7, U 8, U 9, U 10, U 11], []⟩) rfl, rfl, rfl⟩ ?_ ?_
  · rintro i a w' hi ⟨⟨U, rfl⟩, hn, rfl⟩
    obtain ⟨s, hs⟩ : ∃ s, l[i]? = some s := ⟨l[i], List.getElem?_eq_getElem (by omega)⟩
    have c1 := hcell i s hs
    have Hn := Lib.hid (any_take_next (fun b : UInt8 => b != 0) hs)
    have hil : (i : Int) < 32 := by omega
    have hi0 : (0 : Int) ≤ (i : Int) := Int.natCast_nonneg i
    have wi1 : IntKind.i64.wrap ((i : Int) + 1) = (i : Int) + 1 := IntWalk.i64_in _ ⟨by omega, by omega⟩
    have hs0 : ((s.toNat : Int) != 0) = (s != 0) := by
      cases e : (s != 0)
      · have : s = 0 := by simpa using e
        subst this; rfl
      · have : ¬ s = 0 := by simpa using e
        simp only [bne_iff_ne, ne_eq]
        intro h
        apply this
        apply UInt8.toNat_inj.1
        show s.toNat = 0
        omega
    clear hcell hs hi
    cases t1 : (s != 0)
    · rw [t1] at hs0
      have Hn2 := Lib.hid (show (l.take (i + 1)).any (fun b => b != 0) = false from by rw [Hn.out, hn]; simpa using t1)
      clear Hn t1
      go_wp2_with fail
      exact ⟨exU (fun U => ⟨#[.agg (l.map bv).toArray, .pointer (some ⟨w.heap.size, 0, none⟩), .bool false, .int .i64 (i + 1 : Nat), U 4, U 5, U 6, U 7, U 8, U 9, U 10, U 11], []⟩) rfl, Hn2.out, rfl⟩
    · rw [t1] at hs0
      have Hn2 := Lib.hid (show l.any (fun b => b != 0) = true from by
        have h6 := Hn.out
        rw [hn] at h6
        rw [← List.take_append_drop (i + 1) l, List.any_append, h6]
        simp [show ¬ s = 0 by simpa using t1])
      clear Hn t1
      go_wp2_with fail
      go_ret
      rw [hz.out, Hn2.out]
      exact ⟨rfl, hb1⟩
  · rintro a w' ⟨⟨U, rfl⟩, hn, rfl⟩
    rw [List.take_of_length_le (by omega)] at hn
    go_wp2_with fail
    go_ret
    rw [hz.out, hn]
    exact ⟨rfl, hb1⟩
end Go.Proofs.YtbgfoobcpacfeaaDoor
