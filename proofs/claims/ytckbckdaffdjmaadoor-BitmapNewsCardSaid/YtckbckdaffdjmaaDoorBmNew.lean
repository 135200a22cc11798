/- New, lay. -/
import Derived.Test.YtckbckdaffdjmaaDoorBmOne
namespace Go.Proofs.YtckbckdaffdjmaaDoor
open Go.RowKit
set_option maxRecDepth 100000
set_option linter.unusedVariables false
set_option linter.unusedSimpArgs false

theorem int_rep (x : UInt64) (n : Nat) : List.replicate n (uv x) = (List.replicate n x).map uv := by simp
set_option maxHeartbeats 4000000 in
theorem new_err {w : World} {n : Int} (hn : (Lit.int .i64 n).wf = true) (h : n < 1 ∨ 65536 < n) : Pur Tryd.prog 56 #[.int .i64 n] w (.tuple #[.pointer none, .int .i64 1]) := by
  unfold Pur
  go_enter Tryd.func56, Tryd.ntmps56
  by_cases e : n < 1
  · go_wp2_with fail
    refine bodyPost_ret (results_tmp2 rfl _ _ _) rfl ?_
    exact ⟨rfl, Below.refl _ _⟩
  · have e2 : 65536 < n := by omega
    go_wp2_with fail
    refine bodyPost_ret (results_tmp2 rfl _ _ _) rfl ?_
    exact ⟨rfl, Below.refl _ _⟩
theorem size_drew' (w : World) : w.drew.heap.size = w.heap.size := rfl
theorem made_cells (n : Nat) : madeCells #[uv 0] n = ((List.replicate n (0 : UInt64)).map uv).toArray := by
  apply Array.ext
  · simp [madeCells]
  · intro i h1 h2; simp [madeCells, Nat.mod_one]
theorem bm_made {w : World} {p bw ba n : Nat} (h1 : 1 ≤ n) (h2 : n ≤ 65536) (hs : w.heap[p]? = some (.cells #[.int .i64 (n : Int), .slice (some ⟨bw, 0, none⟩) (Bm.room n) (Bm.room n), .slice (some ⟨ba, 0, none⟩) (Bm.room (Bm.room n)) (Bm.room (Bm.room n)), .int .i64 0] 100 (0, 0)))
    (hw : w.heap[bw]? = some (.cells (madeCells #[uv 0] (Bm.room n)) 58 (0, 0))) (ha : w.heap[ba]? = some (.cells (madeCells #[uv 0] (Bm.room (Bm.room n))) 58 (0, 0))) (n1 : bw ≠ p) (n2 : ba ≠ p) (n3 : ba ≠ bw) :
    BM w p bw ba n (List.replicate (Bm.room n) 0) := by
  refine ⟨?_, ?_, ?_, n1, n2, n3, Bm.ok_zero h1 h2⟩
  · rw [Bm.ones_zero]; exact hs
  · rw [made_cells] at hw; exact hw
  · rw [Bm.upper_zero]; rw [made_cells] at ha; exact ha
theorem uy_made (n : Nat) (hn : n ≤ 35184372088832) (w : World) : (Instr.makeSlice 22 (.int .i64 (n : Int)) (.int .i64 (n : Int))).run Tryd.prog w = .ok (.slice (some ⟨w.heap.size, 0, none⟩) n n) (w.alloc (.cells (madeCells #[uv 0] n) 58)) :=
  run_make_row' 22 58 (uv 0) 8 uy_tu uy_ti rfl .i64 .i64 n (by omega) (by omega) w
set_option maxHeartbeats 4000000 in
theorem new_calls {w : World} {n : Nat} (h1 : 1 ≤ n) (h2 : n ≤ 65536) : Calls Tryd.prog 56 #[.int .i64 n] w fun e w' => ∃ p bw ba, e = .returned (.tuple #[.pointer (some ⟨p, 0, none⟩), .int .i64 0]) ∧ BM w' p bw ba n (List.replicate (Bm.room n) 0) ∧ w.heap.size ≤ p ∧ w.heap.size ≤ bw ∧ w.heap.size ≤ ba ∧ Below w.heap.size w w' := by
  have hrc := room_calls (w := w) (n := n) (by omega)
  have hr1 : Bm.room n ≤ 1024 := by unfold Bm.room; omega
  have hr2 : Bm.room (Bm.room n) ≤ 16 := by unfold Bm.room; omega
  have hm1 := uy_made (Bm.room n) (by omega)
  have hm2 := uy_made (Bm.room (Bm.room n)) (by omega)
  go_enter Tryd.func56, Tryd.ntmps56
  go_wp2_with (first | (go_at_call 93; refine hrc.out.mono ?_; rintro e w1 ⟨rfl, hb⟩) | fail)
  have hrc2 : ∀ w, Pur Tryd.prog 93 #[.int .i64 (Bm.room n : Nat)] w (.int .i64 (Bm.room (Bm.room n) : Nat)) := fun w => room_calls (by omega)
  go_region_with (first | (go_at_call 93; refine (hrc2 _).out.mono ?_; rintro e w2 ⟨rfl, hb2⟩) | fail)
  all_goals go_wp2_with fail
  all_goals refine bodyPost_ret (results_tmp2 rfl _ _ _) rfl ?_
  all_goals clear hm1 hm2 hrc hrc2
  · have hs2 := hb2.size
    have hs1 := hb.size
    simp only [size_drew', World.size_alloc] at hs2
    have k1 : w2.heap[w1.heap.size]? = some (.cells (madeCells #[uv 0] (Bm.room n)) 58 (0, 0)) := (hb2.block _ (by simp)).trans ((heap_drew _ _).trans (heap_new _ _ _ rfl))
    have hbb : Below w.heap.size w w2 := (hb.alloc hs1 _).drew.trans (hb2.mono (by simp; omega))
    refine ⟨w2.heap.size + 1, w1.heap.size, w2.heap.size, rfl, bm_made h1 h2 ?_ ?_ ?_ (by omega) (by omega) (by omega), by omega, by omega, by omega, ?_⟩
    · exact heap_new _ _ _ (by simp)
    · exact (heap_old _ _ _ (by simp; omega)).trans ((heap_old _ _ _ (by omega)).trans k1)
    · exact (heap_old _ _ _ (by simp)).trans (heap_new _ _ _ rfl)
    · exact (hbb.alloc hbb.size _).alloc (by simp; omega) _
  · have hs2 := hb2.size
    have hs1 := hb.size
    simp only [size_drew', World.size_alloc] at hs2
    have hbb : Below w.heap.size w w2 := hb.drew.trans (hb2.mono hs1)
    refine ⟨w2.heap.size + 1 + 1, w2.heap.size, w2.heap.size + 1, rfl, bm_made h1 h2 ?_ ?_ ?_ (by omega) (by omega) (by omega), by omega, by omega, by omega, ?_⟩
    · exact heap_new _ _ _ (by simp)
    · exact (heap_old _ _ _ (by simp; omega)).trans ((heap_old _ _ _ (by simp)).trans (heap_new _ _ _ rfl))
    · exact (heap_old _ _ _ (by simp)).trans (heap_new _ _ _ (by simp))
    · exact ((hbb.alloc hbb.size _).alloc (by simp; omega) _).alloc (by simp; omega) _
  · have hs2 := hb2.size
    have hs1 := hb.size
    simp only [size_drew', World.size_alloc] at hs2
    have hbb : Below w.heap.size w w2 := hb.drew.trans (hb2.mono hs1)
    refine ⟨w2.heap.size + 1 + 1, w2.heap.size + 1, w2.heap.size, rfl, bm_made h1 h2 ?_ ?_ ?_ (by omega) (by omega) (by omega), by omega, by omega, by omega, ?_⟩
    · exact heap_new _ _ _ (by simp)
    · exact (heap_old _ _ _ (by simp)).trans (heap_new _ _ _ (by simp))
    · exact (heap_old _ _ _ (by simp; omega)).trans ((heap_old _ _ _ (by simp)).trans (heap_new _ _ _ rfl))
    · exact ((hbb.alloc hbb.size _).alloc (by simp; omega) _).alloc (by simp; omega) _
end Go.Proofs.YtckbckdaffdjmaaDoor
