/- Len, Count, Words, Summary. -/
import Derived.Test.YtckbckdaffdjmaaDoorBmFrom
import Derived.Laws.CopyOwn
import Derived.Deep.Cut
namespace Go.Proofs.YtckbckdaffdjmaaDoor
open Go.RowKit
set_option maxRecDepth 100000
set_option linter.unusedVariables false
set_option linter.unusedSimpArgs false

theorem uy_sz : (Tryd.prog.info? 58).map (·.size) = some 1 := by kernel_rfl
theorem splice_all (L cs : List Value) (h : cs.length = L.length) : splice L 0 cs = cs := by simp [splice, h]
set_option maxHeartbeats 4000000 in
theorem len_calls {w : World} {p bw ba n : Nat} {W : List UInt64} (h : BM w p bw ba n W) : Pur Tryd.prog 62 #[.pointer (some ⟨p, 0, none⟩)] w (.int .i64 n) := by
  unfold Pur
  have c0 := h.hs.cell (i := 0) rfl
  go_enter Tryd.func62, Tryd.ntmps62
  go_wp2_with fail
  go_ret
  exact ⟨rfl, Below.refl _ _⟩
set_option maxHeartbeats 4000000 in
theorem count_calls {w : World} {p bw ba n : Nat} {W : List UInt64} (h : BM w p bw ba n W) : Pur Tryd.prog 40 #[.pointer (some ⟨p, 0, none⟩)] w (.int .i64 (Bm.ones' W : Nat)) := by
  unfold Pur
  have c0 := h.hs.cell (i := 3) rfl
  go_enter Tryd.func40, Tryd.ntmps40
  go_wp2_with fail
  go_ret
  exact ⟨rfl, Below.refl _ _⟩
/-- A new list of words. -/
def NewU (w w' : World) (v : Value) (W : List UInt64) : Prop := ∃ g, v = .slice (some ⟨g, 0, none⟩) W.length W.length ∧ Rw w' g 58 (W.map uv) ∧ w.heap.size ≤ g ∧ Below w.heap.size w w'
/-- The copy of a row. -/
theorem copy_row {w w1 : World} {bw m : Nat} {cs : List Value} (hw : Rw w bw 58 cs) (hcl : cs.length = m) (h1 : ∀ v ∈ cs, v.oneCell' = true) (hw1 : w1 = w.alloc (.cells (madeCells #[uv 0] m) 58)) :
    ∃ w2, (Builtin.copy_ #[22, 22] 3 #[.slice (some ⟨w.heap.size, 0, none⟩) m m, .slice (some ⟨bw, 0, none⟩) m m]).run Tryd.prog w1 = .ok (goInt m) w2 ∧ Rw w2 w.heap.size 58 cs ∧ Below w.heap.size w w2 := by
  have lw := heap_lt hw
  have hn : w1.heap[w.heap.size]? = some (.cells (((List.replicate m (0 : UInt64)).map uv).toArray) 58 (0, 0)) := by rw [hw1, made_cells]; exact heap_new _ _ _ rfl
  have hb : Below w.heap.size w w1 := by rw [hw1]; exact below_alloc1 w _
  have hsrc : ∀ j v, cs[j]? = some v → w1.cell? ((⟨bw, 0, none⟩ : Addr).add j) = some v := fun j v hj => by
    rw [add_flat, Nat.zero_add]
    exact ((bcell hb).1 _ _ lw).trans (Rw.cell hw hj)
  have hrun := run_copy_row (P := Tryd.prog) w1 22 22 3 58 w.heap.size 0 m m ⟨bw, 0, none⟩ m m _ 58 cs uy_tu uy_sz hn (by simp [hcl]) hsrc (by simp [hcl]) h1
  refine ⟨_, by rw [hcl] at hrun; exact hrun, ?_, below_setRow hb (Nat.le_refl _) _⟩
  refine (setRow_heap w1 w.heap.size _ _ _ _ hn).trans ?_
  simp [hcl]
set_option maxHeartbeats 4000000 in
theorem words_calls {w : World} {p bw ba n : Nat} {W : List UInt64} (h : BM w p bw ba n W) : Calls Tryd.prog 32 #[.pointer (some ⟨p, 0, none⟩)] w fun e w' => ∃ v, e = .returned v ∧ NewU w w' v W := by
  have c0 := h.hs.cell (i := 1) rfl
  have lp := heap_lt h.hs
  have lw := heap_lt h.hw
  have hk1 := h.room_le
  have hlen : W.length = Bm.room n := by first | exact h.ok.len | rw [Bm.upper_length, h.ok.len]
  have hm := uy_made (Bm.room n) (by omega)
  have hw := h.hw
  unfold NewU
  rw [hlen]
  go_enter Tryd.func32, Tryd.ntmps32
  go_upto_region 2 with fail
  rename_i hnext
  obtain ⟨w1, hw1⟩ : ∃ w1, w1 = w.alloc (.cells (madeCells #[uv 0] (Bm.room n)) 58) := ⟨_, rfl⟩
  rw [← hw1]
  have c1 : w1.cell? ⟨p, 1, none⟩ = w.cell? ⟨p, 1, none⟩ := by rw [hw1]; exact (bcell (below_alloc1 w _)).1 _ _ lp
  rw [c0] at c1
  obtain ⟨w2, hcp, hg2, hb2⟩ := copy_row hw (by rw [List.length_map, hlen]) (fun v hv => by obtain ⟨x, _, rfl⟩ := List.mem_map.1 hv; rfl) hw1
  clear hm hw1 c0
  go_wp2_with fail
  go_ret
  exact ⟨_, rfl, w.heap.size, rfl, hg2, Nat.le_refl _, hb2⟩
set_option maxHeartbeats 4000000 in
theorem summary_calls {w : World} {p bw ba n : Nat} {W : List UInt64} (h : BM w p bw ba n W) : Calls Tryd.prog 64 #[.pointer (some ⟨p, 0, none⟩)] w fun e w' => ∃ v, e = .returned v ∧ NewU w w' v (Bm.upper W) := by
  have c0 := h.hs.cell (i := 2) rfl
  have lp := heap_lt h.hs
  have lw := heap_lt h.ha
  have hk1 := h.room_le
  have hlen : (Bm.upper W).length = Bm.room (Bm.room n) := by first | exact h.ok.len | rw [Bm.upper_length, h.ok.len]
  have hm := uy_made (Bm.room (Bm.room n)) (by omega)
  have hw := h.ha
  unfold NewU
  rw [hlen]
  go_enter Tryd.func64, Tryd.ntmps64
  go_upto_region 2 with fail
  rename_i hnext
  obtain ⟨w1, hw1⟩ : ∃ w1, w1 = w.alloc (.cells (madeCells #[uv 0] (Bm.room (Bm.room n))) 58) := ⟨_, rfl⟩
  rw [← hw1]
  have c1 : w1.cell? ⟨p, 2, none⟩ = w.cell? ⟨p, 2, none⟩ := by rw [hw1]; exact (bcell (below_alloc1 w _)).1 _ _ lp
  rw [c0] at c1
  obtain ⟨w2, hcp, hg2, hb2⟩ := copy_row hw (by rw [List.length_map, hlen]) (fun v hv => by obtain ⟨x, _, rfl⟩ := List.mem_map.1 hv; rfl) hw1
  clear hm hw1 c0
  go_wp2_with fail
  go_ret
  exact ⟨_, rfl, w.heap.size, rfl, hg2, Nat.le_refl _, hb2⟩
end Go.Proofs.YtckbckdaffdjmaaDoor
