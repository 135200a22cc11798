/- The document's own reader: four identifiers. (Printed by wip/w7gen/mkrfgens.py.) -/
import Derived.Test.YtbgfoobcpacfeaaDoorPk8
import Derived.Test.YtbgfoobcpacfeaaDoorRfLay
import Derived.Test.YtbgfoobcpacfeaaDoorRfLong
namespace Go.Proofs.YtbgfoobcpacfeaaDoor
open Go.RowKit
set_option maxRecDepth 100000
set_option linter.unusedVariables false
set_option linter.unusedSimpArgs false

namespace Wi
/-- An identifier that is read at a place: its value, whether it was there, the place behind it. -/
def rLong (l : List UInt8) (n : Nat) : Nat × Bool × Nat := if n + 8 ≤ l.length then (unbe ((l.drop n).take 8), true, n + 8) else (0, false, l.length)
theorem rLong_le (l : List UInt8) (n : Nat) : (rLong l n).2.2 ≤ l.length := by unfold rLong; split <;> simp; assumption
def rPl (l : List UInt8) (n : Nat) : Nat → Nat
  | 0 => n
  | k + 1 => (rLong l (rPl l n k)).2.2
end Wi
theorem RLongPost.form {w w' : World} {r at_ : Nat} {bs : Value} {l : List UInt8} {e : Ending} (h : RLongPost w r bs l at_ e w') : e = .returned (.tuple #[.int .u64 (Wi.rLong l at_).1, .bool (Wi.rLong l at_).2.1]) ∧ RRd w' r bs (Wi.rLong l at_).2.2 ∧ w.grownBy w' (some r) := by
  unfold RLongPost at h
  unfold Wi.rLong
  split at h
  · rename_i hc; rw [if_pos hc]; exact h
  · rename_i hc; rw [if_neg hc]; exact h
theorem grown_own {w w1 w2 : World} {x : Option Nat} {k : Nat} (h : w.grownBy w1 x) (hg : w1.grownBy w2 (some k)) (hk : w.heap.size ≤ k) : w.grownBy w2 x :=
  ⟨hg.os.trans h.os, hg.tape.trans h.tape, hg.output.trans h.output, Nat.le_trans h.size hg.size, fun i hi hne => (hg.block i (Nat.lt_of_lt_of_le hi h.size) (fun e => by injection e; omega)).trans (h.block i hi hne)⟩
theorem RRd.grown {w w' : World} {r n k : Nat} {bs : Value} (h : RRd w r bs n) (hg : w.grownBy w' (some k)) (hne : k ≠ r) : RRd w' r bs n := blk_grown h hg (fun e => hne (by injection e))
theorem gens_sz : (Tryd.prog.info? 30).map (·.size) = some 4 := by kernel_rfl
theorem gens_t : Tryd.prog.underlying 30 = some (.struct (Tryd.prog.fieldsOf 30)) := by kernel_rfl
theorem results_cellTmp {P : Program} {fn : Func} {w : World} {t u : Nat} {T : TypeId} {R0 : Nat} {v : Value} {tmps : Array Value} (hr : fn.results = #[.cell t T, .tmp u]) (h2 : tmps.getD t undef = .pointer (some ⟨R0, 0, none⟩)) (h : (loadVar T ⟨R0, 0, none⟩).run P w = .ok v w) :
    (results fn tmps).run P w = .ok (.tuple #[v, tmps.getD u undef]) w := by
  simp only [results, hr]
  simp only [Array.getD_eq_getD_getElem?] at h2 ⊢
  simp [h2, asAddr, h]

set_option maxHeartbeats 8000000 in
theorem rgens_calls {w : World} {r g o c at_ : Nat} {l : List UInt8} (hR : RRd w r (.slice (some ⟨g, o, none⟩) l.length c) at_) (hr : RB w (.slice (some ⟨g, o, none⟩) l.length c) l) (hgr : g ≠ r) (hat : at_ ≤ l.length) (hl : l.length ≤ 140737488355328) :
    Calls Tryd.prog 92 #[.pointer (some ⟨r, 0, none⟩)] w fun e w' => e = .returned (.tuple #[.agg #[.int .u64 (Wi.rLong l (Wi.rPl l at_ 0)).1, .int .u64 (Wi.rLong l (Wi.rPl l at_ 1)).1, .int .u64 (Wi.rLong l (Wi.rPl l at_ 2)).1, .int .u64 (Wi.rLong l (Wi.rPl l at_ 3)).1], .bool (Wi.rLong l (Wi.rPl l at_ 3)).2.1]) ∧
      RRd w' r (.slice (some ⟨g, o, none⟩) l.length c) (Wi.rPl l at_ 4) ∧ w.grownBy w' (some r) := by
  have hrl := hR.lt
  have hb0 := below_alloc1 w (.cells #[.int .u64 0, .int .u64 0, .int .u64 0, .int .u64 0] 30)
  have hz0 : (w.alloc (.cells #[.int .u64 0, .int .u64 0, .int .u64 0, .int .u64 0] 30)).heap[w.heap.size]? = some (.cells #[.int .u64 0, .int .u64 0, .int .u64 0, .int .u64 0] 30 (0, 0)) := heap_new w _ _ rfl
  have hg0 : w.grownBy (w.alloc (.cells #[.int .u64 0, .int .u64 0, .int .u64 0, .int .u64 0] 30)) (some r) := below_grown hb0
  have hR0 : RRd (w.alloc (.cells #[.int .u64 0, .int .u64 0, .int .u64 0, .int .u64 0] 30)) r (.slice (some ⟨g, o, none⟩) l.length c) (Wi.rPl l at_ 0) := hR.below hb0
  have hr0 := hr.below hb0
  have hle0 : Wi.rPl l at_ 0 ≤ l.length := hat
  have hrR : r ≠ w.heap.size := by omega
  go_enter Tryd.func92, Tryd.ntmps92
  go_wp2_with fail
  generalize w.alloc (.cells #[.int .u64 0, .int .u64 0, .int .u64 0, .int .u64 0] 30) = w0 at *
  refine (rlong_calls hR0 hr0 hgr hle0 hl).mono ?_
  intro e w1 hpost
  obtain ⟨rfl, hR1, hgk⟩ := hpost.form
  replace hR1 : RRd w1 r (.slice (some ⟨g, o, none⟩) l.length c) (Wi.rPl l at_ 1) := hR1
  have hr1 := hr0.grown hgk (fun _ g' e e' => by cases e; exact hgr (by injection e' with e'; exact e'.symm))
  have hz1 := blk_grown hz0 hgk (fun e => hrR (by injection e))
  have hg1 := World.grownBy.trans hg0 hgk
  have hle1 : Wi.rPl l at_ 1 ≤ l.length := Wi.rLong_le l _
  obtain ⟨a0, ha0⟩ : ∃ a, a = (Wi.rLong l (Wi.rPl l at_ 0)).1 := ⟨_, rfl⟩
  obtain ⟨b0, hb0'⟩ : ∃ b, b = (Wi.rLong l (Wi.rPl l at_ 0)).2.1 := ⟨_, rfl⟩
  rw [← ha0, ← hb0']
  have Ha0 := Lib.hid ha0
  have Hb0 := Lib.hid hb0'
  clear ha0 hb0' hgk
  go_wp2_with fail
  refine (rlong_calls hR1 hr1 hgr hle1 hl).mono ?_
  intro e w2 hpost
  obtain ⟨rfl, hR2, hgk⟩ := hpost.form
  replace hR2 : RRd w2 r (.slice (some ⟨g, o, none⟩) l.length c) (Wi.rPl l at_ 2) := hR2
  have hr2 := hr1.grown hgk (fun _ g' e e' => by cases e; exact hgr (by injection e' with e'; exact e'.symm))
  have hz2 := blk_grown hz1 hgk (fun e => hrR (by injection e))
  have hg2 := World.grownBy.trans hg1 hgk
  have hle2 : Wi.rPl l at_ 2 ≤ l.length := Wi.rLong_le l _
  obtain ⟨a1, ha1⟩ : ∃ a, a = (Wi.rLong l (Wi.rPl l at_ 1)).1 := ⟨_, rfl⟩
  obtain ⟨b1, hb1'⟩ : ∃ b, b = (Wi.rLong l (Wi.rPl l at_ 1)).2.1 := ⟨_, rfl⟩
  rw [← ha1, ← hb1']
  have Ha1 := Lib.hid ha1
  have Hb1 := Lib.hid hb1'
  clear ha1 hb1' hgk
  go_wp2_with fail
  refine (rlong_calls hR2 hr2 hgr hle2 hl).mono ?_
  intro e w3 hpost
  obtain ⟨rfl, hR3, hgk⟩ := hpost.form
  replace hR3 : RRd w3 r (.slice (some ⟨g, o, none⟩) l.length c) (Wi.rPl l at_ 3) := hR3
  have hr3 := hr2.grown hgk (fun _ g' e e' => by cases e; exact hgr (by injection e' with e'; exact e'.symm))
  have hz3 := blk_grown hz2 hgk (fun e => hrR (by injection e))
  have hg3 := World.grownBy.trans hg2 hgk
  have hle3 : Wi.rPl l at_ 3 ≤ l.length := Wi.rLong_le l _
  obtain ⟨a2, ha2⟩ : ∃ a, a = (Wi.rLong l (Wi.rPl l at_ 2)).1 := ⟨_, rfl⟩
  obtain ⟨b2, hb2'⟩ : ∃ b, b = (Wi.rLong l (Wi.rPl l at_ 2)).2.1 := ⟨_, rfl⟩
  rw [← ha2, ← hb2']
  have Ha2 := Lib.hid ha2
  have Hb2 := Lib.hid hb2'
  clear ha2 hb2' hgk
  go_wp2_with fail
  refine (rlong_calls hR3 hr3 hgr hle3 hl).mono ?_
  intro e w4 hpost
  obtain ⟨rfl, hR4, hgk⟩ := hpost.form
  replace hR4 : RRd w4 r (.slice (some ⟨g, o, none⟩) l.length c) (Wi.rPl l at_ 4) := hR4
  have hr4 := hr3.grown hgk (fun _ g' e e' => by cases e; exact hgr (by injection e' with e'; exact e'.symm))
  have hz4 := blk_grown hz3 hgk (fun e => hrR (by injection e))
  have hg4 := World.grownBy.trans hg3 hgk
  have hle4 : Wi.rPl l at_ 4 ≤ l.length := Wi.rLong_le l _
  obtain ⟨a3, ha3⟩ : ∃ a, a = (Wi.rLong l (Wi.rPl l at_ 3)).1 := ⟨_, rfl⟩
  obtain ⟨b3, hb3'⟩ : ∃ b, b = (Wi.rLong l (Wi.rPl l at_ 3)).2.1 := ⟨_, rfl⟩
  rw [← ha3, ← hb3']
  have Ha3 := Lib.hid ha3
  have Hb3 := Lib.hid hb3'
  clear ha3 hb3' hgk
  go_upto_region 5 with fail
  rename_i hnext
  refine wp_region_lit ?_
  refine Og.st_start (n := 38) rfl fun aF hF => ?_
  refine Og.st_same (.int .u64 a0) hF rfl rfl (by decide) (by kernel_rfl) fun aF hF => ?_
  refine Og.st_same (.int .u64 a1) hF rfl rfl (by decide) (by kernel_rfl) fun aF hF => ?_
  refine Og.st_same (.int .u64 a2) hF rfl rfl (by decide) (by kernel_rfl) fun aF hF => ?_
  refine Og.st_same (.int .u64 a3) hF rfl rfl (by decide) (by kernel_rfl) fun aF hF => ?_
  refine Og.st_same (.agg #[.int .u64 a0, .int .u64 a1, .int .u64 a2, .int .u64 a3]) hF rfl rfl (by decide) (by kernel_rfl) fun aF hF => ?_
  refine Og.st_same (.bool b3) hF rfl rfl (by decide) (by kernel_rfl) fun aF hF => ?_
  refine Og.st_skip (w' := w4.setCells w.heap.size 0 [.int .u64 a0, .int .u64 a1, .int .u64 a2, .int .u64 a3]) hF rfl rfl
    (exec_store (o := 0) (vs := [.int .u64 a0, .int .u64 a1, .int .u64 a2, .int .u64 a3]) (cs := [.int .u64 0, .int .u64 0, .int .u64 0, .int .u64 0]) rfl rfl rfl hz4 (Nat.le_refl 4) gens_sz (by intro u hu; simp at hu; rcases hu with rfl | rfl | rfl | rfl <;> rfl)) fun aF hF => ?_
  have hgs := setCells_grown w4 w.heap.size 0 [.int .u64 a0, .int .u64 a1, .int .u64 a2, .int .u64 a3]
  have hz5 := setCells_heap [.int .u64 a0, .int .u64 a1, .int .u64 a2, .int .u64 a3] 0 w4 [.int .u64 0, .int .u64 0, .int .u64 0, .int .u64 0] hz4
  have hR5 := hR4.grown hgs (fun e => hrR e.symm)
  have hg5 := grown_own hg4 hgs (Nat.le_refl _)
  generalize w4.setCells w.heap.size 0 [.int .u64 a0, .int .u64 a1, .int .u64 a2, .int .u64 a3] = w5 at *
  refine Og.st_same (.bool b3) hF rfl rfl (by decide) (by kernel_rfl) fun aF hF => ?_
  refine wpList_nil ?_
  refine hnext _ _ (wp_ret ?_)
  (try simp only [Exit.inBlock, Exit.then])
  refine bodyPost_ret (results_cellTmp rfl (hF.2.2 2) (run_loadAt_mid w5 w.heap.size 0 _ [.int .u64 a0, .int .u64 a1, .int .u64 a2, .int .u64 a3] _ (fun j u hu => by rw [has_cell hz5]; simpa [setAll] using hu) gens_t rfl (by rw [gens_sz]; rfl))) hF.1 ?_
  rw [hF.2.2 3, Ha0.out, Ha1.out, Ha2.out, Ha3.out, Hb3.out]
  exact ⟨rfl, hR5, hg5⟩
end Go.Proofs.YtbgfoobcpacfeaaDoor
