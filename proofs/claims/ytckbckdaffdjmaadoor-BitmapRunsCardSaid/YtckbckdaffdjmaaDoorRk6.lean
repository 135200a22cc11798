/- Walks and plain laws of the packets and frames, joined from: AskC, ChgA, ChgB, ChgC, By, Lw, LwU, LwM3, OpU, StpU. -/
import Derived.Test.YtckbckdaffdjmaaDoorRk5
import Derived.Maps.AppendAt
import Derived.Laws.OwnMore
import Derived.WalkSpells
import Derived.Lib.LazyBuf
import Derived.Test.YtckbckdaffdjmaaDoorCards
import Derived.Test.YtckbckdaffdjmaaDoorTie
import Derived.LaidMore
import Derived.SevenTiedAt
/- ask: the walks of Test, CountRange, Next, NextClear, and of any other kind. -/
namespace Go.Proofs.YtckbckdaffdjmaaDoor
open Go.RowKit
set_option maxRecDepth 100000
set_option linter.unusedVariables false
set_option linter.unusedSimpArgs false

set_option maxHeartbeats 8000000 in
theorem ask_test {w : World} {P p bw ba r bb b n N : Nat} {W : List UInt64} {own : Nat → Prop} {late : Bool} (h : PrB w P p bw ba r bb b n W own late N) (s2 wv bf ac ag : Value) {A B : Int} (hA : (Lit.int .i64 A).wf = true) (hB : (Lit.int .i64 B).wf = true) :
    Calls Tryd.prog 18 #[.pointer (some ⟨P, 0, none⟩), .agg #[.int .i64 6, s2, .int .i64 A, .int .i64 B, wv, bf, ac, ag]] w (AskP w b own late N) := by
  obtain ⟨w0, D, hw0, hD, hrd, hb0⟩ := boxedOp w [.int .i64 6, s2, .int .i64 A, .int .i64 B, wv, bf, ac, ag]
  have HH := Lib.hid h
  have h0 := h.below hb0
  have HB0 := Lib.hid hb0
  have cd0 := hrd.cell (i := 0) rfl
  have cd2 := hrd.cell (i := 2) rfl
  have cd3 := hrd.cell (i := 3) rfl
  have ld := heap_lt hrd
  have cp0 := h0.pr.hP.cell (i := 0) rfl
  have cp1 := h0.pr.hP.cell (i := 1) rfl
  have lp := heap_lt h0.pr.hP
  have HM := Lib.hid h0.pr.hm
  have HR := Lib.hid h0.pr.hr
  have HAW := Lib.hid hA
  have HBW := Lib.hid hB
  skip
  go_enter Tryd.func18, Tryd.ntmps18
  go_upto_region 1 with fail
  rw [← hw0, ← hD]
  clear h hrd hw0 hD h0 hA hB hb0
  go_upto_region 3 with fail
  refine wp_region_R (Below w0.heap.size w0) (by kernel_rfl) (by kernel_rfl) (by first | exact Below.refl _ _ | exact below_alloc1 _ _ | exact below_alloc2 _ _ _ | exact below_alloc3 _ _ _ _ | (repeat' (first | assumption | exact Below.refl _ _ | exact below_alloc1 _ _ | exact below_alloc2 _ _ _ | exact below_alloc3 _ _ _ _ | (refine Below.drew ?_) | (refine below_wb ?_ ?_) | (refine Below.alloc ?_ ?_ _) | omega | (simp; done) | (simp; omega)))) ?_
  (repeat (first | (apply wpR_pass rfl; (try simp only [Act.put, List.setIfInBounds_toArray, List.set_cons_succ, List.set_cons_zero])) | (apply wpR_val rfl; (focus (intro w1 hR; obtain ⟨hc, hf⟩ := bcellB hR; (try go_simp); (try exact Eq.refl _); done)); (try simp only [Act.put, List.setIfInBounds_toArray, List.set_cons_succ, List.set_cons_zero])) | (apply wpR_call rfl; (focus (intro w1 hR; obtain ⟨hc, hf⟩ := bcellB hR; (try go_simp); (try exact And.intro rfl rfl); done)); (focus (intro w1 hR; first | exact (test_any (HM.out.below hR) A).at_ (by first | omega | (simp; done) | (simp; omega)) hR)); (try simp only [Act.put, List.setIfInBounds_toArray, List.set_cons_succ, List.set_cons_zero])) | (apply wpR_val_want rfl; (focus (intro w1 hR; obtain ⟨hc, hf⟩ := bcellB hR; (try go_simp); (try exact Eq.refl _); done)); (try simp only [Act.put, List.setIfInBounds_toArray, List.set_cons_succ, List.set_cons_zero])) | (apply wpR_call_want rfl; (focus (intro w1 hR; obtain ⟨hc, hf⟩ := bcellB hR; (try go_simp); (try exact And.intro rfl rfl); done)); (focus (intro w1 hR; first | exact (test_any (HM.out.below hR) A).at_ (by first | omega | (simp; done) | (simp; omega)) hR)); (try simp only [Act.put, List.setIfInBounds_toArray, List.set_cons_succ, List.set_cons_zero]))))
  refine wpR_nil (fun w1 hb1 => ?_)
  have HB1 := Lib.hid hb1
  have e2 := ((bcell hb1).1 _ 2 ld).trans cd2
  have e3 := ((bcell hb1).1 _ 3 ld).trans cd3
  have q0 := ((bcell hb1).1 _ 0 lp).trans cp0
  have q1 := ((bcell hb1).1 _ 1 lp).trans cp1
  have ld1 := Nat.lt_of_lt_of_le ld hb1.size
  have lp1 := Nat.lt_of_lt_of_le lp hb1.size
  have HR1 := Lib.hid (HR.out.below hb1)
  clear hb1 cd0 cd2 cd3 cp0 cp1 ld lp
  go_upto_region 4 with fail
  refine wp_region_R (Below w1.heap.size w1) (by kernel_rfl) (by kernel_rfl) (by first | exact Below.refl _ _ | exact below_alloc1 _ _ | exact below_alloc2 _ _ _ | exact below_alloc3 _ _ _ _ | (repeat' (first | assumption | exact Below.refl _ _ | exact below_alloc1 _ _ | exact below_alloc2 _ _ _ | exact below_alloc3 _ _ _ _ | (refine Below.drew ?_) | (refine below_wb ?_ ?_) | (refine Below.alloc ?_ ?_ _) | omega | (simp; done) | (simp; omega)))) ?_
  (repeat (first | (apply wpR_pass rfl; (try simp only [Act.put, List.setIfInBounds_toArray, List.set_cons_succ, List.set_cons_zero])) | (apply wpR_val rfl; (focus (intro w1 hR; obtain ⟨hc, hf⟩ := bcellB hR; (try go_simp); (try exact Eq.refl _); done)); (try simp only [Act.put, List.setIfInBounds_toArray, List.set_cons_succ, List.set_cons_zero])) | (apply wpR_call rfl; (focus (intro w1 hR; obtain ⟨hc, hf⟩ := bcellB hR; (try go_simp); (try exact And.intro rfl rfl); done)); (focus (intro w1 hR; first | exact (rtest_any (HR1.out.below hR) A).at_ (by first | omega | (simp; done) | (simp; omega)) hR)); (try simp only [Act.put, List.setIfInBounds_toArray, List.set_cons_succ, List.set_cons_zero])) | (apply wpR_val_want rfl; (focus (intro w1 hR; obtain ⟨hc, hf⟩ := bcellB hR; (try go_simp); (try exact Eq.refl _); done)); (try simp only [Act.put, List.setIfInBounds_toArray, List.set_cons_succ, List.set_cons_zero])) | (apply wpR_call_want rfl; (focus (intro w1 hR; obtain ⟨hc, hf⟩ := bcellB hR; (try go_simp); (try exact And.intro rfl rfl); done)); (focus (intro w1 hR; first | exact (rtest_any (HR1.out.below hR) A).at_ (by first | omega | (simp; done) | (simp; omega)) hR)); (try simp only [Act.put, List.setIfInBounds_toArray, List.set_cons_succ, List.set_cons_zero]))))
  refine wpR_nil (fun w2 hb2 => ?_)
  go_wp2_with fail
  go_ret
  exact AskP.pure HH.out.bk (HB0.out.trans ((HB1.out.trans (hb2.mono HB1.out.size)).mono HB0.out.size))
set_option maxHeartbeats 8000000 in
theorem ask_countrange {w : World} {P p bw ba r bb b n N : Nat} {W : List UInt64} {own : Nat → Prop} {late : Bool} (h : PrB w P p bw ba r bb b n W own late N) (s2 wv bf ac ag : Value) {A B : Int} (hA : (Lit.int .i64 A).wf = true) (hB : (Lit.int .i64 B).wf = true) :
    Calls Tryd.prog 18 #[.pointer (some ⟨P, 0, none⟩), .agg #[.int .i64 8, s2, .int .i64 A, .int .i64 B, wv, bf, ac, ag]] w (AskP w b own late N) := by
  obtain ⟨w0, D, hw0, hD, hrd, hb0⟩ := boxedOp w [.int .i64 8, s2, .int .i64 A, .int .i64 B, wv, bf, ac, ag]
  have HH := Lib.hid h
  have h0 := h.below hb0
  have HB0 := Lib.hid hb0
  have cd0 := hrd.cell (i := 0) rfl
  have cd2 := hrd.cell (i := 2) rfl
  have cd3 := hrd.cell (i := 3) rfl
  have ld := heap_lt hrd
  have cp0 := h0.pr.hP.cell (i := 0) rfl
  have cp1 := h0.pr.hP.cell (i := 1) rfl
  have lp := heap_lt h0.pr.hP
  have HM := Lib.hid h0.pr.hm
  have HR := Lib.hid h0.pr.hr
  have HAW := Lib.hid hA
  have HBW := Lib.hid hB
  skip
  go_enter Tryd.func18, Tryd.ntmps18
  go_upto_region 1 with fail
  rw [← hw0, ← hD]
  clear h hrd hw0 hD h0 hA hB hb0
  go_upto_region 9 with fail
  refine wp_region_R (Below w0.heap.size w0) (by kernel_rfl) (by kernel_rfl) (by first | exact Below.refl _ _ | exact below_alloc1 _ _ | exact below_alloc2 _ _ _ | exact below_alloc3 _ _ _ _ | (repeat' (first | assumption | exact Below.refl _ _ | exact below_alloc1 _ _ | exact below_alloc2 _ _ _ | exact below_alloc3 _ _ _ _ | (refine Below.drew ?_) | (refine below_wb ?_ ?_) | (refine Below.alloc ?_ ?_ _) | omega | (simp; done) | (simp; omega)))) ?_
  (repeat (first | (apply wpR_pass rfl; (try simp only [Act.put, List.setIfInBounds_toArray, List.set_cons_succ, List.set_cons_zero])) | (apply wpR_val rfl; (focus (intro w1 hR; obtain ⟨hc, hf⟩ := bcellB hR; (try go_simp); (try exact Eq.refl _); done)); (try simp only [Act.put, List.setIfInBounds_toArray, List.set_cons_succ, List.set_cons_zero])) | (apply wpR_call rfl; (focus (intro w1 hR; obtain ⟨hc, hf⟩ := bcellB hR; (try go_simp); (try exact And.intro rfl rfl); done)); (focus (intro w1 hR; first | exact (countrange_any (HM.out.below hR) HAW.out HBW.out).at_ (by first | omega | (simp; done) | (simp; omega)) hR)); (try simp only [Act.put, List.setIfInBounds_toArray, List.set_cons_succ, List.set_cons_zero])) | (apply wpR_val_want rfl; (focus (intro w1 hR; obtain ⟨hc, hf⟩ := bcellB hR; (try go_simp); (try exact Eq.refl _); done)); (try simp only [Act.put, List.setIfInBounds_toArray, List.set_cons_succ, List.set_cons_zero])) | (apply wpR_call_want rfl; (focus (intro w1 hR; obtain ⟨hc, hf⟩ := bcellB hR; (try go_simp); (try exact And.intro rfl rfl); done)); (focus (intro w1 hR; first | exact (countrange_any (HM.out.below hR) HAW.out HBW.out).at_ (by first | omega | (simp; done) | (simp; omega)) hR)); (try simp only [Act.put, List.setIfInBounds_toArray, List.set_cons_succ, List.set_cons_zero]))))
  refine wpR_nil (fun w1 hb1 => ?_)
  have HB1 := Lib.hid hb1
  have e2 := ((bcell hb1).1 _ 2 ld).trans cd2
  have e3 := ((bcell hb1).1 _ 3 ld).trans cd3
  have q0 := ((bcell hb1).1 _ 0 lp).trans cp0
  have q1 := ((bcell hb1).1 _ 1 lp).trans cp1
  have ld1 := Nat.lt_of_lt_of_le ld hb1.size
  have lp1 := Nat.lt_of_lt_of_le lp hb1.size
  have HR1 := Lib.hid (HR.out.below hb1)
  clear hb1 cd0 cd2 cd3 cp0 cp1 ld lp
  go_upto_region 10 with fail
  refine wp_region_R (Below w1.heap.size w1) (by kernel_rfl) (by kernel_rfl) (by first | exact Below.refl _ _ | exact below_alloc1 _ _ | exact below_alloc2 _ _ _ | exact below_alloc3 _ _ _ _ | (repeat' (first | assumption | exact Below.refl _ _ | exact below_alloc1 _ _ | exact below_alloc2 _ _ _ | exact below_alloc3 _ _ _ _ | (refine Below.drew ?_) | (refine below_wb ?_ ?_) | (refine Below.alloc ?_ ?_ _) | omega | (simp; done) | (simp; omega)))) ?_
  (repeat (first | (apply wpR_pass rfl; (try simp only [Act.put, List.setIfInBounds_toArray, List.set_cons_succ, List.set_cons_zero])) | (apply wpR_val rfl; (focus (intro w1 hR; obtain ⟨hc, hf⟩ := bcellB hR; (try go_simp); (try exact Eq.refl _); done)); (try simp only [Act.put, List.setIfInBounds_toArray, List.set_cons_succ, List.set_cons_zero])) | (apply wpR_call rfl; (focus (intro w1 hR; obtain ⟨hc, hf⟩ := bcellB hR; (try go_simp); (try exact And.intro rfl rfl); done)); (focus (intro w1 hR; first | exact (rcountrange_any (HR1.out.below hR) HAW.out HBW.out).at_ (by first | omega | (simp; done) | (simp; omega)) hR)); (try simp only [Act.put, List.setIfInBounds_toArray, List.set_cons_succ, List.set_cons_zero])) | (apply wpR_val_want rfl; (focus (intro w1 hR; obtain ⟨hc, hf⟩ := bcellB hR; (try go_simp); (try exact Eq.refl _); done)); (try simp only [Act.put, List.setIfInBounds_toArray, List.set_cons_succ, List.set_cons_zero])) | (apply wpR_call_want rfl; (focus (intro w1 hR; obtain ⟨hc, hf⟩ := bcellB hR; (try go_simp); (try exact And.intro rfl rfl); done)); (focus (intro w1 hR; first | exact (rcountrange_any (HR1.out.below hR) HAW.out HBW.out).at_ (by first | omega | (simp; done) | (simp; omega)) hR)); (try simp only [Act.put, List.setIfInBounds_toArray, List.set_cons_succ, List.set_cons_zero]))))
  refine wpR_nil (fun w2 hb2 => ?_)
  go_wp2_with fail
  go_ret
  exact AskP.pure HH.out.bk (HB0.out.trans ((HB1.out.trans (hb2.mono HB1.out.size)).mono HB0.out.size))
set_option maxHeartbeats 8000000 in
theorem ask_next {w : World} {P p bw ba r bb b n N : Nat} {W : List UInt64} {own : Nat → Prop} {late : Bool} (h : PrB w P p bw ba r bb b n W own late N) (hT : Tz w) (s2 wv bf ac ag : Value) {A B : Int} (hA : (Lit.int .i64 A).wf = true) (hB : (Lit.int .i64 B).wf = true) :
    Calls Tryd.prog 18 #[.pointer (some ⟨P, 0, none⟩), .agg #[.int .i64 9, s2, .int .i64 A, .int .i64 B, wv, bf, ac, ag]] w (AskP w b own late N) := by
  obtain ⟨w0, D, hw0, hD, hrd, hb0⟩ := boxedOp w [.int .i64 9, s2, .int .i64 A, .int .i64 B, wv, bf, ac, ag]
  have HH := Lib.hid h
  have h0 := h.below hb0
  have HB0 := Lib.hid hb0
  have cd0 := hrd.cell (i := 0) rfl
  have cd2 := hrd.cell (i := 2) rfl
  have cd3 := hrd.cell (i := 3) rfl
  have ld := heap_lt hrd
  have cp0 := h0.pr.hP.cell (i := 0) rfl
  have cp1 := h0.pr.hP.cell (i := 1) rfl
  have lp := heap_lt h0.pr.hP
  have HM := Lib.hid h0.pr.hm
  have HR := Lib.hid h0.pr.hr
  have HAW := Lib.hid hA
  have HBW := Lib.hid hB
  have HT := Lib.hid (hT.below hb0); clear hT
  go_enter Tryd.func18, Tryd.ntmps18
  go_upto_region 1 with fail
  rw [← hw0, ← hD]
  clear h hrd hw0 hD h0 hA hB hb0
  go_upto_region 13 with fail
  refine wp_region_R (Below w0.heap.size w0) (by kernel_rfl) (by kernel_rfl) (by first | exact Below.refl _ _ | exact below_alloc1 _ _ | exact below_alloc2 _ _ _ | exact below_alloc3 _ _ _ _ | (repeat' (first | assumption | exact Below.refl _ _ | exact below_alloc1 _ _ | exact below_alloc2 _ _ _ | exact below_alloc3 _ _ _ _ | (refine Below.drew ?_) | (refine below_wb ?_ ?_) | (refine Below.alloc ?_ ?_ _) | omega | (simp; done) | (simp; omega)))) ?_
  (repeat (first | (apply wpR_pass rfl; (try simp only [Act.put, List.setIfInBounds_toArray, List.set_cons_succ, List.set_cons_zero])) | (apply wpR_val rfl; (focus (intro w1 hR; obtain ⟨hc, hf⟩ := bcellB hR; (try go_simp); (try exact Eq.refl _); done)); (try simp only [Act.put, List.setIfInBounds_toArray, List.set_cons_succ, List.set_cons_zero])) | (apply wpR_call rfl; (focus (intro w1 hR; obtain ⟨hc, hf⟩ := bcellB hR; (try go_simp); (try exact And.intro rfl rfl); done)); (focus (intro w1 hR; first | exact (next_calls (HM.out.below hR) (HT.out.below hR) HAW.out).at_ (by first | omega | (simp; done) | (simp; omega)) hR | exact (rfind_true (HR.out.below hR) HAW.out).at_ (by first | omega | (simp; done) | (simp; omega)) hR)); (try simp only [Act.put, List.setIfInBounds_toArray, List.set_cons_succ, List.set_cons_zero])) | (apply wpR_val_want rfl; (focus (intro w1 hR; obtain ⟨hc, hf⟩ := bcellB hR; (try go_simp); (try exact Eq.refl _); done)); (try simp only [Act.put, List.setIfInBounds_toArray, List.set_cons_succ, List.set_cons_zero])) | (apply wpR_call_want rfl; (focus (intro w1 hR; obtain ⟨hc, hf⟩ := bcellB hR; (try go_simp); (try exact And.intro rfl rfl); done)); (focus (intro w1 hR; first | exact (next_calls (HM.out.below hR) (HT.out.below hR) HAW.out).at_ (by first | omega | (simp; done) | (simp; omega)) hR | exact (rfind_true (HR.out.below hR) HAW.out).at_ (by first | omega | (simp; done) | (simp; omega)) hR)); (try simp only [Act.put, List.setIfInBounds_toArray, List.set_cons_succ, List.set_cons_zero]))))
  refine wpR_nil (fun w1 hb1 => ?_)
  go_wp2_with fail
  go_ret
  exact AskP.pure HH.out.bk (HB0.out.trans (hb1.mono HB0.out.size))
set_option maxHeartbeats 8000000 in
theorem ask_nextclear {w : World} {P p bw ba r bb b n N : Nat} {W : List UInt64} {own : Nat → Prop} {late : Bool} (h : PrB w P p bw ba r bb b n W own late N) (hT : Tz w) (s2 wv bf ac ag : Value) {A B : Int} (hA : (Lit.int .i64 A).wf = true) (hB : (Lit.int .i64 B).wf = true) :
    Calls Tryd.prog 18 #[.pointer (some ⟨P, 0, none⟩), .agg #[.int .i64 10, s2, .int .i64 A, .int .i64 B, wv, bf, ac, ag]] w (AskP w b own late N) := by
  obtain ⟨w0, D, hw0, hD, hrd, hb0⟩ := boxedOp w [.int .i64 10, s2, .int .i64 A, .int .i64 B, wv, bf, ac, ag]
  have HH := Lib.hid h
  have h0 := h.below hb0
  have HB0 := Lib.hid hb0
  have cd0 := hrd.cell (i := 0) rfl
  have cd2 := hrd.cell (i := 2) rfl
  have cd3 := hrd.cell (i := 3) rfl
  have ld := heap_lt hrd
  have cp0 := h0.pr.hP.cell (i := 0) rfl
  have cp1 := h0.pr.hP.cell (i := 1) rfl
  have lp := heap_lt h0.pr.hP
  have HM := Lib.hid h0.pr.hm
  have HR := Lib.hid h0.pr.hr
  have HAW := Lib.hid hA
  have HBW := Lib.hid hB
  have HT := Lib.hid (hT.below hb0); clear hT
  go_enter Tryd.func18, Tryd.ntmps18
  go_upto_region 1 with fail
  rw [← hw0, ← hD]
  clear h hrd hw0 hD h0 hA hB hb0
  go_upto_region 15 with fail
  refine wp_region_R (Below w0.heap.size w0) (by kernel_rfl) (by kernel_rfl) (by first | exact Below.refl _ _ | exact below_alloc1 _ _ | exact below_alloc2 _ _ _ | exact below_alloc3 _ _ _ _ | (repeat' (first | assumption | exact Below.refl _ _ | exact below_alloc1 _ _ | exact below_alloc2 _ _ _ | exact below_alloc3 _ _ _ _ | (refine Below.drew ?_) | (refine below_wb ?_ ?_) | (refine Below.alloc ?_ ?_ _) | omega | (simp; done) | (simp; omega)))) ?_
  (repeat (first | (apply wpR_pass rfl; (try simp only [Act.put, List.setIfInBounds_toArray, List.set_cons_succ, List.set_cons_zero])) | (apply wpR_val rfl; (focus (intro w1 hR; obtain ⟨hc, hf⟩ := bcellB hR; (try go_simp); (try exact Eq.refl _); done)); (try simp only [Act.put, List.setIfInBounds_toArray, List.set_cons_succ, List.set_cons_zero])) | (apply wpR_call rfl; (focus (intro w1 hR; obtain ⟨hc, hf⟩ := bcellB hR; (try go_simp); (try exact And.intro rfl rfl); done)); (focus (intro w1 hR; first | exact (nextclear_calls (HM.out.below hR) (HT.out.below hR) HAW.out).at_ (by first | omega | (simp; done) | (simp; omega)) hR | exact (rfind_false (HR.out.below hR) HAW.out).at_ (by first | omega | (simp; done) | (simp; omega)) hR)); (try simp only [Act.put, List.setIfInBounds_toArray, List.set_cons_succ, List.set_cons_zero])) | (apply wpR_val_want rfl; (focus (intro w1 hR; obtain ⟨hc, hf⟩ := bcellB hR; (try go_simp); (try exact Eq.refl _); done)); (try simp only [Act.put, List.setIfInBounds_toArray, List.set_cons_succ, List.set_cons_zero])) | (apply wpR_call_want rfl; (focus (intro w1 hR; obtain ⟨hc, hf⟩ := bcellB hR; (try go_simp); (try exact And.intro rfl rfl); done)); (focus (intro w1 hR; first | exact (nextclear_calls (HM.out.below hR) (HT.out.below hR) HAW.out).at_ (by first | omega | (simp; done) | (simp; omega)) hR | exact (rfind_false (HR.out.below hR) HAW.out).at_ (by first | omega | (simp; done) | (simp; omega)) hR)); (try simp only [Act.put, List.setIfInBounds_toArray, List.set_cons_succ, List.set_cons_zero]))))
  refine wpR_nil (fun w1 hb1 => ?_)
  go_wp2_with fail
  go_ret
  exact AskP.pure HH.out.bk (HB0.out.trans (hb1.mono HB0.out.size))
end Go.Proofs.YtckbckdaffdjmaaDoor

/- What changes a pair, whatever its arguments. -/
namespace Go.Proofs.YtckbckdaffdjmaaDoor
open Go.RowKit
set_option maxRecDepth 100000
set_option linter.unusedVariables false
set_option linter.unusedSimpArgs false

namespace Bm
def setI (n : Nat) (W : List UInt64) (i : Int) (to : Bool) : List UInt64 := if i < 0 ∨ (n : Int) ≤ i then W else setW n W i.toNat (i.toNat + 1) to
def setB (n : Nat) (W : List UInt64) (i : Int) (to : Bool) : Bool := if i < 0 ∨ (n : Int) ≤ i then false else (bit W i.toNat != to)
def setR (n : Nat) (W : List UInt64) (f c : Int) (to : Bool) : List UInt64 := if rangeE n f c = 0 then setW n W f.toNat (f.toNat + c.toNat) to else W
def setV (n : Nat) (W : List UInt64) (f c : Int) (to : Bool) : Nat := if rangeE n f c = 0 then cnt (fun i => bit W i != to) f.toNat c.toNat else 0
def merW (n : Nat) (W V : List UInt64) : List UInt64 := if validE n V = 0 then mer W V else W
def merV (n : Nat) (W V : List UInt64) : Nat := if validE n V = 0 then cnt (fun i => bit V i && !bit W i) 0 n else 0
theorem cnt_ne (g : Nat → Bool) (f c : Nat) : cnt (fun i => g i != true) f c = c - cnt g f c := by
  have := cnt_not g f c
  have h : cnt (fun i => g i != true) f c = cnt (fun i => !g i) f c := cnt_congr c fun t _ => by cases g (f + t) <;> rfl
  omega
theorem cnt_nf (g : Nat → Bool) (f c : Nat) : cnt (fun i => g i != false) f c = cnt g f c := cnt_congr c fun t _ => by cases g (f + t) <;> rfl
end Bm
section
variable {w : World} {p bw ba n : Nat} {W : List UInt64} {r bb : Nat}
/-- The program's bitmap behind a change. -/
def ChB (w : World) (p bw ba n : Nat) (W' : List UInt64) (v : Value) (e : Ending) (w' : World) : Prop := e = .returned v ∧ BM w' p bw ba n W' ∧ Mod (BM.At p bw ba) w w'
def ChR (w : World) (r bb n : Nat) (W' : List UInt64) (v : Value) (e : Ending) (w' : World) : Prop := e = .returned v ∧ RM w' r bb (Bm.bools n W') ∧ Mod (fun k => k = bb) w w'
theorem ChB.pure {f : FuncId} {args : Array Value} {v : Value} (h : BM w p bw ba n W) (hp : Pur Tryd.prog f args w v) : Calls Tryd.prog f args w (ChB w p bw ba n W v) := hp.out.mono fun e w' ⟨he, hb⟩ => ⟨he, h.below hb, Mod.of_below hb⟩
theorem ChR.pure {f : FuncId} {args : Array Value} {v : Value} (h : RM w r bb (Bm.bools n W)) (hp : Pur Tryd.prog f args w v) : Calls Tryd.prog f args w (ChR w r bb n W v) := hp.out.mono fun e w' ⟨he, hb⟩ => ⟨he, h.below hb, Mod.of_below hb⟩
theorem set_u (h : BM w p bw ba n W) (i : Int) : Calls Tryd.prog 28 #[.pointer (some ⟨p, 0, none⟩), .int .i64 i] w (ChB w p bw ba n (Bm.setI n W i true) (.tuple #[.bool (Bm.setB n W i true), .int .i64 (Bm.tE n i : Nat)])) := by
  unfold Bm.setI Bm.setB Bm.tE
  by_cases hi : i < 0 ∨ (n : Int) ≤ i
  · rw [if_pos hi, if_pos hi, if_pos hi]; exact ChB.pure h (set_err h hi)
  · obtain ⟨m, rfl⟩ : ∃ m : Nat, i = m := ⟨i.toNat, by omega⟩
    rw [if_neg hi, if_neg hi, if_neg hi, Int.toNat_natCast]
    refine (set_calls h (i := m) (by omega)).mono fun e w' ⟨he, h1, h2⟩ => ⟨?_, h1, h2⟩
    rw [he]; cases Bm.bit W m <;> rfl
theorem clear_u (h : BM w p bw ba n W) (i : Int) : Calls Tryd.prog 34 #[.pointer (some ⟨p, 0, none⟩), .int .i64 i] w (ChB w p bw ba n (Bm.setI n W i false) (.tuple #[.bool (Bm.setB n W i false), .int .i64 (Bm.tE n i : Nat)])) := by
  unfold Bm.setI Bm.setB Bm.tE
  by_cases hi : i < 0 ∨ (n : Int) ≤ i
  · rw [if_pos hi, if_pos hi, if_pos hi]; exact ChB.pure h (clear_err h hi)
  · obtain ⟨m, rfl⟩ : ∃ m : Nat, i = m := ⟨i.toNat, by omega⟩
    rw [if_neg hi, if_neg hi, if_neg hi, Int.toNat_natCast]
    refine (clear_calls h (i := m) (by omega)).mono fun e w' ⟨he, h1, h2⟩ => ⟨?_, h1, h2⟩
    rw [he]; cases Bm.bit W m <;> rfl
theorem rput_u (hok : Bm.Ok n W) (h : RM w r bb (Bm.bools n W)) (i : Int) (to : Bool) : Calls Tryd.prog 101 #[.pointer (some ⟨r, 0, none⟩), .int .i64 i, .bool to] w (ChR w r bb n (Bm.setI n W i to) (.tuple #[.bool (Bm.setB n W i to), .int .i64 (Bm.tE n i : Nat)])) := by
  unfold Bm.setI Bm.setB Bm.tE
  by_cases hi : i < 0 ∨ (n : Int) ≤ i
  · rw [if_pos hi, if_pos hi, if_pos hi]; exact ChR.pure h (rput_err h (by rw [Bm.bools_length]; exact hi) to)
  · obtain ⟨m, rfl⟩ : ∃ m : Nat, i = m := ⟨i.toNat, by omega⟩
    rw [if_neg hi, if_neg hi, if_neg hi, Int.toNat_natCast]
    refine (rput_calls h (i := m) (by rw [Bm.bools_length]; omega) to).mono fun e w' ⟨he, h1, h2⟩ => ⟨?_, by rw [Bm.setW_bools hok]; exact h1, h2⟩
    rw [he, Bm.bools_getD, decide_eq_true (by omega), Bool.true_and]; rfl
theorem setrange_u (h : BM w p bw ba n W) {f c : Int} (h1 : (Lit.int .i64 f).wf = true) (h2 : (Lit.int .i64 c).wf = true) : Calls Tryd.prog 67 #[.pointer (some ⟨p, 0, none⟩), .int .i64 f, .int .i64 c] w (ChB w p bw ba n (Bm.setR n W f c true) (.tuple #[.int .i64 (Bm.setV n W f c true : Nat), .int .i64 (Bm.rangeE n f c : Nat)])) := by
  unfold Bm.setR Bm.setV
  by_cases he : Bm.rangeE n f c = 0
  · obtain ⟨k1, k2, k3, k4⟩ := Bm.rangeE_ok he
    rw [if_pos he, if_pos he, he]
    obtain ⟨a, rfl⟩ : ∃ a : Nat, f = a := ⟨f.toNat, by omega⟩
    obtain ⟨b, rfl⟩ : ∃ b : Nat, c = b := ⟨c.toNat, by omega⟩
    rw [Int.toNat_natCast, Int.toNat_natCast]
    have ho := Bm.ones_setW (to := true) h.ok (f := a) (c := b) (by omega)
    have hl := Bm.cnt_le (Bm.bit W) a b
    rw [if_pos rfl] at ho
    refine (setrange_calls h (f := a) (c := b) (by omega)).mono fun e w' ⟨he, h1, h2⟩ => ⟨?_, h1, h2⟩
    rw [he, Bm.cnt_ne, show ((Bm.ones' (Bm.setW n W a (a + b) true) : Nat) : Int) - (Bm.ones' W : Nat) = ((b - Bm.cnt (Bm.bit W) a b : Nat) : Int) by omega]; rfl
  · rw [if_neg he, if_neg he]; exact ChB.pure h (setrange_err h h1 h2 he)
theorem clearrange_u (h : BM w p bw ba n W) {f c : Int} (h1 : (Lit.int .i64 f).wf = true) (h2 : (Lit.int .i64 c).wf = true) : Calls Tryd.prog 68 #[.pointer (some ⟨p, 0, none⟩), .int .i64 f, .int .i64 c] w (ChB w p bw ba n (Bm.setR n W f c false) (.tuple #[.int .i64 (Bm.setV n W f c false : Nat), .int .i64 (Bm.rangeE n f c : Nat)])) := by
  unfold Bm.setR Bm.setV
  by_cases he : Bm.rangeE n f c = 0
  · obtain ⟨k1, k2, k3, k4⟩ := Bm.rangeE_ok he
    rw [if_pos he, if_pos he, he]
    obtain ⟨a, rfl⟩ : ∃ a : Nat, f = a := ⟨f.toNat, by omega⟩
    obtain ⟨b, rfl⟩ : ∃ b : Nat, c = b := ⟨c.toNat, by omega⟩
    rw [Int.toNat_natCast, Int.toNat_natCast]
    have ho := Bm.ones_setW (to := false) h.ok (f := a) (c := b) (by omega)
    rw [if_neg (by decide)] at ho
    refine (clearrange_calls h (f := a) (c := b) (by omega)).mono fun e w' ⟨he, h1, h2⟩ => ⟨?_, h1, h2⟩
    rw [he, Bm.cnt_nf, show ((Bm.ones' W : Nat) : Int) - (Bm.ones' (Bm.setW n W a (a + b) false) : Nat) = ((Bm.cnt (Bm.bit W) a b : Nat) : Int) by omega]; rfl
  · rw [if_neg he, if_neg he]; exact ChB.pure h (clearrange_err h h1 h2 he)
theorem rputrange_u (hok : Bm.Ok n W) (h : RM w r bb (Bm.bools n W)) {f c : Int} (h1 : (Lit.int .i64 f).wf = true) (h2 : (Lit.int .i64 c).wf = true) (to : Bool) : Calls Tryd.prog 102 #[.pointer (some ⟨r, 0, none⟩), .int .i64 f, .int .i64 c, .bool to] w (ChR w r bb n (Bm.setR n W f c to) (.tuple #[.int .i64 (Bm.setV n W f c to : Nat), .int .i64 (Bm.rangeE n f c : Nat)])) := by
  unfold Bm.setR Bm.setV
  by_cases he : Bm.rangeE n f c = 0
  · obtain ⟨k1, k2, k3, k4⟩ := Bm.rangeE_ok he
    rw [if_pos he, if_pos he, he]
    obtain ⟨a, rfl⟩ : ∃ a : Nat, f = a := ⟨f.toNat, by omega⟩
    obtain ⟨b, rfl⟩ : ∃ b : Nat, c = b := ⟨c.toNat, by omega⟩
    rw [Int.toNat_natCast, Int.toNat_natCast]
    refine (rputrange_calls h (f := a) (c := b) (by rw [Bm.bools_length]; omega) to).mono fun e w' ⟨he, h1, h2⟩ => ⟨?_, by rw [Bm.setW_bools hok]; exact h1, h2⟩
    rw [he, Bm.cnt_congr (g := fun i => Bm.bit W i != to) (b := a) b (fun t ht => by show ((Bm.bools n W).getD (a + t) false != to) = _; rw [Bm.bools_getD, decide_eq_true (by omega), Bool.true_and])]; rfl
  · rw [if_neg he, if_neg he]
    have := rputrange_err h h1 h2 (by rw [Bm.bools_length]; exact he) to
    rw [Bm.bools_length] at this
    exact ChR.pure h this
theorem merge_u (h : BM w p bw ba n W) {v : Value} {V : List UInt64} (hv : RU w v V) (hne : ∀ g, v.ownBlock = some g → ¬ BM.At p bw ba g) : Calls Tryd.prog 43 #[.pointer (some ⟨p, 0, none⟩), v] w (ChB w p bw ba n (Bm.merW n W V) (.tuple #[.int .i64 (Bm.merV n W V : Nat), .int .i64 (Bm.validE n V : Nat)])) := by
  unfold Bm.merW Bm.merV
  by_cases he : Bm.validE n V = 0
  · rw [if_pos he, if_pos he, he]
    have hok := Bm.ok_of_valid h.ok.pos h.ok.max he
    have ho := Bm.ones_mer h.ok hok
    refine (merge_calls h hv hok hne).mono fun e w' ⟨he, h1, h2⟩ => ⟨?_, h1, h2⟩
    rw [he, show ((Bm.ones' (Bm.mer W V) : Nat) : Int) - (Bm.ones' W : Nat) = ((Bm.cnt (fun i => Bm.bit V i && !Bm.bit W i) 0 n : Nat) : Int) by omega]; rfl
  · rw [if_neg he, if_neg he]; exact ChB.pure h (merge_err h hv he)
theorem rmerge_u (hok : Bm.Ok n W) (h : RM w r bb (Bm.bools n W)) {v : Value} {V : List UInt64} (hv : RU w v V) : Calls Tryd.prog 66 #[.pointer (some ⟨r, 0, none⟩), v] w (ChR w r bb n (Bm.merW n W V) (.tuple #[.int .i64 (Bm.merV n W V : Nat), .int .i64 (Bm.validE n V : Nat)])) := by
  unfold Bm.merW Bm.merV
  have hbl := Bm.bools_length n W
  by_cases he : Bm.validE n V = 0
  · rw [if_pos he, if_pos he, he]
    have hov := Bm.ok_of_valid hok.pos hok.max he
    have := rmerge_calls h hv (by rw [hbl]; exact hov)
    rw [hbl, Bm.merB_bools hok hov] at this
    refine this.mono fun e w' ⟨he, h1, h2⟩ => ⟨?_, h1, h2⟩
    rw [he, Bm.cnt_congr (g := fun i => Bm.bit V i && !Bm.bit W i) (b := 0) n (fun t ht => by show ((Bm.bools n V).getD (0 + t) false && !(Bm.bools n W).getD (0 + t) false) = _; rw [Bm.bools_getD, Bm.bools_getD, decide_eq_true (by omega), Bool.true_and, Bool.true_and])]; rfl
  · rw [if_neg he, if_neg he]
    have := rmerge_err h hv (by rw [hbl]; exact hok.pos) (by rw [hbl]; exact he)
    rw [hbl] at this
    exact ChR.pure h this
end
end Go.Proofs.YtckbckdaffdjmaaDoor

/- change: Set, Clear, SetRange, ClearRange. (Printed by wip/w7gen/mkchg3.py.) -/
namespace Go.Proofs.YtckbckdaffdjmaaDoor
open Go.RowKit
set_option maxRecDepth 100000
set_option linter.unusedVariables false
set_option linter.unusedSimpArgs false

/-- What a change of the pair leaves. -/
def ChgP (w : World) (P p bw ba r bb b n N : Nat) (own : Nat → Prop) (late : Bool) (e : Ending) (w' : World) : Prop :=
  e = .returned (.bool true) ∧ ∃ own' W', PrB w' P p bw ba r bb b n W' own' late (N + 2) ∧ (∀ k, k < w.heap.size → (own' k ↔ own k)) ∧ Mod (fun k => own k ∨ Pr.At P p bw ba r bb k) w w'
/-- What a change of the pair's bits leaves: the Book is as it was. -/
def ChgQ (w : World) (P p bw ba r bb b n N : Nat) (own : Nat → Prop) (late : Bool) (e : Ending) (w' : World) : Prop :=
  e = .returned (.bool true) ∧ ∃ W', PrB w' P p bw ba r bb b n W' own late N ∧ Mod (Pr.At P p bw ba r bb) w w'
theorem ChgQ.chg {w w' : World} {P p bw ba r bb b n N : Nat} {own : Nat → Prop} {late : Bool} {e : Ending} (h : ChgQ w P p bw ba r bb b n N own late e w') : ChgP w P p bw ba r bb b n N own late e w' := by
  obtain ⟨he, W', h1, h2⟩ := h
  exact ⟨he, own, W', ⟨h1.pr, h1.bk.more (by omega), h1.no⟩, fun _ _ => Iff.rfl, h2.mono fun _ _ e => .inr e⟩
theorem PrB.chg {w w1 w2 w3 w4 : World} {P p bw ba r bb b n N : Nat} {W W' : List UInt64} {own : Nat → Prop} {late : Bool} (h : PrB w P p bw ba r bb b n W own late N) (h1 : Below w.heap.size w w1) (hm2 : BM w2 p bw ba n W') (h2 : Mod (BM.At p bw ba) w1 w2) (h3 : Below w2.heap.size w2 w3) (hr4 : RM w4 r bb (Bm.bools n W')) (h4 : Mod (fun k => k = bb) w3 w4) :
    PrB w4 P p bw ba r bb b n W' own late N ∧ Mod (Pr.At P p bw ba r bb) w w4 := by
  obtain ⟨d1, d2, d3, d4, d5⟩ := h.pr.dP
  obtain ⟨e1, e2, e3⟩ := h.pr.dr
  obtain ⟨f1, f2, f3⟩ := h.pr.db
  have hat : ∀ k, BM.At p bw ba k ∨ k = bb → Pr.At P p bw ba r bb k := by
    rintro k ((e | e | e) | e)
    · exact .inr (.inl e)
    · exact .inr (.inr (.inl e))
    · exact .inr (.inr (.inr (.inl e)))
    · exact .inr (.inr (.inr (.inr (.inr e))))
  have hm : Mod (fun k => BM.At p bw ba k ∨ k = bb) w w4 := (Mod.of_below h1).trans ((h2.mono fun _ _ e => .inl e).trans ((Mod.of_below h3).trans (h4.mono fun _ _ e => .inr e)))
  refine ⟨⟨⟨h.pr.hP.mod hm ?_, (hm2.below h3).mod h4 (fun e => f1 e.symm) (fun e => f2 e.symm) (fun e => f3 e.symm), hr4, h.pr.dP, h.pr.dr, h.pr.db⟩, h.bk.mod hm (fun k _ e ho => h.no k (hat k e) ho), h.no⟩, hm.mono fun k _ e => hat k e⟩
  rintro ((e | e | e) | e)
  · exact d1 e
  · exact d2 e
  · exact d3 e
  · exact d5 e
theorem PrB.chg' {w w1 w2 w3 w4 : World} {P p bw ba r bb b n N : Nat} {W W' : List UInt64} {own : Nat → Prop} {late : Bool} (h : PrB w P p bw ba r bb b n W own late N) (h1 : Below w.heap.size w w1) (hm2 : BM w2 p bw ba n W') (h2 : Mod (BM.At p bw ba) w1 w2) (h3 : Below w2.heap.size w2 w3) (hr4 : RM w4 r bb (Bm.bools n W')) (h4 : Mod (fun k => k = bb) w3 w4) :
    PrB w4 P p bw ba r bb b n W' own late N ∧ Mod (fun k => own k ∨ Pr.At P p bw ba r bb k) w w4 := by
  obtain ⟨a, c⟩ := h.chg h1 hm2 h2 h3 hr4 h4
  exact ⟨a, c.mono fun _ _ e => .inr e⟩
theorem PrB.more' {w : World} {P p bw ba r bb b n N M : Nat} {W : List UInt64} {own : Nat → Prop} {late : Bool} (h : PrB w P p bw ba r bb b n W own late N) (hM : N ≤ M) : PrB w P p bw ba r bb b n W own late M := ⟨h.pr, h.bk.more hM, h.no⟩
/-- A drawn region with one writer: what holds behind as many of them as the list is long. -/
def RO (w0 : World) (S : Nat → Prop) (v : Value) (Q : World → Prop) : List Value → World → Prop
  | [], w => Below w0.heap.size w0 w
  | u :: _, w => u = v ∧ Q w ∧ Mod S w0 w
theorem RO.mod {w0 w : World} {S : Nat → Prop} {v : Value} {Q : World → Prop} {g : List Value} (h : RO w0 S v Q g w) : Mod S w0 w := by
  cases g with
  | nil => exact Mod.of_below h
  | cons u l => exact h.2.2
set_option maxHeartbeats 8000000 in
theorem chq_set {w : World} {P p bw ba r bb b n N : Nat} {W : List UInt64} {own : Nat → Prop} {late : Bool} (h : PrB w P p bw ba r bb b n W own late N) (s2 wv bf ac ag : Value) {A B : Int} (hA : (Lit.int .i64 A).wf = true) (hB : (Lit.int .i64 B).wf = true) :
    Calls Tryd.prog 81 #[.pointer (some ⟨P, 0, none⟩), .agg #[.int .i64 1, s2, .int .i64 A, .int .i64 B, wv, bf, ac, ag]] w (ChgQ w P p bw ba r bb b n N own late) := by
  obtain ⟨w0, D, hw0, hD, hrd, hb0⟩ := boxedOp w [.int .i64 1, s2, .int .i64 A, .int .i64 B, wv, bf, ac, ag]
  have HH := Lib.hid h
  have h0 := h.below hb0
  have H0 := Lib.hid h0
  have HB0 := Lib.hid hb0
  have cd0 := hrd.cell (i := 0) rfl
  have ld := heap_lt hrd
  have lp := heap_lt h0.pr.hP
  have HRD := Lib.hid hrd
  have HDN : Hid (¬ BM.At p bw ba D) := Lib.hid (by have h1 := h.pr.lt p (.inr (.inl rfl)); have h2 := h.pr.lt bw (.inr (.inr (.inl rfl))); have h3 := h.pr.lt ba (.inr (.inr (.inr (.inl rfl)))); rintro (e | e | e) <;> omega)
  have HDB : Hid (¬ D = bb) := Lib.hid (by have h1 := h.pr.lt bb (.inr (.inr (.inr (.inr (.inr rfl))))); omega)
  have HPN : Hid (¬ BM.At p bw ba P) := Lib.hid (by obtain ⟨d1, d2, d3, d4, d5⟩ := h.pr.dP; rintro (e | e | e) <;> contradiction)
  have HPB : Hid (¬ P = bb) := Lib.hid h.pr.dP.2.2.2.2
  have HAW := Lib.hid hA
  have HBW := Lib.hid hB
  go_enter Tryd.func81, Tryd.ntmps81
  go_upto_region 1 with fail
  rw [← hw0, ← hD]
  clear h hrd hw0 hD h0 hA hB hb0
  go_upto_region 3 with fail
  have hcl : ∀ g w', RO w0 (BM.At p bw ba) (.tuple #[.bool (Bm.setB n W A true), .int .i64 (Bm.tE n A : Nat)]) (fun w' => BM w' p bw ba n (Bm.setI n W A true)) g w' → w'.cell? ⟨P, 0, none⟩ = some (.pointer (some ⟨p, 0, none⟩)) ∧ w'.cell? ⟨D, 2, none⟩ = some (.int .i64 A) := fun g w' h => by
    have hx := HRD.out.mod (RO.mod h) HDN.out
    exact ⟨(H0.out.pr.hP.mod (RO.mod h) HPN.out).cell (i := 0) rfl, hx.cell (i := 2) rfl⟩
  refine Ph.wp_region_P (RO w0 (BM.At p bw ba) (.tuple #[.bool (Bm.setB n W A true), .int .i64 (Bm.tE n A : Nat)]) (fun w' => BM w' p bw ba n (Bm.setI n W A true))) (fun i => i == 6) 11 [0, 1, 2, 3, 4, 5, 6, 7, 8, 9, 10] (by kernel_rfl) (by kernel_rfl) (Below.drew (Below.refl _ _)) ?_
  (repeat (first | (refine Ph.wpP_pass rfl rfl rfl ?_; (try simp only [List.getElem_toArray, List.getElem_cons_succ, List.getElem_cons_zero, Act.put, List.setIfInBounds_toArray, List.set_cons_succ, List.set_cons_zero])) | (apply Ph.wpP_val rfl rfl rfl; (focus (intro t w1 hR; have hc := hcl _ _ hR; (try simp only [List.getElem_toArray, List.getElem_cons_succ, List.getElem_cons_zero]); (try go_simp); (try exact Eq.refl _); done)); (try simp only [List.getElem_toArray, List.getElem_cons_succ, List.getElem_cons_zero, Act.put, List.setIfInBounds_toArray, List.set_cons_succ, List.set_cons_zero])) | (apply Ph.wpP_val_want rfl rfl rfl; (focus (intro t w1 hR; have hc := hcl _ _ hR; (try simp only [List.getElem_toArray, List.getElem_cons_succ, List.getElem_cons_zero]); (try go_simp); (try exact Eq.refl _); done)); (try simp only [List.getElem_toArray, List.getElem_cons_succ, List.getElem_cons_zero, Act.put, List.setIfInBounds_toArray, List.set_cons_succ, List.set_cons_zero]))))
  (apply Ph.wpP_write_call rfl rfl rfl; (focus (intro w1 hR; have hc := hcl _ _ hR; (try simp only [List.getElem_toArray, List.getElem_cons_succ, List.getElem_cons_zero]); (try go_simp); (try exact And.intro rfl rfl); done)); (focus (intro w1 hR; exact (set_u (H0.out.pr.hm.below hR) A).mono fun e w' ⟨he, h1, h2⟩ => ⟨_, he, rfl, h1, (Mod.of_below hR).trans h2⟩)))
  rintro u w1 ⟨rfl, hR1⟩
  clear hR1
  (try simp only [List.getElem_toArray, List.getElem_cons_succ, List.getElem_cons_zero, Act.put, List.setIfInBounds_toArray, List.set_cons_succ, List.set_cons_zero])
  (repeat (first | (refine Ph.wpP_pass rfl rfl rfl ?_; (try simp only [List.getElem_toArray, List.getElem_cons_succ, List.getElem_cons_zero, Act.put, List.setIfInBounds_toArray, List.set_cons_succ, List.set_cons_zero])) | (apply Ph.wpP_val rfl rfl rfl; (focus (intro t w1 hR; have hc := hcl _ _ hR; (try simp only [List.getElem_toArray, List.getElem_cons_succ, List.getElem_cons_zero]); (try go_simp); (try exact Eq.refl _); done)); (try simp only [List.getElem_toArray, List.getElem_cons_succ, List.getElem_cons_zero, Act.put, List.setIfInBounds_toArray, List.set_cons_succ, List.set_cons_zero])) | (apply Ph.wpP_val_want rfl rfl rfl; (focus (intro t w1 hR; have hc := hcl _ _ hR; (try simp only [List.getElem_toArray, List.getElem_cons_succ, List.getElem_cons_zero]); (try go_simp); (try exact Eq.refl _); done)); (try simp only [List.getElem_toArray, List.getElem_cons_succ, List.getElem_cons_zero, Act.put, List.setIfInBounds_toArray, List.set_cons_succ, List.set_cons_zero]))))
  refine Ph.wpP_nil ?_
  rintro w2 ⟨_, hm2, hmd2⟩
  have hR2 : RM w2 r bb (Bm.bools n W) := H0.out.pr.hr.mod hmd2 (by obtain ⟨d1, d2, d3⟩ := H0.out.pr.dr; rintro (e | e | e) <;> contradiction) (by obtain ⟨d1, d2, d3⟩ := H0.out.pr.db; rintro (e | e | e) <;> contradiction)
  have HR2 := Lib.hid hR2
  have HM2 := Lib.hid hm2
  have HMD2 := Lib.hid hmd2
  have HRD2 := Lib.hid (HRD.out.mod hmd2 HDN.out)
  have HP2 := Lib.hid (H0.out.pr.hP.mod hmd2 HPN.out)
  clear hR2 hm2 hmd2 hcl cd0 ld lp
  go_upto_region 4 with fail
  have hcl : ∀ g w', RO w2 (fun k => k = bb) (.tuple #[.bool (Bm.setB n W A true), .int .i64 (Bm.tE n A : Nat)]) (fun w' => RM w' r bb (Bm.bools n (Bm.setI n W A true))) g w' → w'.cell? ⟨P, 1, none⟩ = some (.pointer (some ⟨r, 0, none⟩)) ∧ w'.cell? ⟨D, 2, none⟩ = some (.int .i64 A) := fun g w' h => by
    have hx := HRD2.out.mod (RO.mod h) HDB.out
    exact ⟨(HP2.out.mod (RO.mod h) HPB.out).cell (i := 1) rfl, hx.cell (i := 2) rfl⟩
  refine Ph.wp_region_P (RO w2 (fun k => k = bb) (.tuple #[.bool (Bm.setB n W A true), .int .i64 (Bm.tE n A : Nat)]) (fun w' => RM w' r bb (Bm.bools n (Bm.setI n W A true)))) (fun i => i == 6) 11 [0, 1, 2, 3, 4, 5, 6, 7, 8, 9, 10] (by kernel_rfl) (by kernel_rfl) (Below.drew (Below.refl _ _)) ?_
  (repeat (first | (refine Ph.wpP_pass rfl rfl rfl ?_; (try simp only [List.getElem_toArray, List.getElem_cons_succ, List.getElem_cons_zero, Act.put, List.setIfInBounds_toArray, List.set_cons_succ, List.set_cons_zero])) | (apply Ph.wpP_val rfl rfl rfl; (focus (intro t w1 hR; have hc := hcl _ _ hR; (try simp only [List.getElem_toArray, List.getElem_cons_succ, List.getElem_cons_zero]); (try go_simp); (try exact Eq.refl _); done)); (try simp only [List.getElem_toArray, List.getElem_cons_succ, List.getElem_cons_zero, Act.put, List.setIfInBounds_toArray, List.set_cons_succ, List.set_cons_zero])) | (apply Ph.wpP_val_want rfl rfl rfl; (focus (intro t w1 hR; have hc := hcl _ _ hR; (try simp only [List.getElem_toArray, List.getElem_cons_succ, List.getElem_cons_zero]); (try go_simp); (try exact Eq.refl _); done)); (try simp only [List.getElem_toArray, List.getElem_cons_succ, List.getElem_cons_zero, Act.put, List.setIfInBounds_toArray, List.set_cons_succ, List.set_cons_zero]))))
  (apply Ph.wpP_write_call rfl rfl rfl; (focus (intro w1 hR; have hc := hcl _ _ hR; (try simp only [List.getElem_toArray, List.getElem_cons_succ, List.getElem_cons_zero]); (try go_simp); (try exact And.intro rfl rfl); done)); (focus (intro w1 hR; exact (rput_u H0.out.pr.hm.ok (HR2.out.below hR) A true).mono fun e w' ⟨he, h1, h2⟩ => ⟨_, he, rfl, h1, (Mod.of_below hR).trans h2⟩)))
  rintro u w1 ⟨rfl, hR1⟩
  clear hR1
  (try simp only [List.getElem_toArray, List.getElem_cons_succ, List.getElem_cons_zero, Act.put, List.setIfInBounds_toArray, List.set_cons_succ, List.set_cons_zero])
  (repeat (first | (refine Ph.wpP_pass rfl rfl rfl ?_; (try simp only [List.getElem_toArray, List.getElem_cons_succ, List.getElem_cons_zero, Act.put, List.setIfInBounds_toArray, List.set_cons_succ, List.set_cons_zero])) | (apply Ph.wpP_val rfl rfl rfl; (focus (intro t w1 hR; have hc := hcl _ _ hR; (try simp only [List.getElem_toArray, List.getElem_cons_succ, List.getElem_cons_zero]); (try go_simp); (try exact Eq.refl _); done)); (try simp only [List.getElem_toArray, List.getElem_cons_succ, List.getElem_cons_zero, Act.put, List.setIfInBounds_toArray, List.set_cons_succ, List.set_cons_zero])) | (apply Ph.wpP_val_want rfl rfl rfl; (focus (intro t w1 hR; have hc := hcl _ _ hR; (try simp only [List.getElem_toArray, List.getElem_cons_succ, List.getElem_cons_zero]); (try go_simp); (try exact Eq.refl _); done)); (try simp only [List.getElem_toArray, List.getElem_cons_succ, List.getElem_cons_zero, Act.put, List.setIfInBounds_toArray, List.set_cons_succ, List.set_cons_zero]))))
  refine Ph.wpP_nil ?_
  rintro w4 ⟨_, hr4, hmd4⟩
  clear hcl
  go_wp2_with fail
  go_ret
  obtain ⟨g1, g2⟩ := HH.out.chg HB0.out HM2.out HMD2.out (Below.refl _ _) hr4 hmd4
  exact ⟨rfl, _, g1, g2⟩
theorem chg_set {w : World} {P p bw ba r bb b n N : Nat} {W : List UInt64} {own : Nat → Prop} {late : Bool} (h : PrB w P p bw ba r bb b n W own late N) (s2 wv bf ac ag : Value) {A B : Int} (hA : (Lit.int .i64 A).wf = true) (hB : (Lit.int .i64 B).wf = true) :
    Calls Tryd.prog 81 #[.pointer (some ⟨P, 0, none⟩), .agg #[.int .i64 1, s2, .int .i64 A, .int .i64 B, wv, bf, ac, ag]] w (ChgP w P p bw ba r bb b n N own late) := (chq_set h s2 wv bf ac ag hA hB).mono fun _ _ h => h.chg
set_option maxHeartbeats 8000000 in
theorem chq_clear {w : World} {P p bw ba r bb b n N : Nat} {W : List UInt64} {own : Nat → Prop} {late : Bool} (h : PrB w P p bw ba r bb b n W own late N) (s2 wv bf ac ag : Value) {A B : Int} (hA : (Lit.int .i64 A).wf = true) (hB : (Lit.int .i64 B).wf = true) :
    Calls Tryd.prog 81 #[.pointer (some ⟨P, 0, none⟩), .agg #[.int .i64 2, s2, .int .i64 A, .int .i64 B, wv, bf, ac, ag]] w (ChgQ w P p bw ba r bb b n N own late) := by
  obtain ⟨w0, D, hw0, hD, hrd, hb0⟩ := boxedOp w [.int .i64 2, s2, .int .i64 A, .int .i64 B, wv, bf, ac, ag]
  have HH := Lib.hid h
  have h0 := h.below hb0
  have H0 := Lib.hid h0
  have HB0 := Lib.hid hb0
  have cd0 := hrd.cell (i := 0) rfl
  have ld := heap_lt hrd
  have lp := heap_lt h0.pr.hP
  have HRD := Lib.hid hrd
  have HDN : Hid (¬ BM.At p bw ba D) := Lib.hid (by have h1 := h.pr.lt p (.inr (.inl rfl)); have h2 := h.pr.lt bw (.inr (.inr (.inl rfl))); have h3 := h.pr.lt ba (.inr (.inr (.inr (.inl rfl)))); rintro (e | e | e) <;> omega)
  have HDB : Hid (¬ D = bb) := Lib.hid (by have h1 := h.pr.lt bb (.inr (.inr (.inr (.inr (.inr rfl))))); omega)
  have HPN : Hid (¬ BM.At p bw ba P) := Lib.hid (by obtain ⟨d1, d2, d3, d4, d5⟩ := h.pr.dP; rintro (e | e | e) <;> contradiction)
  have HPB : Hid (¬ P = bb) := Lib.hid h.pr.dP.2.2.2.2
  have HAW := Lib.hid hA
  have HBW := Lib.hid hB
  go_enter Tryd.func81, Tryd.ntmps81
  go_upto_region 1 with fail
  rw [← hw0, ← hD]
  clear h hrd hw0 hD h0 hA hB hb0
  go_upto_region 7 with fail
  have hcl : ∀ g w', RO w0 (BM.At p bw ba) (.tuple #[.bool (Bm.setB n W A false), .int .i64 (Bm.tE n A : Nat)]) (fun w' => BM w' p bw ba n (Bm.setI n W A false)) g w' → w'.cell? ⟨P, 0, none⟩ = some (.pointer (some ⟨p, 0, none⟩)) ∧ w'.cell? ⟨D, 2, none⟩ = some (.int .i64 A) := fun g w' h => by
    have hx := HRD.out.mod (RO.mod h) HDN.out
    exact ⟨(H0.out.pr.hP.mod (RO.mod h) HPN.out).cell (i := 0) rfl, hx.cell (i := 2) rfl⟩
  refine Ph.wp_region_P (RO w0 (BM.At p bw ba) (.tuple #[.bool (Bm.setB n W A false), .int .i64 (Bm.tE n A : Nat)]) (fun w' => BM w' p bw ba n (Bm.setI n W A false))) (fun i => i == 6) 11 [0, 1, 2, 3, 4, 5, 6, 7, 8, 9, 10] (by kernel_rfl) (by kernel_rfl) (Below.drew (Below.refl _ _)) ?_
  (repeat (first | (refine Ph.wpP_pass rfl rfl rfl ?_; (try simp only [List.getElem_toArray, List.getElem_cons_succ, List.getElem_cons_zero, Act.put, List.setIfInBounds_toArray, List.set_cons_succ, List.set_cons_zero])) | (apply Ph.wpP_val rfl rfl rfl; (focus (intro t w1 hR; have hc := hcl _ _ hR; (try simp only [List.getElem_toArray, List.getElem_cons_succ, List.getElem_cons_zero]); (try go_simp); (try exact Eq.refl _); done)); (try simp only [List.getElem_toArray, List.getElem_cons_succ, List.getElem_cons_zero, Act.put, List.setIfInBounds_toArray, List.set_cons_succ, List.set_cons_zero])) | (apply Ph.wpP_val_want rfl rfl rfl; (focus (intro t w1 hR; have hc := hcl _ _ hR; (try simp only [List.getElem_toArray, List.getElem_cons_succ, List.getElem_cons_zero]); (try go_simp); (try exact Eq.refl _); done)); (try simp only [List.getElem_toArray, List.getElem_cons_succ, List.getElem_cons_zero, Act.put, List.setIfInBounds_toArray, List.set_cons_succ, List.set_cons_zero]))))
  (apply Ph.wpP_write_call rfl rfl rfl; (focus (intro w1 hR; have hc := hcl _ _ hR; (try simp only [List.getElem_toArray, List.getElem_cons_succ, List.getElem_cons_zero]); (try go_simp); (try exact And.intro rfl rfl); done)); (focus (intro w1 hR; exact (clear_u (H0.out.pr.hm.below hR) A).mono fun e w' ⟨he, h1, h2⟩ => ⟨_, he, rfl, h1, (Mod.of_below hR).trans h2⟩)))
  rintro u w1 ⟨rfl, hR1⟩
  clear hR1
  (try simp only [List.getElem_toArray, List.getElem_cons_succ, List.getElem_cons_zero, Act.put, List.setIfInBounds_toArray, List.set_cons_succ, List.set_cons_zero])
  (repeat (first | (refine Ph.wpP_pass rfl rfl rfl ?_; (try simp only [List.getElem_toArray, List.getElem_cons_succ, List.getElem_cons_zero, Act.put, List.setIfInBounds_toArray, List.set_cons_succ, List.set_cons_zero])) | (apply Ph.wpP_val rfl rfl rfl; (focus (intro t w1 hR; have hc := hcl _ _ hR; (try simp only [List.getElem_toArray, List.getElem_cons_succ, List.getElem_cons_zero]); (try go_simp); (try exact Eq.refl _); done)); (try simp only [List.getElem_toArray, List.getElem_cons_succ, List.getElem_cons_zero, Act.put, List.setIfInBounds_toArray, List.set_cons_succ, List.set_cons_zero])) | (apply Ph.wpP_val_want rfl rfl rfl; (focus (intro t w1 hR; have hc := hcl _ _ hR; (try simp only [List.getElem_toArray, List.getElem_cons_succ, List.getElem_cons_zero]); (try go_simp); (try exact Eq.refl _); done)); (try simp only [List.getElem_toArray, List.getElem_cons_succ, List.getElem_cons_zero, Act.put, List.setIfInBounds_toArray, List.set_cons_succ, List.set_cons_zero]))))
  refine Ph.wpP_nil ?_
  rintro w2 ⟨_, hm2, hmd2⟩
  have hR2 : RM w2 r bb (Bm.bools n W) := H0.out.pr.hr.mod hmd2 (by obtain ⟨d1, d2, d3⟩ := H0.out.pr.dr; rintro (e | e | e) <;> contradiction) (by obtain ⟨d1, d2, d3⟩ := H0.out.pr.db; rintro (e | e | e) <;> contradiction)
  have HR2 := Lib.hid hR2
  have HM2 := Lib.hid hm2
  have HMD2 := Lib.hid hmd2
  have HRD2 := Lib.hid (HRD.out.mod hmd2 HDN.out)
  have HP2 := Lib.hid (H0.out.pr.hP.mod hmd2 HPN.out)
  clear hR2 hm2 hmd2 hcl cd0 ld lp
  go_upto_region 8 with fail
  have hcl : ∀ g w', RO w2 (fun k => k = bb) (.tuple #[.bool (Bm.setB n W A false), .int .i64 (Bm.tE n A : Nat)]) (fun w' => RM w' r bb (Bm.bools n (Bm.setI n W A false))) g w' → w'.cell? ⟨P, 1, none⟩ = some (.pointer (some ⟨r, 0, none⟩)) ∧ w'.cell? ⟨D, 2, none⟩ = some (.int .i64 A) := fun g w' h => by
    have hx := HRD2.out.mod (RO.mod h) HDB.out
    exact ⟨(HP2.out.mod (RO.mod h) HPB.out).cell (i := 1) rfl, hx.cell (i := 2) rfl⟩
  refine Ph.wp_region_P (RO w2 (fun k => k = bb) (.tuple #[.bool (Bm.setB n W A false), .int .i64 (Bm.tE n A : Nat)]) (fun w' => RM w' r bb (Bm.bools n (Bm.setI n W A false)))) (fun i => i == 6) 11 [0, 1, 2, 3, 4, 5, 6, 7, 8, 9, 10] (by kernel_rfl) (by kernel_rfl) (Below.drew (Below.refl _ _)) ?_
  (repeat (first | (refine Ph.wpP_pass rfl rfl rfl ?_; (try simp only [List.getElem_toArray, List.getElem_cons_succ, List.getElem_cons_zero, Act.put, List.setIfInBounds_toArray, List.set_cons_succ, List.set_cons_zero])) | (apply Ph.wpP_val rfl rfl rfl; (focus (intro t w1 hR; have hc := hcl _ _ hR; (try simp only [List.getElem_toArray, List.getElem_cons_succ, List.getElem_cons_zero]); (try go_simp); (try exact Eq.refl _); done)); (try simp only [List.getElem_toArray, List.getElem_cons_succ, List.getElem_cons_zero, Act.put, List.setIfInBounds_toArray, List.set_cons_succ, List.set_cons_zero])) | (apply Ph.wpP_val_want rfl rfl rfl; (focus (intro t w1 hR; have hc := hcl _ _ hR; (try simp only [List.getElem_toArray, List.getElem_cons_succ, List.getElem_cons_zero]); (try go_simp); (try exact Eq.refl _); done)); (try simp only [List.getElem_toArray, List.getElem_cons_succ, List.getElem_cons_zero, Act.put, List.setIfInBounds_toArray, List.set_cons_succ, List.set_cons_zero]))))
  (apply Ph.wpP_write_call rfl rfl rfl; (focus (intro w1 hR; have hc := hcl _ _ hR; (try simp only [List.getElem_toArray, List.getElem_cons_succ, List.getElem_cons_zero]); (try go_simp); (try exact And.intro rfl rfl); done)); (focus (intro w1 hR; exact (rput_u H0.out.pr.hm.ok (HR2.out.below hR) A false).mono fun e w' ⟨he, h1, h2⟩ => ⟨_, he, rfl, h1, (Mod.of_below hR).trans h2⟩)))
  rintro u w1 ⟨rfl, hR1⟩
  clear hR1
  (try simp only [List.getElem_toArray, List.getElem_cons_succ, List.getElem_cons_zero, Act.put, List.setIfInBounds_toArray, List.set_cons_succ, List.set_cons_zero])
  (repeat (first | (refine Ph.wpP_pass rfl rfl rfl ?_; (try simp only [List.getElem_toArray, List.getElem_cons_succ, List.getElem_cons_zero, Act.put, List.setIfInBounds_toArray, List.set_cons_succ, List.set_cons_zero])) | (apply Ph.wpP_val rfl rfl rfl; (focus (intro t w1 hR; have hc := hcl _ _ hR; (try simp only [List.getElem_toArray, List.getElem_cons_succ, List.getElem_cons_zero]); (try go_simp); (try exact Eq.refl _); done)); (try simp only [List.getElem_toArray, List.getElem_cons_succ, List.getElem_cons_zero, Act.put, List.setIfInBounds_toArray, List.set_cons_succ, List.set_cons_zero])) | (apply Ph.wpP_val_want rfl rfl rfl; (focus (intro t w1 hR; have hc := hcl _ _ hR; (try simp only [List.getElem_toArray, List.getElem_cons_succ, List.getElem_cons_zero]); (try go_simp); (try exact Eq.refl _); done)); (try simp only [List.getElem_toArray, List.getElem_cons_succ, List.getElem_cons_zero, Act.put, List.setIfInBounds_toArray, List.set_cons_succ, List.set_cons_zero]))))
  refine Ph.wpP_nil ?_
  rintro w4 ⟨_, hr4, hmd4⟩
  clear hcl
  go_wp2_with fail
  go_ret
  obtain ⟨g1, g2⟩ := HH.out.chg HB0.out HM2.out HMD2.out (Below.refl _ _) hr4 hmd4
  exact ⟨rfl, _, g1, g2⟩
theorem chg_clear {w : World} {P p bw ba r bb b n N : Nat} {W : List UInt64} {own : Nat → Prop} {late : Bool} (h : PrB w P p bw ba r bb b n W own late N) (s2 wv bf ac ag : Value) {A B : Int} (hA : (Lit.int .i64 A).wf = true) (hB : (Lit.int .i64 B).wf = true) :
    Calls Tryd.prog 81 #[.pointer (some ⟨P, 0, none⟩), .agg #[.int .i64 2, s2, .int .i64 A, .int .i64 B, wv, bf, ac, ag]] w (ChgP w P p bw ba r bb b n N own late) := (chq_clear h s2 wv bf ac ag hA hB).mono fun _ _ h => h.chg
set_option maxHeartbeats 8000000 in
theorem chq_setrange {w : World} {P p bw ba r bb b n N : Nat} {W : List UInt64} {own : Nat → Prop} {late : Bool} (h : PrB w P p bw ba r bb b n W own late N) (s2 wv bf ac ag : Value) {A B : Int} (hA : (Lit.int .i64 A).wf = true) (hB : (Lit.int .i64 B).wf = true) :
    Calls Tryd.prog 81 #[.pointer (some ⟨P, 0, none⟩), .agg #[.int .i64 3, s2, .int .i64 A, .int .i64 B, wv, bf, ac, ag]] w (ChgQ w P p bw ba r bb b n N own late) := by
  obtain ⟨w0, D, hw0, hD, hrd, hb0⟩ := boxedOp w [.int .i64 3, s2, .int .i64 A, .int .i64 B, wv, bf, ac, ag]
  have HH := Lib.hid h
  have h0 := h.below hb0
  have H0 := Lib.hid h0
  have HB0 := Lib.hid hb0
  have cd0 := hrd.cell (i := 0) rfl
  have ld := heap_lt hrd
  have lp := heap_lt h0.pr.hP
  have HRD := Lib.hid hrd
  have HDN : Hid (¬ BM.At p bw ba D) := Lib.hid (by have h1 := h.pr.lt p (.inr (.inl rfl)); have h2 := h.pr.lt bw (.inr (.inr (.inl rfl))); have h3 := h.pr.lt ba (.inr (.inr (.inr (.inl rfl)))); rintro (e | e | e) <;> omega)
  have HDB : Hid (¬ D = bb) := Lib.hid (by have h1 := h.pr.lt bb (.inr (.inr (.inr (.inr (.inr rfl))))); omega)
  have HPN : Hid (¬ BM.At p bw ba P) := Lib.hid (by obtain ⟨d1, d2, d3, d4, d5⟩ := h.pr.dP; rintro (e | e | e) <;> contradiction)
  have HPB : Hid (¬ P = bb) := Lib.hid h.pr.dP.2.2.2.2
  have HAW := Lib.hid hA
  have HBW := Lib.hid hB
  go_enter Tryd.func81, Tryd.ntmps81
  go_upto_region 1 with fail
  rw [← hw0, ← hD]
  clear h hrd hw0 hD h0 hA hB hb0
  go_upto_region 11 with fail
  have hcl : ∀ g w', RO w0 (BM.At p bw ba) (.tuple #[.int .i64 (Bm.setV n W A B true : Nat), .int .i64 (Bm.rangeE n A B : Nat)]) (fun w' => BM w' p bw ba n (Bm.setR n W A B true)) g w' → w'.cell? ⟨P, 0, none⟩ = some (.pointer (some ⟨p, 0, none⟩)) ∧ w'.cell? ⟨D, 2, none⟩ = some (.int .i64 A) ∧ w'.cell? ⟨D, 3, none⟩ = some (.int .i64 B) := fun g w' h => by
    have hx := HRD.out.mod (RO.mod h) HDN.out
    exact ⟨(H0.out.pr.hP.mod (RO.mod h) HPN.out).cell (i := 0) rfl, hx.cell (i := 2) rfl, hx.cell (i := 3) rfl⟩
  refine Ph.wp_region_P (RO w0 (BM.At p bw ba) (.tuple #[.int .i64 (Bm.setV n W A B true : Nat), .int .i64 (Bm.rangeE n A B : Nat)]) (fun w' => BM w' p bw ba n (Bm.setR n W A B true))) (fun i => i == 8) 13 [0, 1, 2, 3, 4, 5, 6, 7, 8, 9, 10, 11, 12] (by kernel_rfl) (by kernel_rfl) (Below.drew (Below.refl _ _)) ?_
  (repeat (first | (refine Ph.wpP_pass rfl rfl rfl ?_; (try simp only [List.getElem_toArray, List.getElem_cons_succ, List.getElem_cons_zero, Act.put, List.setIfInBounds_toArray, List.set_cons_succ, List.set_cons_zero])) | (apply Ph.wpP_val rfl rfl rfl; (focus (intro t w1 hR; have hc := hcl _ _ hR; (try simp only [List.getElem_toArray, List.getElem_cons_succ, List.getElem_cons_zero]); (try go_simp); (try exact Eq.refl _); done)); (try simp only [List.getElem_toArray, List.getElem_cons_succ, List.getElem_cons_zero, Act.put, List.setIfInBounds_toArray, List.set_cons_succ, List.set_cons_zero])) | (apply Ph.wpP_val_want rfl rfl rfl; (focus (intro t w1 hR; have hc := hcl _ _ hR; (try simp only [List.getElem_toArray, List.getElem_cons_succ, List.getElem_cons_zero]); (try go_simp); (try exact Eq.refl _); done)); (try simp only [List.getElem_toArray, List.getElem_cons_succ, List.getElem_cons_zero, Act.put, List.setIfInBounds_toArray, List.set_cons_succ, List.set_cons_zero]))))
  (apply Ph.wpP_write_call rfl rfl rfl; (focus (intro w1 hR; have hc := hcl _ _ hR; (try simp only [List.getElem_toArray, List.getElem_cons_succ, List.getElem_cons_zero]); (try go_simp); (try exact And.intro rfl rfl); done)); (focus (intro w1 hR; exact (setrange_u (H0.out.pr.hm.below hR) HAW.out HBW.out).mono fun e w' ⟨he, h1, h2⟩ => ⟨_, he, rfl, h1, (Mod.of_below hR).trans h2⟩)))
  rintro u w1 ⟨rfl, hR1⟩
  clear hR1
  (try simp only [List.getElem_toArray, List.getElem_cons_succ, List.getElem_cons_zero, Act.put, List.setIfInBounds_toArray, List.set_cons_succ, List.set_cons_zero])
  (repeat (first | (refine Ph.wpP_pass rfl rfl rfl ?_; (try simp only [List.getElem_toArray, List.getElem_cons_succ, List.getElem_cons_zero, Act.put, List.setIfInBounds_toArray, List.set_cons_succ, List.set_cons_zero])) | (apply Ph.wpP_val rfl rfl rfl; (focus (intro t w1 hR; have hc := hcl _ _ hR; (try simp only [List.getElem_toArray, List.getElem_cons_succ, List.getElem_cons_zero]); (try go_simp); (try exact Eq.refl _); done)); (try simp only [List.getElem_toArray, List.getElem_cons_succ, List.getElem_cons_zero, Act.put, List.setIfInBounds_toArray, List.set_cons_succ, List.set_cons_zero])) | (apply Ph.wpP_val_want rfl rfl rfl; (focus (intro t w1 hR; have hc := hcl _ _ hR; (try simp only [List.getElem_toArray, List.getElem_cons_succ, List.getElem_cons_zero]); (try go_simp); (try exact Eq.refl _); done)); (try simp only [List.getElem_toArray, List.getElem_cons_succ, List.getElem_cons_zero, Act.put, List.setIfInBounds_toArray, List.set_cons_succ, List.set_cons_zero]))))
  refine Ph.wpP_nil ?_
  rintro w2 ⟨_, hm2, hmd2⟩
  have hR2 : RM w2 r bb (Bm.bools n W) := H0.out.pr.hr.mod hmd2 (by obtain ⟨d1, d2, d3⟩ := H0.out.pr.dr; rintro (e | e | e) <;> contradiction) (by obtain ⟨d1, d2, d3⟩ := H0.out.pr.db; rintro (e | e | e) <;> contradiction)
  have HR2 := Lib.hid hR2
  have HM2 := Lib.hid hm2
  have HMD2 := Lib.hid hmd2
  have HRD2 := Lib.hid (HRD.out.mod hmd2 HDN.out)
  have HP2 := Lib.hid (H0.out.pr.hP.mod hmd2 HPN.out)
  clear hR2 hm2 hmd2 hcl cd0 ld lp
  go_upto_region 12 with fail
  have hcl : ∀ g w', RO w2 (fun k => k = bb) (.tuple #[.int .i64 (Bm.setV n W A B true : Nat), .int .i64 (Bm.rangeE n A B : Nat)]) (fun w' => RM w' r bb (Bm.bools n (Bm.setR n W A B true))) g w' → w'.cell? ⟨P, 1, none⟩ = some (.pointer (some ⟨r, 0, none⟩)) ∧ w'.cell? ⟨D, 2, none⟩ = some (.int .i64 A) ∧ w'.cell? ⟨D, 3, none⟩ = some (.int .i64 B) := fun g w' h => by
    have hx := HRD2.out.mod (RO.mod h) HDB.out
    exact ⟨(HP2.out.mod (RO.mod h) HPB.out).cell (i := 1) rfl, hx.cell (i := 2) rfl, hx.cell (i := 3) rfl⟩
  refine Ph.wp_region_P (RO w2 (fun k => k = bb) (.tuple #[.int .i64 (Bm.setV n W A B true : Nat), .int .i64 (Bm.rangeE n A B : Nat)]) (fun w' => RM w' r bb (Bm.bools n (Bm.setR n W A B true)))) (fun i => i == 8) 13 [0, 1, 2, 3, 4, 5, 6, 7, 8, 9, 10, 11, 12] (by kernel_rfl) (by kernel_rfl) (Below.drew (Below.refl _ _)) ?_
  (repeat (first | (refine Ph.wpP_pass rfl rfl rfl ?_; (try simp only [List.getElem_toArray, List.getElem_cons_succ, List.getElem_cons_zero, Act.put, List.setIfInBounds_toArray, List.set_cons_succ, List.set_cons_zero])) | (apply Ph.wpP_val rfl rfl rfl; (focus (intro t w1 hR; have hc := hcl _ _ hR; (try simp only [List.getElem_toArray, List.getElem_cons_succ, List.getElem_cons_zero]); (try go_simp); (try exact Eq.refl _); done)); (try simp only [List.getElem_toArray, List.getElem_cons_succ, List.getElem_cons_zero, Act.put, List.setIfInBounds_toArray, List.set_cons_succ, List.set_cons_zero])) | (apply Ph.wpP_val_want rfl rfl rfl; (focus (intro t w1 hR; have hc := hcl _ _ hR; (try simp only [List.getElem_toArray, List.getElem_cons_succ, List.getElem_cons_zero]); (try go_simp); (try exact Eq.refl _); done)); (try simp only [List.getElem_toArray, List.getElem_cons_succ, List.getElem_cons_zero, Act.put, List.setIfInBounds_toArray, List.set_cons_succ, List.set_cons_zero]))))
  (apply Ph.wpP_write_call rfl rfl rfl; (focus (intro w1 hR; have hc := hcl _ _ hR; (try simp only [List.getElem_toArray, List.getElem_cons_succ, List.getElem_cons_zero]); (try go_simp); (try exact And.intro rfl rfl); done)); (focus (intro w1 hR; exact (rputrange_u H0.out.pr.hm.ok (HR2.out.below hR) HAW.out HBW.out true).mono fun e w' ⟨he, h1, h2⟩ => ⟨_, he, rfl, h1, (Mod.of_below hR).trans h2⟩)))
  rintro u w1 ⟨rfl, hR1⟩
  clear hR1
  (try simp only [List.getElem_toArray, List.getElem_cons_succ, List.getElem_cons_zero, Act.put, List.setIfInBounds_toArray, List.set_cons_succ, List.set_cons_zero])
  (repeat (first | (refine Ph.wpP_pass rfl rfl rfl ?_; (try simp only [List.getElem_toArray, List.getElem_cons_succ, List.getElem_cons_zero, Act.put, List.setIfInBounds_toArray, List.set_cons_succ, List.set_cons_zero])) | (apply Ph.wpP_val rfl rfl rfl; (focus (intro t w1 hR; have hc := hcl _ _ hR; (try simp only [List.getElem_toArray, List.getElem_cons_succ, List.getElem_cons_zero]); (try go_simp); (try exact Eq.refl _); done)); (try simp only [List.getElem_toArray, List.getElem_cons_succ, List.getElem_cons_zero, Act.put, List.setIfInBounds_toArray, List.set_cons_succ, List.set_cons_zero])) | (apply Ph.wpP_val_want rfl rfl rfl; (focus (intro t w1 hR; have hc := hcl _ _ hR; (try simp only [List.getElem_toArray, List.getElem_cons_succ, List.getElem_cons_zero]); (try go_simp); (try exact Eq.refl _); done)); (try simp only [List.getElem_toArray, List.getElem_cons_succ, List.getElem_cons_zero, Act.put, List.setIfInBounds_toArray, List.set_cons_succ, List.set_cons_zero]))))
  refine Ph.wpP_nil ?_
  rintro w4 ⟨_, hr4, hmd4⟩
  clear hcl
  go_wp2_with fail
  go_ret
  obtain ⟨g1, g2⟩ := HH.out.chg HB0.out HM2.out HMD2.out (Below.refl _ _) hr4 hmd4
  exact ⟨rfl, _, g1, g2⟩
theorem chg_setrange {w : World} {P p bw ba r bb b n N : Nat} {W : List UInt64} {own : Nat → Prop} {late : Bool} (h : PrB w P p bw ba r bb b n W own late N) (s2 wv bf ac ag : Value) {A B : Int} (hA : (Lit.int .i64 A).wf = true) (hB : (Lit.int .i64 B).wf = true) :
    Calls Tryd.prog 81 #[.pointer (some ⟨P, 0, none⟩), .agg #[.int .i64 3, s2, .int .i64 A, .int .i64 B, wv, bf, ac, ag]] w (ChgP w P p bw ba r bb b n N own late) := (chq_setrange h s2 wv bf ac ag hA hB).mono fun _ _ h => h.chg
set_option maxHeartbeats 8000000 in
theorem chq_clearrange {w : World} {P p bw ba r bb b n N : Nat} {W : List UInt64} {own : Nat → Prop} {late : Bool} (h : PrB w P p bw ba r bb b n W own late N) (s2 wv bf ac ag : Value) {A B : Int} (hA : (Lit.int .i64 A).wf = true) (hB : (Lit.int .i64 B).wf = true) :
    Calls Tryd.prog 81 #[.pointer (some ⟨P, 0, none⟩), .agg #[.int .i64 4, s2, .int .i64 A, .int .i64 B, wv, bf, ac, ag]] w (ChgQ w P p bw ba r bb b n N own late) := by
  obtain ⟨w0, D, hw0, hD, hrd, hb0⟩ := boxedOp w [.int .i64 4, s2, .int .i64 A, .int .i64 B, wv, bf, ac, ag]
  have HH := Lib.hid h
  have h0 := h.below hb0
  have H0 := Lib.hid h0
  have HB0 := Lib.hid hb0
  have cd0 := hrd.cell (i := 0) rfl
  have ld := heap_lt hrd
  have lp := heap_lt h0.pr.hP
  have HRD := Lib.hid hrd
  have HDN : Hid (¬ BM.At p bw ba D) := Lib.hid (by have h1 := h.pr.lt p (.inr (.inl rfl)); have h2 := h.pr.lt bw (.inr (.inr (.inl rfl))); have h3 := h.pr.lt ba (.inr (.inr (.inr (.inl rfl)))); rintro (e | e | e) <;> omega)
  have HDB : Hid (¬ D = bb) := Lib.hid (by have h1 := h.pr.lt bb (.inr (.inr (.inr (.inr (.inr rfl))))); omega)
  have HPN : Hid (¬ BM.At p bw ba P) := Lib.hid (by obtain ⟨d1, d2, d3, d4, d5⟩ := h.pr.dP; rintro (e | e | e) <;> contradiction)
  have HPB : Hid (¬ P = bb) := Lib.hid h.pr.dP.2.2.2.2
  have HAW := Lib.hid hA
  have HBW := Lib.hid hB
  go_enter Tryd.func81, Tryd.ntmps81
  go_upto_region 1 with fail
  rw [← hw0, ← hD]
  clear h hrd hw0 hD h0 hA hB hb0
  go_upto_region 15 with fail
  have hcl : ∀ g w', RO w0 (BM.At p bw ba) (.tuple #[.int .i64 (Bm.setV n W A B false : Nat), .int .i64 (Bm.rangeE n A B : Nat)]) (fun w' => BM w' p bw ba n (Bm.setR n W A B false)) g w' → w'.cell? ⟨P, 0, none⟩ = some (.pointer (some ⟨p, 0, none⟩)) ∧ w'.cell? ⟨D, 2, none⟩ = some (.int .i64 A) ∧ w'.cell? ⟨D, 3, none⟩ = some (.int .i64 B) := fun g w' h => by
    have hx := HRD.out.mod (RO.mod h) HDN.out
    exact ⟨(H0.out.pr.hP.mod (RO.mod h) HPN.out).cell (i := 0) rfl, hx.cell (i := 2) rfl, hx.cell (i := 3) rfl⟩
  refine Ph.wp_region_P (RO w0 (BM.At p bw ba) (.tuple #[.int .i64 (Bm.setV n W A B false : Nat), .int .i64 (Bm.rangeE n A B : Nat)]) (fun w' => BM w' p bw ba n (Bm.setR n W A B false))) (fun i => i == 8) 13 [0, 1, 2, 3, 4, 5, 6, 7, 8, 9, 10, 11, 12] (by kernel_rfl) (by kernel_rfl) (Below.drew (Below.refl _ _)) ?_
  (repeat (first | (refine Ph.wpP_pass rfl rfl rfl ?_; (try simp only [List.getElem_toArray, List.getElem_cons_succ, List.getElem_cons_zero, Act.put, List.setIfInBounds_toArray, List.set_cons_succ, List.set_cons_zero])) | (apply Ph.wpP_val rfl rfl rfl; (focus (intro t w1 hR; have hc := hcl _ _ hR; (try simp only [List.getElem_toArray, List.getElem_cons_succ, List.getElem_cons_zero]); (try go_simp); (try exact Eq.refl _); done)); (try simp only [List.getElem_toArray, List.getElem_cons_succ, List.getElem_cons_zero, Act.put, List.setIfInBounds_toArray, List.set_cons_succ, List.set_cons_zero])) | (apply Ph.wpP_val_want rfl rfl rfl; (focus (intro t w1 hR; have hc := hcl _ _ hR; (try simp only [List.getElem_toArray, List.getElem_cons_succ, List.getElem_cons_zero]); (try go_simp); (try exact Eq.refl _); done)); (try simp only [List.getElem_toArray, List.getElem_cons_succ, List.getElem_cons_zero, Act.put, List.setIfInBounds_toArray, List.set_cons_succ, List.set_cons_zero]))))
  (apply Ph.wpP_write_call rfl rfl rfl; (focus (intro w1 hR; have hc := hcl _ _ hR; (try simp only [List.getElem_toArray, List.getElem_cons_succ, List.getElem_cons_zero]); (try go_simp); (try exact And.intro rfl rfl); done)); (focus (intro w1 hR; exact (clearrange_u (H0.out.pr.hm.below hR) HAW.out HBW.out).mono fun e w' ⟨he, h1, h2⟩ => ⟨_, he, rfl, h1, (Mod.of_below hR).trans h2⟩)))
  rintro u w1 ⟨rfl, hR1⟩
  clear hR1
  (try simp only [List.getElem_toArray, List.getElem_cons_succ, List.getElem_cons_zero, Act.put, List.setIfInBounds_toArray, List.set_cons_succ, List.set_cons_zero])
  (repeat (first | (refine Ph.wpP_pass rfl rfl rfl ?_; (try simp only [List.getElem_toArray, List.getElem_cons_succ, List.getElem_cons_zero, Act.put, List.setIfInBounds_toArray, List.set_cons_succ, List.set_cons_zero])) | (apply Ph.wpP_val rfl rfl rfl; (focus (intro t w1 hR; have hc := hcl _ _ hR; (try simp only [List.getElem_toArray, List.getElem_cons_succ, List.getElem_cons_zero]); (try go_simp); (try exact Eq.refl _); done)); (try simp only [List.getElem_toArray, List.getElem_cons_succ, List.getElem_cons_zero, Act.put, List.setIfInBounds_toArray, List.set_cons_succ, List.set_cons_zero])) | (apply Ph.wpP_val_want rfl rfl rfl; (focus (intro t w1 hR; have hc := hcl _ _ hR; (try simp only [List.getElem_toArray, List.getElem_cons_succ, List.getElem_cons_zero]); (try go_simp); (try exact Eq.refl _); done)); (try simp only [List.getElem_toArray, List.getElem_cons_succ, List.getElem_cons_zero, Act.put, List.setIfInBounds_toArray, List.set_cons_succ, List.set_cons_zero]))))
  refine Ph.wpP_nil ?_
  rintro w2 ⟨_, hm2, hmd2⟩
  have hR2 : RM w2 r bb (Bm.bools n W) := H0.out.pr.hr.mod hmd2 (by obtain ⟨d1, d2, d3⟩ := H0.out.pr.dr; rintro (e | e | e) <;> contradiction) (by obtain ⟨d1, d2, d3⟩ := H0.out.pr.db; rintro (e | e | e) <;> contradiction)
  have HR2 := Lib.hid hR2
  have HM2 := Lib.hid hm2
  have HMD2 := Lib.hid hmd2
  have HRD2 := Lib.hid (HRD.out.mod hmd2 HDN.out)
  have HP2 := Lib.hid (H0.out.pr.hP.mod hmd2 HPN.out)
  clear hR2 hm2 hmd2 hcl cd0 ld lp
  go_upto_region 16 with fail
  have hcl : ∀ g w', RO w2 (fun k => k = bb) (.tuple #[.int .i64 (Bm.setV n W A B false : Nat), .int .i64 (Bm.rangeE n A B : Nat)]) (fun w' => RM w' r bb (Bm.bools n (Bm.setR n W A B false))) g w' → w'.cell? ⟨P, 1, none⟩ = some (.pointer (some ⟨r, 0, none⟩)) ∧ w'.cell? ⟨D, 2, none⟩ = some (.int .i64 A) ∧ w'.cell? ⟨D, 3, none⟩ = some (.int .i64 B) := fun g w' h => by
    have hx := HRD2.out.mod (RO.mod h) HDB.out
    exact ⟨(HP2.out.mod (RO.mod h) HPB.out).cell (i := 1) rfl, hx.cell (i := 2) rfl, hx.cell (i := 3) rfl⟩
  refine Ph.wp_region_P (RO w2 (fun k => k = bb) (.tuple #[.int .i64 (Bm.setV n W A B false : Nat), .int .i64 (Bm.rangeE n A B : Nat)]) (fun w' => RM w' r bb (Bm.bools n (Bm.setR n W A B false)))) (fun i => i == 8) 13 [0, 1, 2, 3, 4, 5, 6, 7, 8, 9, 10, 11, 12] (by kernel_rfl) (by kernel_rfl) (Below.drew (Below.refl _ _)) ?_
  (repeat (first | (refine Ph.wpP_pass rfl rfl rfl ?_; (try simp only [List.getElem_toArray, List.getElem_cons_succ, List.getElem_cons_zero, Act.put, List.setIfInBounds_toArray, List.set_cons_succ, List.set_cons_zero])) | (apply Ph.wpP_val rfl rfl rfl; (focus (intro t w1 hR; have hc := hcl _ _ hR; (try simp only [List.getElem_toArray, List.getElem_cons_succ, List.getElem_cons_zero]); (try go_simp); (try exact Eq.refl _); done)); (try simp only [List.getElem_toArray, List.getElem_cons_succ, List.getElem_cons_zero, Act.put, List.setIfInBounds_toArray, List.set_cons_succ, List.set_cons_zero])) | (apply Ph.wpP_val_want rfl rfl rfl; (focus (intro t w1 hR; have hc := hcl _ _ hR; (try simp only [List.getElem_toArray, List.getElem_cons_succ, List.getElem_cons_zero]); (try go_simp); (try exact Eq.refl _); done)); (try simp only [List.getElem_toArray, List.getElem_cons_succ, List.getElem_cons_zero, Act.put, List.setIfInBounds_toArray, List.set_cons_succ, List.set_cons_zero]))))
  (apply Ph.wpP_write_call rfl rfl rfl; (focus (intro w1 hR; have hc := hcl _ _ hR; (try simp only [List.getElem_toArray, List.getElem_cons_succ, List.getElem_cons_zero]); (try go_simp); (try exact And.intro rfl rfl); done)); (focus (intro w1 hR; exact (rputrange_u H0.out.pr.hm.ok (HR2.out.below hR) HAW.out HBW.out false).mono fun e w' ⟨he, h1, h2⟩ => ⟨_, he, rfl, h1, (Mod.of_below hR).trans h2⟩)))
  rintro u w1 ⟨rfl, hR1⟩
  clear hR1
  (try simp only [List.getElem_toArray, List.getElem_cons_succ, List.getElem_cons_zero, Act.put, List.setIfInBounds_toArray, List.set_cons_succ, List.set_cons_zero])
  (repeat (first | (refine Ph.wpP_pass rfl rfl rfl ?_; (try simp only [List.getElem_toArray, List.getElem_cons_succ, List.getElem_cons_zero, Act.put, List.setIfInBounds_toArray, List.set_cons_succ, List.set_cons_zero])) | (apply Ph.wpP_val rfl rfl rfl; (focus (intro t w1 hR; have hc := hcl _ _ hR; (try simp only [List.getElem_toArray, List.getElem_cons_succ, List.getElem_cons_zero]); (try go_simp); (try exact Eq.refl _); done)); (try simp only [List.getElem_toArray, List.getElem_cons_succ, List.getElem_cons_zero, Act.put, List.setIfInBounds_toArray, List.set_cons_succ, List.set_cons_zero])) | (apply Ph.wpP_val_want rfl rfl rfl; (focus (intro t w1 hR; have hc := hcl _ _ hR; (try simp only [List.getElem_toArray, List.getElem_cons_succ, List.getElem_cons_zero]); (try go_simp); (try exact Eq.refl _); done)); (try simp only [List.getElem_toArray, List.getElem_cons_succ, List.getElem_cons_zero, Act.put, List.setIfInBounds_toArray, List.set_cons_succ, List.set_cons_zero]))))
  refine Ph.wpP_nil ?_
  rintro w4 ⟨_, hr4, hmd4⟩
  clear hcl
  go_wp2_with fail
  go_ret
  obtain ⟨g1, g2⟩ := HH.out.chg HB0.out HM2.out HMD2.out (Below.refl _ _) hr4 hmd4
  exact ⟨rfl, _, g1, g2⟩
theorem chg_clearrange {w : World} {P p bw ba r bb b n N : Nat} {W : List UInt64} {own : Nat → Prop} {late : Bool} (h : PrB w P p bw ba r bb b n W own late N) (s2 wv bf ac ag : Value) {A B : Int} (hA : (Lit.int .i64 A).wf = true) (hB : (Lit.int .i64 B).wf = true) :
    Calls Tryd.prog 81 #[.pointer (some ⟨P, 0, none⟩), .agg #[.int .i64 4, s2, .int .i64 A, .int .i64 B, wv, bf, ac, ag]] w (ChgP w P p bw ba r bb b n N own late) := (chq_clearrange h s2 wv bf ac ag hA hB).mono fun _ _ h => h.chg
end Go.Proofs.YtckbckdaffdjmaaDoor

/- change: Merge; the kinds that are no change. -/
namespace Go.Proofs.YtckbckdaffdjmaaDoor
open Go.RowKit
set_option maxRecDepth 100000
set_option linter.unusedVariables false
set_option linter.unusedSimpArgs false

theorem pr_of_bm {P p bw ba r bb k : Nat} (h : BM.At p bw ba k) : Pr.At P p bw ba r bb k := by
  rcases h with h | h | h
  · exact .inr (.inl h)
  · exact .inr (.inr (.inl h))
  · exact .inr (.inr (.inr (.inl h)))
set_option maxHeartbeats 8000000 in
theorem chg_merge {w : World} {P p bw ba r bb b n N : Nat} {W : List UInt64} {own : Nat → Prop} {late : Bool} (hK : KeepC late) (hN : N + 2 ≤ 5864062014805) (h : PrB w P p bw ba r bb b n W own late N) (s2 bf ac ag : Value) (A B : Int) {wv : Value} {V : List UInt64} (hv : RU w wv V) (hl : V.length ≤ 17592186043904)
    (hne : V ≠ [] → ∀ g, wv.ownBlock = some g → ¬ Pr.At P p bw ba r bb g) :
    Calls Tryd.prog 81 #[.pointer (some ⟨P, 0, none⟩), .agg #[.int .i64 5, s2, .int .i64 A, .int .i64 B, wv, bf, ac, ag]] w (ChgP w P p bw ba r bb b n N own late) := by
  obtain ⟨w0, D, hw0, hD, hrd, hb0⟩ := boxedOp w [.int .i64 5, s2, .int .i64 A, .int .i64 B, wv, bf, ac, ag]
  have HH := Lib.hid h
  have h0 := h.below hb0
  have H0 := Lib.hid h0
  have HB0 := Lib.hid hb0
  have HK := Lib.hid hK
  have HN := Lib.hid hN
  have HL := Lib.hid hl
  have HNE := Lib.hid hne
  have HV := Lib.hid (hv.below hb0)
  have cd0 := hrd.cell (i := 0) rfl
  have cd4 := hrd.cell (i := 4) rfl
  have cp0 := h0.pr.hP.cell (i := 0) rfl
  have ld := heap_lt hrd
  have lp := heap_lt h0.pr.hP
  have HRD := Lib.hid hrd
  have HDN : Hid (¬ BM.At p bw ba D) := Lib.hid (by have h1 := h.pr.lt p (.inr (.inl rfl)); have h2 := h.pr.lt bw (.inr (.inr (.inl rfl))); have h3 := h.pr.lt ba (.inr (.inr (.inr (.inl rfl)))); rintro (e | e | e) <;> omega)
  have HDB : Hid (¬ D = bb) := Lib.hid (by have h1 := h.pr.lt bb (.inr (.inr (.inr (.inr (.inr rfl))))); omega)
  have HPN : Hid (¬ BM.At p bw ba P) := Lib.hid (by obtain ⟨d1, d2, d3, d4, d5⟩ := h.pr.dP; rintro (e | e | e) <;> contradiction)
  have HPB : Hid (¬ P = bb) := Lib.hid h.pr.dP.2.2.2.2
  go_enter Tryd.func81, Tryd.ntmps81
  go_upto_region 1 with fail
  rw [← hw0, ← hD]
  clear h hrd hw0 hD h0 hb0 hK hN hl hv hne
  go_upto_region 21 with (first
    | (go_at_call 19
       refine (copied_calls HV.out (by have := HL.out; omega)).mono ?_
       rintro e w1 ⟨v1, rfl, hc1, hb1⟩
       have h1 := H0.out.below hb1
       have cq0 := h1.pr.hP.cell (i := 0) rfl
       have HC1 := Lib.hid hc1
       have H1 := Lib.hid h1
       have HB1 := Lib.hid hb1
       have hcon := merge_u h1.pr.hm (hc1.ru (by have := HL.out; omega)) (fun g e e' => by
         have h3 := ((hc1.ou (by have := HL.out; omega)).lt g e).1
         have h4 := HB0.out.size
         have h5 := HH.out.pr.lt g (pr_of_bm e')
         omega)
       have HCON := Lib.hid hcon
       clear hc1 h1 hb1 hcon)
    | (go_at_call 43
       refine HCON.out.mono ?_
       clear HCON
       rintro e w2 ⟨rfl, hm2, hmd2⟩
       have HM2 := Lib.hid hm2
       have HMD2 := Lib.hid hmd2
       clear hm2 hmd2)
    | fail)
  have hat : ∀ k, BM.At p bw ba k → Pr.At P p bw ba r bb k := fun k e' => pr_of_bm e'
  have hR2 : RM w2 r bb (Bm.bools n W) := H1.out.pr.hr.mod HMD2.out (by obtain ⟨d1, d2, d3⟩ := H0.out.pr.dr; rintro (e | e | e) <;> contradiction) (by obtain ⟨d1, d2, d3⟩ := H0.out.pr.db; rintro (e | e | e) <;> contradiction)
  have HR2 := Lib.hid hR2
  have HV2 : Hid (RU w2 wv V) := Lib.hid ((HV.out.below HB1.out).mod HMD2.out fun hl g e e' => HNE.out hl g e (hat g e'))
  have HRD2 := Lib.hid ((HRD.out.below HB1.out).mod HMD2.out HDN.out)
  have HP2 := Lib.hid (H1.out.pr.hP.mod HMD2.out HPN.out)
  clear hR2 hat cd0 cd4 cp0 cq0 ld lp
  have hcl : ∀ g w', RO w2 (fun k => k = bb) (.tuple #[.int .i64 (Bm.merV n W V : Nat), .int .i64 (Bm.validE n V : Nat)]) (fun w' => RM w' r bb (Bm.bools n (Bm.merW n W V))) g w' → w'.cell? ⟨P, 1, none⟩ = some (.pointer (some ⟨r, 0, none⟩)) ∧ w'.cell? ⟨D, 4, none⟩ = some wv := fun g w' h => by
    have hx := HRD2.out.mod (RO.mod h) HDB.out
    exact ⟨(HP2.out.mod (RO.mod h) HPB.out).cell (i := 1) rfl, hx.cell (i := 4) rfl⟩
  refine Ph.wp_region_P (RO w2 (fun k => k = bb) (.tuple #[.int .i64 (Bm.merV n W V : Nat), .int .i64 (Bm.validE n V : Nat)]) (fun w' => RM w' r bb (Bm.bools n (Bm.merW n W V)))) (fun i => i == 6) 11 [0, 1, 2, 3, 4, 5, 6, 7, 8, 9, 10] (by kernel_rfl) (by kernel_rfl) (Below.drew (Below.refl _ _)) ?_
  (repeat (first | (refine Ph.wpP_pass rfl rfl rfl ?_; (try simp only [List.getElem_toArray, List.getElem_cons_succ, List.getElem_cons_zero, Act.put, List.setIfInBounds_toArray, List.set_cons_succ, List.set_cons_zero])) | (apply Ph.wpP_val rfl rfl rfl; (focus (intro t w1 hR; have hc := hcl _ _ hR; (try simp only [List.getElem_toArray, List.getElem_cons_succ, List.getElem_cons_zero]); (try go_simp); (try exact Eq.refl _); done)); (try simp only [List.getElem_toArray, List.getElem_cons_succ, List.getElem_cons_zero, Act.put, List.setIfInBounds_toArray, List.set_cons_succ, List.set_cons_zero])) | (apply Ph.wpP_val_want rfl rfl rfl; (focus (intro t w1 hR; have hc := hcl _ _ hR; (try simp only [List.getElem_toArray, List.getElem_cons_succ, List.getElem_cons_zero]); (try go_simp); (try exact Eq.refl _); done)); (try simp only [List.getElem_toArray, List.getElem_cons_succ, List.getElem_cons_zero, Act.put, List.setIfInBounds_toArray, List.set_cons_succ, List.set_cons_zero]))))
  (apply Ph.wpP_write_call rfl rfl rfl; (focus (intro w1 hR; have hc := hcl _ _ hR; (try simp only [List.getElem_toArray, List.getElem_cons_succ, List.getElem_cons_zero]); (try go_simp); (try exact And.intro rfl rfl); done)); (focus (intro w1 hR; exact (rmerge_u H0.out.pr.hm.ok (HR2.out.below hR) (HV2.out.below hR)).mono fun e w' ⟨he, h1, h2⟩ => ⟨_, he, rfl, h1, (Mod.of_below hR).trans h2⟩)))
  rintro u w1' ⟨rfl, hR1⟩
  clear hR1
  (try simp only [List.getElem_toArray, List.getElem_cons_succ, List.getElem_cons_zero, Act.put, List.setIfInBounds_toArray, List.set_cons_succ, List.set_cons_zero])
  (repeat (first | (refine Ph.wpP_pass rfl rfl rfl ?_; (try simp only [List.getElem_toArray, List.getElem_cons_succ, List.getElem_cons_zero, Act.put, List.setIfInBounds_toArray, List.set_cons_succ, List.set_cons_zero])) | (apply Ph.wpP_val rfl rfl rfl; (focus (intro t w1 hR; have hc := hcl _ _ hR; (try simp only [List.getElem_toArray, List.getElem_cons_succ, List.getElem_cons_zero]); (try go_simp); (try exact Eq.refl _); done)); (try simp only [List.getElem_toArray, List.getElem_cons_succ, List.getElem_cons_zero, Act.put, List.setIfInBounds_toArray, List.set_cons_succ, List.set_cons_zero])) | (apply Ph.wpP_val_want rfl rfl rfl; (focus (intro t w1 hR; have hc := hcl _ _ hR; (try simp only [List.getElem_toArray, List.getElem_cons_succ, List.getElem_cons_zero]); (try go_simp); (try exact Eq.refl _); done)); (try simp only [List.getElem_toArray, List.getElem_cons_succ, List.getElem_cons_zero, Act.put, List.setIfInBounds_toArray, List.set_cons_succ, List.set_cons_zero]))))
  refine Ph.wpP_nil ?_
  rintro w4 ⟨_, hr4, hmd4⟩
  clear hcl
  have HG := Lib.hid (HH.out.chg' (HB0.out.trans (HB1.out.mono HB0.out.size)) HM2.out HMD2.out (Below.refl _ _) hr4 hmd4)
  have hd4 := HRD2.out.mod hmd4 HDB.out
  have cd4 := hd4.cell (i := 4) rfl
  have cp2 := HG.out.1.pr.hP.cell (i := 2) rfl
  have ld := heap_lt hd4
  have lp := heap_lt HG.out.1.pr.hP
  have HC4 : Hid (Cop w0.heap.size w4 wv v1 V) := Lib.hid ((HC1.out.mod HMD2.out fun g e e' => by
    have h3 := ((HC1.out.ou (by have := HL.out; omega)).lt g e).1
    have h4 := HB0.out.size
    have h5 := HH.out.pr.lt g (pr_of_bm e')
    omega).mod hmd4 fun g e e' => by
    have h3 := ((HC1.out.ou (by have := HL.out; omega)).lt g e).1
    have h4 := HB0.out.size
    have h5 := HH.out.pr.lt g (.inr (.inr (.inr (.inr (.inr e')))))
    omega)
  have HV4 : Hid (RU w4 wv V) := Lib.hid (HV2.out.mod hmd4 fun hl g e e' => HNE.out hl g e (.inr (.inr (.inr (.inr (.inr e'))))))
  have hint := intact_calls HC4.out HV4.out (by have := HL.out; omega)
  have HINT := Lib.hid hint
  clear hr4 hmd4 hd4 hint HRD2 HP2 HR2
  go_wp2_with (first
    | (go_at_call 25
       refine HINT.out.out.mono ?_
       clear HINT
       rintro e w5 ⟨rfl, hb5⟩
       have h5 := HG.out.1.below hb5
       have cr2 := h5.pr.hP.cell (i := 2) rfl
       have H5 := Lib.hid h5
       have HB5 := Lib.hid hb5
       clear hb5 h5)
    | (go_at_call 23
       have hO := (HC4.out.ou (by have := HL.out; omega)).below HB5.out
       refine (HK.out.run H5.out.bk (hO.more (Nat.zero_le _)) (by have := HL.out; omega) (fun g e e' => by have h1 := (hO.lt g e).1; have h2 := HH.out.bk.lt g e'; have h3 := HB0.out.size; omega) HN.out).mono ?_
       rintro e w6 ⟨rfl, own', hbok, hlow, hm⟩
       have HO := Lib.hid hO
       have HBOK := Lib.hid hbok
       have HLOW := Lib.hid hlow
       have HM := Lib.hid hm
       clear hO hbok hlow hm)
    | fail)
  go_ret
  have hs0 := HB0.out.size
  have hs4 := HG.out.2.size
  have hs5 := HB5.out.size
  have hlt := fun g e => (HO.out.lt g e).1
  have hlow : ∀ k, k < w.heap.size → (own' k ↔ own k) := fun k hk => (HLOW.out k (by omega)).trans ⟨fun e => e.elim id fun e => by have := hlt k e; omega, .inl⟩
  have hat : ∀ k, Pr.At P p bw ba r bb k → ¬ (own k ∨ v1.ownBlock = some k) := fun k e e' => e'.elim (HH.out.no k e) fun e' => by have := hlt k e'; have := HH.out.pr.lt k e; omega
  exact ⟨rfl, own', _, ⟨H5.out.pr.mod HM.out hat, HBOK.out, fun k e e' => HH.out.no k e ((hlow k (HH.out.pr.lt k e)).1 e')⟩, hlow,
    (HG.out.2.onB HB5.out).on HM.out (fun k e => e.elim (fun e => .inl (.inl e)) fun e => .inr (by have := hlt k e; omega))⟩
set_option maxHeartbeats 8000000 in
theorem chq_none {w : World} {P p bw ba r bb b n N : Nat} {W : List UInt64} {own : Nat → Prop} {late : Bool} (h : PrB w P p bw ba r bb b n W own late N) (s2 wv bf ac ag A B : Value) {k : Int} (hk1 : k ≠ 1) (hk2 : k ≠ 2) (hk3 : k ≠ 3) (hk4 : k ≠ 4) (hk5 : k ≠ 5) :
    Calls Tryd.prog 81 #[.pointer (some ⟨P, 0, none⟩), .agg #[.int .i64 k, s2, A, B, wv, bf, ac, ag]] w (ChgQ w P p bw ba r bb b n N own late) := by
  obtain ⟨w0, D, hw0, hD, hrd, hb0⟩ := boxedOp w [.int .i64 k, s2, A, B, wv, bf, ac, ag]
  have HH := Lib.hid h
  have HB0 := Lib.hid hb0
  have cd0 := hrd.cell (i := 0) rfl
  go_enter Tryd.func81, Tryd.ntmps81
  go_upto_region 1 with fail
  rw [← hw0, ← hD]
  clear h hrd hw0 hD hb0
  go_wp2_with fail
  go_ret
  exact ⟨rfl, W, HH.out.below HB0.out, Mod.of_below HB0.out⟩
theorem chg_none {w : World} {P p bw ba r bb b n N : Nat} {W : List UInt64} {own : Nat → Prop} {late : Bool} (h : PrB w P p bw ba r bb b n W own late N) (s2 wv bf ac ag A B : Value) {k : Int} (hk1 : k ≠ 1) (hk2 : k ≠ 2) (hk3 : k ≠ 3) (hk4 : k ≠ 4) (hk5 : k ≠ 5) :
    Calls Tryd.prog 81 #[.pointer (some ⟨P, 0, none⟩), .agg #[.int .i64 k, s2, A, B, wv, bf, ac, ag]] w (ChgP w P p bw ba r bb b n N own late) := (chq_none h s2 wv bf ac ag A B hk1 hk2 hk3 hk4 hk5).mono fun _ _ h => h.chg
end Go.Proofs.YtckbckdaffdjmaaDoor

/- Bytes in memory: a slice that reads as a list of bytes (RB); a row of the call's own that holds one (OB); append, slicing. -/
namespace Go.Proofs.YtckbckdaffdjmaaDoor
open Go.RowKit
set_option linter.unusedVariables false
set_option linter.unusedSimpArgs false

/-- A byte as a value. -/
abbrev bv (b : UInt8) : Value := .int .u8 (b.toNat : Int)

theorem bv_of_int (x : Nat) : bv (UInt8.ofNat x) = .int .u8 ((x : Int) % 256) := by
  show Value.int .u8 ((UInt8.ofNat x).toNat : Int) = _
  rw [UInt8.toNat_ofNat']; rfl
/-- v is a slice that reads as l. -/
def RB (w : World) (v : Value) (l : List UInt8) : Prop :=
  ∃ p c, v = .slice p l.length c ∧ l.length ≤ c ∧ c ≤ maxLen ∧ l.length ≤ 140737488355328 ∧
    ∀ i b, l[i]? = some b → ∃ g o, p = some ⟨g, o, none⟩ ∧ g < w.heap.size ∧ w.cell? ⟨g, o + i, none⟩ = some (bv b)
/-- v is a slice of a block of the call's own (from B on) that holds l at its head. -/
def OB (B : Nat) (w : World) (v : Value) (l : List UInt8) : Prop := w.ownsRow B 5 1 v l.length (l.map bv) ∧ l.length ≤ 140737488355328

section
variable {w w' : World} {B : Nat} {v : Value} {l m : List UInt8}
theorem RB.nil_ (w : World) : RB w (.slice none 0 0) [] := ⟨none, 0, rfl, Nat.le_refl _, Nat.zero_le _, Nat.zero_le _, fun i b h => by simp at h⟩
theorem RB.keep (h : RB w v l) (hs : w.heap.size ≤ w'.heap.size) (hk : l ≠ [] → ∀ g o, v.ownBlock = some g → g < w.heap.size → w'.cell? ⟨g, o, none⟩ = w.cell? ⟨g, o, none⟩) : RB w' v l := by
  obtain ⟨p, c, rfl, h1, h2, h3, hr⟩ := h
  refine ⟨p, c, rfl, h1, h2, h3, fun i b hb => ?_⟩
  obtain ⟨g, o, rfl, hg, hc⟩ := hr i b hb
  exact ⟨g, o, rfl, by omega, (hk (by intro e; subst e; simp at hb) g _ rfl hg).trans hc⟩
theorem RB.below (h : RB w v l) (hb : Below w.heap.size w w') : RB w' v l := h.keep hb.size fun _ g o _ hg => (bcell hb).1 g o hg
theorem RB.belowB (h : RB w v l) (hb : Below B w w') (hB : l ≠ [] → ∀ g, v.ownBlock = some g → g < B) : RB w' v l := h.keep hb.size fun hl g o e hg => (bcellB hb).1 g o (hB hl g e)
theorem RB.grown (h : RB w v l) {r : Option Nat} (hg : w.grownBy w' r) (hne : l ≠ [] → ∀ g, v.ownBlock = some g → r ≠ some g) : RB w' v l :=
  h.keep hg.size fun hl g o e hlt => World.cell?_of_block (hg.block g hlt (fun e' => hne hl g e e'.symm))
theorem RB.form (h : RB w v l) : ∃ p c, v = .slice p l.length c := by obtain ⟨p, c, e, _⟩ := h; exact ⟨p, c, e⟩
theorem RB.len (h : RB w v l) : l.length ≤ 140737488355328 := by obtain ⟨p, c, rfl, _, _, h3, _⟩ := h; exact h3
theorem RB.block (h : RB w v l) (hl : l ≠ []) : ∀ g, v.ownBlock = some g → g < w.heap.size := by
  obtain ⟨p, c, rfl, h1, h2, h3, hr⟩ := h
  intro g hg
  obtain ⟨b, r, rfl⟩ : ∃ b r, l = b :: r := by cases l with | nil => exact absurd rfl hl | cons b r => exact ⟨b, r, rfl⟩
  obtain ⟨g', o, rfl, hlt, _⟩ := hr 0 b rfl
  simp only [Value.ownBlock, Option.some.injEq] at hg
  omega

theorem OB.nil_ (B : Nat) (w : World) : OB B w (.slice none 0 0) [] := ⟨World.ownsRow_nil w B 5 1, Nat.zero_le _⟩
theorem OB.lt (h : OB B w v l) : ∀ k, v.ownBlock = some k → B ≤ k ∧ k < w.heap.size := h.1.lt
theorem OB.kept (h : OB B w v l) {r : Option Nat} (hg : w.grownBy w' r) (hne : ∀ g, v.ownBlock = some g → r ≠ some g) : OB B w' v l := by
  refine ⟨h.1.kept hg ?_, h.2⟩
  cases e : v.ownBlock with
  | none => exact .inl rfl
  | some g => exact .inr fun e' => hne g e e'.symm
theorem below_grown {r : Option Nat} (hb : Below w.heap.size w w') : w.grownBy w' r := ⟨hb.os, hb.tape, hb.output, hb.size, fun k hk _ => hb.block k hk⟩
theorem OB.below (h : OB B w v l) (hb : Below w.heap.size w w') : OB B w' v l := h.kept (r := none) (below_grown hb) (fun g _ e => by cases e)
theorem OB.more (h : OB B w v l) {B' : Nat} (hB : B' ≤ B) : OB B' w v l := by
  obtain ⟨⟨h0, h1 | ⟨g, cap, cur, rfl, hb, hg, r⟩⟩, hl⟩ := h
  · exact ⟨⟨h0, .inl h1⟩, hl⟩
  · exact ⟨⟨h0, .inr ⟨g, cap, cur, rfl, by omega, hg, r⟩⟩, hl⟩
theorem OB.rb (h : OB B w v l) : RB w v l := by
  obtain ⟨⟨h0, ⟨rfl, hn⟩ | ⟨g, cap, cur, rfl, hB, hg, hn, hc, hs, ht⟩⟩, hl⟩ := h
  · have : l = [] := List.eq_nil_of_length_eq_zero hn
    subst this
    exact RB.nil_ w
  · refine ⟨_, cap, rfl, hn, hc, hl, fun i b hb => ⟨g, 0, rfl, heap_lt hg, ?_⟩⟩
    have hi : i < l.length := (List.getElem?_eq_some_iff.1 hb).1
    have h1 : (cur.toList.take (l.length * 1))[i]? = some (bv b) := by rw [ht]; simp [hb]
    rw [List.getElem?_take, if_pos (by omega)] at h1
    simp only [World.cell?, hg]
    simpa using h1
theorem OB.form (h : OB B w v l) (hl : l ≠ []) : ∃ g cap, v = .slice (some ⟨g, 0, none⟩) l.length cap ∧ B ≤ g ∧ g < w.heap.size ∧ l.length ≤ cap ∧ cap ≤ maxLen ∧
    (∀ i b, l[i]? = some b → w.cell? ⟨g, i, none⟩ = some (bv b)) ∧ ∀ i, w.frozen? ⟨g, i, none⟩ = false := by
  have hr := h.rb
  obtain ⟨⟨h0, ⟨rfl, hn⟩ | ⟨g, cap, cur, rfl, hB, hg, hn, hc, hs, ht⟩⟩, hm⟩ := h
  · exact absurd (List.eq_nil_of_length_eq_zero hn) hl
  · refine ⟨g, cap, rfl, hB, heap_lt hg, hn, hc, fun i b hb => ?_, fun i => by simp [World.frozen?, hg]⟩
    obtain ⟨p, c, e, _, _, _, hcell⟩ := hr
    obtain ⟨g', o, e1, _, hx⟩ := hcell i b hb
    injection e with e2
    subst e2
    injection e1 with e1
    injection e1 with e3 e4
    subst e3 e4
    simpa using hx
/-- A part of it. -/
theorem RB.sub {g o c : Nat} (h : RB w (.slice (some ⟨g, o, none⟩) l.length c) l) (lo n c' : Nat) (hn : lo + n ≤ l.length) (hc : n ≤ c') (hm : c' ≤ maxLen) :
    RB w (.slice (some ⟨g, o + lo, none⟩) n c') ((l.drop lo).take n) := by
  obtain ⟨p, c1, e, h1, h2, h3, hr⟩ := h
  simp only [Value.slice.injEq] at e
  obtain ⟨e1, _, _⟩ := e
  subst e1
  have hl : ((l.drop lo).take n).length = n := by rw [List.length_take, List.length_drop]; omega
  refine ⟨_, c', by rw [hl], by rw [hl]; exact hc, hm, by rw [hl]; omega, fun i b hb => ?_⟩
  have hi : i < n := by have := (List.getElem?_eq_some_iff.1 hb).1; omega
  rw [List.getElem?_take, if_pos hi, List.getElem?_drop] at hb
  obtain ⟨g', o', e, hg, hcell⟩ := hr _ b hb
  simp only [Option.some.injEq, Addr.mk.injEq, and_true] at e
  obtain ⟨rfl, rfl⟩ := e
  exact ⟨g, o + lo, rfl, hg, by rw [Nat.add_assoc]; exact hcell⟩
theorem RB.front {g o c : Nat} (h : RB w (.slice (some ⟨g, o, none⟩) l.length c) l) (n c' : Nat) (hn : n ≤ l.length) (hc : n ≤ c') (hm : c' ≤ maxLen) :
    RB w (.slice (some ⟨g, o, none⟩) n c') (l.take n) := by
  have := h.sub 0 n c' (by omega) hc hm
  simpa using this
theorem RB.back {g o c : Nat} (h : RB w (.slice (some ⟨g, o, none⟩) l.length c) l) (lo c' : Nat) (hn : lo ≤ l.length) (hc : l.length - lo ≤ c') (hm : c' ≤ maxLen) :
    RB w (.slice (some ⟨g, o + lo, none⟩) (l.length - lo) c') (l.drop lo) := by
  have := h.sub lo (l.length - lo) c' (by omega) hc hm
  rwa [List.take_of_length_le (by rw [List.length_drop]; exact Nat.le_refl _)] at this
theorem cell_of_rb {g o n c : Nat} (h : RB w (.slice (some ⟨g, o, none⟩) n c) l) (i : Nat) (b : UInt8) (hb : l[i]? = some b) : w.cell? ⟨g, o + i, none⟩ = some (bv b) := by
  obtain ⟨p1, c1, e, h1, h2, h3, hr⟩ := h
  simp only [Value.slice.injEq] at e
  obtain ⟨e1, _, _⟩ := e
  subst e1
  obtain ⟨g', o', e, _, hc⟩ := hr i b hb
  simp only [Option.some.injEq, Addr.mk.injEq, and_true] at e
  obtain ⟨rfl, rfl⟩ := e
  exact hc
theorem RB.empty (w : World) (p : Option Addr) (c : Nat) (hm : c ≤ maxLen) : RB w (.slice p 0 c) [] := ⟨p, c, rfl, Nat.zero_le _, hm, Nat.zero_le _, fun i b h => by simp at h⟩
theorem RB.addr {p : Option Addr} {n c : Nat} (h : RB w (.slice p n c) l) (hl : l ≠ []) : ∃ g o, p = some ⟨g, o, none⟩ ∧ g < w.heap.size ∧ n = l.length ∧ n ≤ c ∧ c ≤ maxLen := by
  obtain ⟨p1, c1, e, h1, h2, h3, hr⟩ := h
  simp only [Value.slice.injEq] at e
  obtain ⟨rfl, rfl, rfl⟩ := e
  obtain ⟨b, r, rfl⟩ : ∃ b r, l = b :: r := by cases l with | nil => exact absurd rfl hl | cons b r => exact ⟨b, r, rfl⟩
  obtain ⟨g, o, rfl, hg, _⟩ := hr 0 b rfl
  exact ⟨g, o, rfl, hg, rfl, h1, h2⟩
/-- A block that was just laid. -/
theorem OB.new (w : World) (cs : Array Value) (l : List UInt8) (hc : cs = (l.map bv).toArray) (hl : l.length ≤ 140737488355328) (hB : B ≤ w.heap.size) :
    OB B (w.alloc (.cells cs 5)) (.slice (some ⟨w.heap.size, 0, none⟩) l.length l.length) l := by
  subst hc
  refine ⟨?_, hl⟩
  have := World.ownsRow_lit (e := 5) (size := 1) (base := B) w (l.map bv).toArray l.length hB (by simp only [maxLen]; omega) (by simp)
  simpa using this
theorem RB.wb (h : RB w v l) {b : Nat} (hne : l ≠ [] → v.ownBlock ≠ some b) (c : Array Value) (t : TypeId) : RB (w.wb b c t) v l :=
  h.keep (by simp) fun hl g o e _ => World.cell?_of_block (heap_wb_ne (fun e' => hne hl (by rw [e, e'])))
theorem OB.wb (h : OB B w v l) {b : Nat} (hne : v.ownBlock ≠ some b) (c : Array Value) (t : TypeId) : OB B (w.wb b c t) v l := by
  obtain ⟨⟨h0, h1 | ⟨g, cap, cur, rfl, hB, hg, r⟩⟩, hl⟩ := h
  · exact ⟨⟨h0, .inl h1⟩, hl⟩
  · exact ⟨⟨h0, .inr ⟨g, cap, cur, rfl, hB, (heap_wb_ne (fun e' => hne (by rw [e']; rfl))).trans hg, r⟩⟩, hl⟩
theorem OB.at_ (h : OB B w v l) (he : ∀ g, v.ownBlock = some g → w'.heap[g]? = w.heap[g]?) : OB B w' v l := by
  obtain ⟨⟨h0, h1 | ⟨g, cap, cur, rfl, hB, hg, r⟩⟩, hl⟩ := h
  · exact ⟨⟨h0, .inl h1⟩, hl⟩
  · exact ⟨⟨h0, .inr ⟨g, cap, cur, rfl, hB, (he g rfl).trans hg, r⟩⟩, hl⟩
theorem RB.lit (w : World) (cs : Array Value) (l : List UInt8) (n : Nat) (hc : cs = (l.map bv).toArray) (hn : n = l.length) (hl : l.length ≤ 140737488355328) :
    RB (w.alloc (.cells cs 5)) (.slice (some ⟨w.heap.size, 0, none⟩) n n) l := by
  subst hn
  exact (OB.new w cs l hc hl (Nat.le_refl _)).rb
end

theorem by_ti : (Tryd.prog.info? 5).map (fun i => (i.zero, i.size, i.bytes)) = some (some (.int .u8 0), 1, 1) := by kernel_rfl
theorem by_tu : Tryd.prog.underlying 74 = some (.slice 5) := by kernel_rfl
theorem by_info : ∃ i, Tryd.prog.info? 5 = some i ∧ i.zero = some (.int .u8 0) ∧ i.size = 1 ∧ i.bytes = 1 := by
  have h := by_ti
  cases hi : Tryd.prog.info? 5 with
  | none => rw [hi] at h; cases h
  | some i =>
    rw [hi] at h
    simp only [Option.map_some, Option.some.injEq, Prod.mk.injEq] at h
    exact ⟨i, rfl, h⟩

@[go_sem] theorem eql_bytes_nil (w : World) (a : Option Addr) (n c : Nat) : (binOp .eql 74 (.slice a n c) (.slice none 0 0)).run Tryd.prog w = .ok (.bool a.isNone) w := Lib.run_eql_slice_nil w _ _ a n c 0 0 by_tu

set_option maxRecDepth 100000 in
theorem run_append_nothing (w : World) {B : Nat} {v : Value} {l : List UInt8} (h : OB B w v l) (p : Option Addr) (c : Nat) :
    (Builtin.append_ #[74, 74] 74 #[v, .slice p 0 c]).run Tryd.prog w = .ok v w := by
  obtain ⟨i, hi, hz⟩ := by_info
  obtain ⟨⟨h0, ⟨rfl, hn⟩ | ⟨g, cap, cur, rfl, hB, hg, hn, hc, hs, ht⟩⟩, hl⟩ := h
  · cases p <;> simp [Builtin.append_, run_underlying by_tu, sizeOf, typeInfo, hi, Builtin.lenOf, Builtin.firstCells, loadCells, loadCellsFrom]
  · cases p <;> simp [Builtin.append_, run_underlying by_tu, sizeOf, typeInfo, hi, Builtin.lenOf, Builtin.firstCells, loadCells, loadCellsFrom, hn, storeCells]

set_option maxRecDepth 100000 in
/-- append to a row of the call's own. -/
theorem run_append_OB {w : World} {B : Nat} {v x : Value} {l m : List UInt8} (h : OB B w v l) (hr : RB w x m) (hlen : l.length + m.length ≤ 140737488355328) (hB : B ≤ w.heap.size) :
    ∃ v' w', (Builtin.append_ #[74, 74] 74 #[v, x]).run Tryd.prog w = .ok v' w' ∧ OB B w' v' (l ++ m) ∧ w.grownBy w' v.ownBlock ∧ (v'.ownBlock = v.ownBlock ∨ v'.ownBlock = some w.heap.size) := by
  obtain ⟨i, hi, hz⟩ := by_info
  obtain ⟨p, c, rfl, h1, h2, h3, hc⟩ := hr
  by_cases hm : m = []
  · subst hm
    exact ⟨v, w, run_append_nothing w h p c, by simpa using h, World.grownBy.refl w _, .inl rfl⟩
  · obtain ⟨b, r, rfl⟩ : ∃ b r, m = b :: r := by cases m with | nil => exact absurd rfl hm | cons b r => exact ⟨b, r, rfl⟩
    obtain ⟨g, o, rfl, hg, _⟩ := hc 0 b rfl
    obtain ⟨v', w', hrun, ho, hgr, _, hat⟩ := run_append_own_at (P := Tryd.prog) w B 74 74 5 i (.int .u8 0) 1 1 by_tu hi hz.1 hz.2.1 hz.2.2 rfl (by decide) v l.length (l.map bv) h.1 ⟨g, o, none⟩ (b :: r).length c ((b :: r).map bv) (by simp)
      (fun j u hj => by
        rw [List.getElem?_map] at hj
        cases hb : (b :: r)[j]? with
        | none => rw [hb] at hj; cases hj
        | some b' =>
          rw [hb] at hj
          cases hj
          obtain ⟨g', o', e, _, hcell⟩ := hc j b' hb
          injection e with e
          injection e with e1 e2
          subst e1 e2
          rw [add_flat]
          exact hcell)
      (fun u hu => by
        obtain ⟨b', _, rfl⟩ := List.mem_map.1 hu
        rfl) (by simp only [maxLen]; omega) (by omega) hB
    refine ⟨v', w', hrun, ⟨?_, by simpa using hlen⟩, hgr, hat⟩
    rw [List.length_append, List.map_append]
    exact ho

set_option maxRecDepth 100000 in
/-- append at the operation. -/
theorem wpList_append_OB {w : World} {ops : Array Oper} {rest : List Oper} {o : Oper} {a : Act} {Q : Exit → Act → World → Prop} (hgd : o.guard = none) (s x : Operand)
    (ho : o.op = .call { callee := .builtin .append, args := #[s, x], argTypes := #[74, 74] }) (hty : o.type = 74) {B : Nat} {v xv : Value} {l m : List UInt8}
    (hs : a.eval s = v) (hx : a.eval x = xv) (h : OB B w v l) (hr : RB w xv m) (hlen : l.length + m.length ≤ 140737488355328) (hB : B ≤ w.heap.size)
    (hk : ∀ v' w', OB B w' v' (l ++ m) → w.grownBy w' v.ownBlock → (v'.ownBlock = v.ownBlock ∨ v'.ownBlock = some w.heap.size) → wpList Tryd.prog ops Q rest (a.put o.dst v') w') : wpList Tryd.prog ops Q (o :: rest) a w := by
  refine wpList_plain hgd fun K hK => ?_
  obtain ⟨v', w', hrun, h2, h3, h4⟩ := run_append_OB h hr hlen hB
  unfold Oper.wp execOp
  simp only [ho, hty, resolve, invoke, builtin, Sem.run_bind, Sem.run_pure, Result.andThen_ok, List.map_toArray, List.map_cons, List.map_nil, hs, hx, hrun]
  exact hK _ _ (hk v' w' h2 h3 h4)
end Go.Proofs.YtckbckdaffdjmaaDoor

/- The cells of an argument, leaf by leaf, with the bound of what its slices weigh; slices of bytes among them. -/
namespace Go.Proofs.YtckbckdaffdjmaaDoor
open Go.ChangeShapes Go.WideShapes Go.ChangeAt Go.RowKit
set_option maxRecDepth 100000
set_option linter.unusedVariables false
set_option linter.unusedSimpArgs false

section
variable {H : Type} {enc : TypeId × Value → H} {P : Program} {w : World} {base : Nat} {spare : Nat → Bool} {held : Bool} {R : Nat}

/-- A cell is what its leaf says; its slices weigh at most R. -/
def LeafW (enc : TypeId × Value → H) (P : Program) (w : World) (base : Nat) (spare : Nat → Bool) (held : Bool) (R : Nat) : Leaf → Value → Prop
  | .int k, v => ∃ n, v = .int k n ∧ (Lit.int k n).wf = true
  | .bool, v => ∃ b, v = .bool b
  | .str, v => ∃ s, v = .string s ∧ s.size ≤ maxLen
  | .other t, v => ∃ fuel x, DataW.trod enc P w base spare held fuel t [v] = some x ∧ ∀ n ∈ x.1.weights P t, n ≤ R

inductive LeavesW (enc : TypeId × Value → H) (P : Program) (w : World) (base : Nat) (spare : Nat → Bool) (held : Bool) (R : Nat) : List Leaf → List Value → Prop
  | nil : LeavesW enc P w base spare held R [] []
  | cons {l : Leaf} {v : Value} {ls : List Leaf} {vs : List Value} : LeafW enc P w base spare held R l v → LeavesW enc P w base spare held R ls vs → LeavesW enc P w base spare held R (l :: ls) (v :: vs)

theorem LeavesW.append {a b : List Leaf} {u v : List Value} (h : LeavesW enc P w base spare held R a u) (k : LeavesW enc P w base spare held R b v) : LeavesW enc P w base spare held R (a ++ b) (u ++ v) := by
  induction h with
  | nil => exact k
  | cons h1 _ ih => exact .cons h1 ih
theorem LeavesW.uncons {l : Leaf} {ls : List Leaf} {cs : List Value} (h : LeavesW enc P w base spare held R (l :: ls) cs) : ∃ v vs, cs = v :: vs ∧ LeafW enc P w base spare held R l v ∧ LeavesW enc P w base spare held R ls vs := by
  cases h with
  | cons a b => exact ⟨_, _, rfl, a, b⟩
theorem LeavesW.unnil {cs : List Value} (h : LeavesW enc P w base spare held R [] cs) : cs = [] := by cases h; rfl
theorem LeavesW.int {k : IntKind} {ls : List Leaf} {cs : List Value} (h : LeavesW enc P w base spare held R (.int k :: ls) cs) : ∃ n vs, cs = .int k n :: vs ∧ (Lit.int k n).wf = true ∧ LeavesW enc P w base spare held R ls vs := by
  obtain ⟨v, vs, rfl, ⟨n, rfl, hn⟩, r⟩ := h.uncons
  exact ⟨n, vs, rfl, hn, r⟩
theorem LeavesW.bool {ls : List Leaf} {cs : List Value} (h : LeavesW enc P w base spare held R (.bool :: ls) cs) : ∃ b vs, cs = .bool b :: vs ∧ LeavesW enc P w base spare held R ls vs := by
  obtain ⟨v, vs, rfl, ⟨n, rfl⟩, r⟩ := h.uncons
  exact ⟨n, vs, rfl, r⟩
theorem LeavesW.other {t : TypeId} {ls : List Leaf} {cs : List Value} (h : LeavesW enc P w base spare held R (.other t :: ls) cs) : ∃ v vs, cs = v :: vs ∧ (∃ fuel x, DataW.trod enc P w base spare held fuel t [v] = some x ∧ ∀ n ∈ x.1.weights P t, n ≤ R) ∧ LeavesW enc P w base spare held R ls vs := by
  obtain ⟨v, vs, rfl, hv, r⟩ := h.uncons
  exact ⟨v, vs, rfl, hv, r⟩

theorem weights_mem_all {e : TypeId} : ∀ {ds : List (DataW H)} {j : Nat} {d : DataW H}, ds[j]? = some d → ∀ n ∈ d.weights P e, n ∈ DataW.weightsAll P e ds
  | d0 :: ds, 0, d, hd, n, hn => by
    simp only [List.getElem?_cons_zero, Option.some.injEq] at hd
    subst hd
    simp only [DataW.weightsAll, List.mem_append]
    exact Or.inl hn
  | d0 :: ds, j + 1, d, hd, n, hn => by
    simp only [List.getElem?_cons_succ] at hd
    simp only [DataW.weightsAll, List.mem_append]
    exact Or.inr (weights_mem_all hd n hn)
  | [], _, _, hd, _, _ => by simp at hd

mutual
theorem leaves_okW : ∀ (n : Nat) (t : TypeId) (ls : List Leaf) (fuel : Nat) (cs : List Value) (x : DataW H × List MemPlace), leaves P n t = some ls →
    DataW.trod enc P w base spare held fuel t cs = some x → (∀ n ∈ x.1.weights P t, n ≤ R) → LeavesW enc P w base spare held R ls cs
  | 0, _, _, _, _, _, h, _, _ => by simp [leaves] at h
  | n + 1, t, ls, fuel, cs, x, h, ht, hw => by
    unfold leaves at h
    split at h
    · rename_i hu
      cases h
      obtain ⟨b, rfl, _⟩ := DataW.trod_bool hu ht
      exact .cons ⟨b, rfl⟩ .nil
    · rename_i k hu
      cases h
      obtain ⟨m, rfl, _, hwf⟩ := DataW.trod_int hu ht
      exact .cons ⟨m, rfl, hwf⟩ .nil
    · rename_i hu
      cases h
      obtain ⟨s, rfl, _, hwf⟩ := DataW.trod_string hu ht
      exact .cons ⟨s, rfl, hwf⟩ .nil
    · rename_i fs hu
      split at h
      · rename_i hc
        simp only [Bool.and_eq_true, beq_iff_eq] at hc
        obtain ⟨xs, m, rfl, rfl, hl, hxl, hf⟩ := DataW.trod_struct hu ht
        refine leavesAll_okW n fs.toList ls m cs 0 h hc.1 ?_ ?_
        · rw [Nat.zero_add, hc.2]; exact hl
        · intro i f hif
          have hi : fs[i]? = some f := by simpa using hif
          have hlt : i < xs.length := by
            have := (Array.getElem?_eq_some_iff.1 hi).1
            omega
          refine ⟨xs[i], by rw [hf i f hi]; exact List.getElem?_eq_getElem hlt, fun q hq => hw q ?_⟩
          simp only [DataW.weights, hu]
          exact DataW.weights_mem_each (j := i) (t := f.type) (d := xs[i].1) (by rw [List.getElem?_map, hif]; rfl) (by rw [List.getElem?_map, List.getElem?_eq_getElem hlt]; rfl) q hq
      · cases h
    · rename_i m e hu
      split at h
      · rename_i hc
        simp only [beq_iff_eq] at hc
        cases hle : leaves P n e with
        | none => rw [hle] at h; cases h
        | some l =>
          rw [hle] at h
          simp only [Option.map_some, Option.some.injEq] at h
          subst h
          obtain ⟨xs, fu, rfl, hx1, hlen, hn3, hel⟩ := DataW.trod_array hu ht
          have key : ∀ k, k ≤ m → LeavesW enc P w base spare held R (List.replicate k l).flatten (cs.take (k * P.cellsOf e)) := by
            intro k
            induction k with
            | zero => intro _; simp; exact .nil
            | succ k ih =>
              intro hk
              have h1 := ih (by omega)
              have hk' : k < xs.length := by omega
              have h2 := hel k (by omega)
              rw [List.getElem?_eq_getElem hk'] at h2
              have h3 := leaves_okW n e l fu _ _ hle h2 (fun q hq => hw q (by
                rw [hx1]
                simp only [DataW.weights, hu]
                exact weights_mem_all (j := k) (d := xs[k].1) (by rw [List.getElem?_map, List.getElem?_eq_getElem hk']; rfl) q hq))
              have e1 : (List.replicate (k + 1) l).flatten = (List.replicate k l).flatten ++ l := by
                rw [List.replicate_succ', List.flatten_append]; simp
              have e2 : cs.take ((k + 1) * P.cellsOf e) = cs.take (k * P.cellsOf e) ++ (cs.drop (k * P.cellsOf e)).take (P.cellsOf e) := by
                rw [Nat.succ_mul, List.take_add]
              rw [e1, e2]
              exact h1.append h3
          have hm := key m (Nat.le_refl _)
          rw [hc, ← hlen, List.take_length] at hm
          exact hm
      · cases h
    · rename_i e hu
      cases h
      rcases trod_length ht with ⟨v, rfl⟩ | ⟨fs, h2⟩ | ⟨m, e', h2⟩
      · exact .cons ⟨fuel, x, ht, hw⟩ .nil
      · rw [hu] at h2; cases h2
      · rw [hu] at h2; cases h2
    · rename_i e hu
      cases h
      rcases trod_length ht with ⟨v, rfl⟩ | ⟨fs, h2⟩ | ⟨m, e', h2⟩
      · exact .cons ⟨fuel, x, ht, hw⟩ .nil
      · rw [hu] at h2; cases h2
      · rw [hu] at h2; cases h2
    · cases h
theorem leavesAll_okW : ∀ (n : Nat) (fs : List Field) (ls : List Leaf) (fuel : Nat) (cs : List Value) (at_ : Nat), leavesAll P n fs = some ls → fieldsLie P fs at_ = true → cs.length = at_ + fieldsSum P fs →
    (∀ (i : Nat) (f : Field), fs[i]? = some f → ∃ x, DataW.trod enc P w base spare held fuel f.type ((cs.drop f.offset).take (P.cellsOf f.type)) = some x ∧ ∀ n ∈ x.1.weights P f.type, n ≤ R) → LeavesW enc P w base spare held R ls (cs.drop at_)
  | 0, _, _, _, _, _, h, _, _, _ => by simp [leavesAll] at h
  | n + 1, [], ls, fuel, cs, at_, h, _, hs, _ => by
    simp only [leavesAll, Option.some.injEq] at h
    subst h
    rw [List.drop_of_length_le (by simp [fieldsSum] at hs; omega)]
    exact .nil
  | n + 1, f :: r, ls, fuel, cs, at_, h, hlie, hs, hf => by
    simp only [leavesAll] at h
    split at h
    · rename_i a b ha hb
      cases h
      simp only [fieldsLie, Bool.and_eq_true, beq_iff_eq] at hlie
      obtain ⟨x, hx, hwx⟩ := hf 0 f rfl
      rw [hlie.1] at hx
      have h1 := leaves_okW n f.type a fuel _ x ha hx hwx
      have h2 := leavesAll_okW n r b fuel cs (at_ + P.cellsOf f.type) hb hlie.2 (by simp [fieldsSum] at hs; omega) (fun i g hg => hf (i + 1) g (by simpa using hg))
      have e : cs.drop at_ = (cs.drop at_).take (P.cellsOf f.type) ++ cs.drop (at_ + P.cellsOf f.type) := by
        rw [← List.drop_drop, List.take_append_drop]
      rw [e]
      exact h1.append h2
    · cases h
end

/-- An argument that is a struct or an array: its cells, leaf by leaf. -/
theorem open_leavesW {W : World} {b : Nat} {t : TypeId} {v : Value} {d : DataW H} {ps : List MemPlace} {ls : List Leaf} {n : Nat} (hls : leaves P n t = some ls)
    (hst : (match P.underlying t with | some (.struct _) | some (.array _ _) => true | _ => false) = true)
    (hv : Value.okWide P W .any b t v) (h : DataW.Trod enc P W base spare held t v d ps) (hw : ∀ n ∈ d.weights P t, n ≤ R) : ∃ cs, v = .agg cs.toArray ∧ LeavesW enc P W base spare held R ls cs := by
  obtain ⟨fuel, hf⟩ := h
  unfold Value.okWide at hv
  split at hst
  · rename_i fs hu
    rw [hu] at hv
    obtain ⟨cs, rfl, _, _⟩ := hv
    exact ⟨cs.toList, by simp, leaves_okW n t ls fuel _ _ hls hf hw⟩
  · rename_i m e hu
    rw [hu] at hv
    obtain ⟨cs, rfl, _, _⟩ := hv
    exact ⟨cs.toList, by simp, leaves_okW n t ls fuel _ _ hls hf hw⟩
  · cases hst
end

theorem by_u8 : Tryd.prog.underlying 5 = some (.int .u8) := by kernel_rfl
theorem by_c1 : Tryd.prog.cellsOf 5 = 1 := by kernel_rfl
theorem by_b1 : Tryd.prog.bytesOf 5 = 1 := by kernel_rfl

theorem u8_of_wf {n : Int} (h : (Lit.int .u8 n).wf = true) : ∃ b : UInt8, Value.int .u8 n = bv b := by
  have h2 : IntKind.u8.min ≤ n ∧ n ≤ IntKind.u8.max := by simpa [Lit.wf] using h
  have hm : IntKind.u8.min = 0 := by decide
  have hM : IntKind.u8.max = 255 := by decide
  refine ⟨UInt8.ofNat n.toNat, ?_⟩
  rw [bv_of_int]
  rw [hm, hM] at h2
  have : ((n.toNat : Nat) : Int) = n := Int.toNat_of_nonneg h2.1
  rw [this, show n % 256 = n by omega]

section
variable {H : Type} {enc : TypeId × Value → H} {W : World} {base : Nat} {spare : Nat → Bool} {held : Bool} {R : Nat}
/-- A slice of bytes that came in reads as a list. -/
theorem rb_of_trod {fuel : Nat} {v : Value} {x : DataW H × List MemPlace} (h : DataW.trod enc Tryd.prog W base spare held fuel 74 [v] = some x) (hw : ∀ n ∈ x.1.weights Tryd.prog 74, n ≤ reachBytes) :
    ∃ l, RB W v l ∧ (∀ g, v.ownBlock = some g → g < W.heap.size ∨ l = []) ∧ l.length ≤ 140737488351232 := by
  rcases Go.Deep.open_slice1 by_tu by_c1 h with ⟨hcs, rfl⟩ | ⟨a, len, cap, m, n, V, D, Pl, hcs, hb, hl, hm, hmm, rfl, hx⟩
  · cases hcs
    exact ⟨[], RB.nil_ W, fun g hg => .inr rfl, by simp⟩
  · simp only [List.cons.injEq, and_true] at hcs
    subst hcs
    have hlm : len ≤ m := by rw [hmm]; split <;> omega
    have hlen : len ≤ 140737488351232 := by
      have := hw ((len + (m - len)) * Tryd.prog.bytesOf 5) (by simp [DataW.weights, by_tu])
      rw [by_b1] at this
      simp only [reachBytes] at this
      omega
    have hB : ∀ i, i < len → ∃ b : UInt8, V i = bv b := fun i hi => by
      obtain ⟨_, ht⟩ := hx i (by omega)
      obtain ⟨k, e, _, hwf⟩ := DataW.trod_int by_u8 ht
      simp only [List.cons.injEq, and_true] at e
      obtain ⟨b, hb⟩ := u8_of_wf hwf
      exact ⟨b, e.trans hb⟩
    obtain ⟨bs, hbs⟩ := Go.Deep.choose_lt (α := UInt8) (p := fun i b => V i = bv b) hB
    have hll : ((List.range len).map bs).length = len := by simp
    have hcellb : ∀ i b, ((List.range len).map bs)[i]? = some b → ∃ g o, some a = some (⟨g, o, none⟩ : Addr) ∧ g < W.heap.size ∧ W.cell? ⟨g, o + i, none⟩ = some (bv b) := fun i b hi => by
      have hil : i < len := by have := (List.getElem?_eq_some_iff.1 hi).1; simpa using this
      have hbi : bs i = b := by
        rw [List.getElem?_map, List.getElem?_range hil] at hi
        simpa using hi
      obtain ⟨hc, _⟩ := hx i (by omega)
      have hsp := World.cell?_spot (hx 0 (by omega)).1
      obtain ⟨g, off, spot⟩ := a
      have hspot : spot = none := by simpa [Addr.add] using hsp
      subst hspot
      rw [add_flat] at hc
      refine ⟨g, off, rfl, cell_lt hc, ?_⟩
      rw [hc, hbs i hil, hbi]
    refine ⟨(List.range len).map bs, ⟨some a, cap, by rw [hll], by rw [hll]; exact hl, hm, by rw [hll]; omega, hcellb⟩, fun g hg => ?_, by rw [hll]; exact hlen⟩
    by_cases h0 : len = 0
    · exact .inr (by rw [h0]; rfl)
    · obtain ⟨g', o, e, hlt, _⟩ := hcellb 0 (bs 0) (by rw [List.getElem?_map, List.getElem?_range (by omega)]; rfl)
      injection e with e
      subst e
      simp only [Value.ownBlock, Option.some.injEq] at hg
      subst hg
      exact .inl hlt
end

section
variable {H : Type} {enc : TypeId × Value → H} {P : Program} {W : World} {base : Nat} {spare : Nat → Bool} {held : Bool}
theorem weights_each {ts : List TypeId} {ds : List (DataW H)} (h : (DataW.weightsEach P ts ds).all (· ≤ reachBytes) = true) {j : Nat} {t : TypeId} {d : DataW H} (ht : ts[j]? = some t) (hd : ds[j]? = some d) : ∀ n ∈ d.weights P t, n ≤ reachBytes :=
  fun n hn => by simpa using List.all_eq_true.1 h _ (DataW.weights_mem_each ht hd n hn)
theorem trodAll_one {t : TypeId} {args : Array Value} {ds : List (DataW H)} {ps : List MemPlace} (h : DataW.TrodAll enc P W base spare held [t] args.toList ds ps) :
    ∃ v d p, args = #[v] ∧ ds = [d] ∧ DataW.Trod enc P W base spare held t v d p := by
  obtain ⟨v, vs, d, ds', p, q, hargs, rfl, rfl, hd, hrest⟩ := trodAll_cons h
  obtain ⟨rfl, rfl, rfl⟩ := trodAll_nil hrest
  exact ⟨v, d, p, by cases args; simp_all, rfl, hd⟩
theorem trodAll_two {t t' : TypeId} {args : Array Value} {ds : List (DataW H)} {ps : List MemPlace} (h : DataW.TrodAll enc P W base spare held [t, t'] args.toList ds ps) :
    ∃ v v' d d' p p', args = #[v, v'] ∧ ds = [d, d'] ∧ DataW.Trod enc P W base spare held t v d p ∧ DataW.Trod enc P W base spare held t' v' d' p' := by
  obtain ⟨v, vs, d, ds', p, q, hargs, rfl, rfl, hd, hrest⟩ := trodAll_cons h
  obtain ⟨v', vs', d', ds'', p', q', rfl, rfl, rfl, hd', hrest'⟩ := trodAll_cons hrest
  obtain ⟨rfl, rfl, rfl⟩ := trodAll_nil hrest'
  exact ⟨v, v', d, d', p, p', by cases args; simp_all, rfl, hd, hd'⟩
theorem trodAll_three {t t' t'' : TypeId} {args : Array Value} {ds : List (DataW H)} {ps : List MemPlace} (h : DataW.TrodAll enc P W base spare held [t, t', t''] args.toList ds ps) :
    ∃ v v' v'' d d' d'' p p' p'', args = #[v, v', v''] ∧ ds = [d, d', d''] ∧ DataW.Trod enc P W base spare held t v d p ∧ DataW.Trod enc P W base spare held t' v' d' p' ∧ DataW.Trod enc P W base spare held t'' v'' d'' p'' := by
  obtain ⟨v, vs, d, ds', p, q, hargs, rfl, rfl, hd, hrest⟩ := trodAll_cons h
  obtain ⟨v', vs', d', ds'', p', q', rfl, rfl, rfl, hd', hrest'⟩ := trodAll_cons hrest
  obtain ⟨v'', vs'', d'', ds''', p'', q'', rfl, rfl, rfl, hd'', hrest''⟩ := trodAll_cons hrest'
  obtain ⟨rfl, rfl, rfl⟩ := trodAll_nil hrest''
  exact ⟨v, v', v'', d, d', d'', p, p', p'', by cases args; simp_all, rfl, hd, hd', hd''⟩
end
theorem u32_wf {n : Int} (h : (Lit.int .u32 n).wf = true) : ∃ m : Nat, n = (m : Int) ∧ m < 4294967296 := by
  have h2 : IntKind.u32.min ≤ n ∧ n ≤ IntKind.u32.max := by simpa [Lit.wf] using h
  have hm : IntKind.u32.min = 0 := by decide
  have hM : IntKind.u32.max = 4294967295 := by decide
  rw [hm, hM] at h2
  exact ⟨n.toNat, (Int.toNat_of_nonneg h2.1).symm, by omega⟩
theorem u64_wf {n : Int} (h : (Lit.int .u64 n).wf = true) : ∃ m : Nat, n = (m : Int) ∧ m < 18446744073709551616 := by
  have h2 : IntKind.u64.min ≤ n ∧ n ≤ IntKind.u64.max := by simpa [Lit.wf] using h
  have hm : IntKind.u64.min = 0 := by decide
  have hM : IntKind.u64.max = 18446744073709551615 := by decide
  rw [hm, hM] at h2
  exact ⟨n.toNat, (Int.toNat_of_nonneg h2.1).symm, by omega⟩
section
open Go.ChangeShapes
variable {H : Type} {enc : TypeId × Value → H} {W : World} {b base : Nat} {spare : Nat → Bool} {held : Bool}
/-- A slice of bytes that came in. -/
theorem open_bytes {v : Value} {d : DataW H} {ps : List MemPlace} (hv : Value.okWide Tryd.prog W .any b 74 v) (h : DataW.Trod enc Tryd.prog W base spare held 74 v d ps) (hw : ∀ n ∈ d.weights Tryd.prog 74, n ≤ reachBytes) :
    ∃ l, RB W v l ∧ l.length ≤ 140737488351232 := by
  obtain ⟨pa, n, cp, rfl⟩ := Go.WideShapes.okWide_slice by_tu hv
  obtain ⟨fuel, hf⟩ := h
  obtain ⟨l, hr, _, hlen⟩ := rb_of_trod hf hw
  exact ⟨l, hr, hlen⟩
end
end Go.Proofs.YtckbckdaffdjmaaDoor

/- A slice of words that came in. -/
namespace Go.Proofs.YtckbckdaffdjmaaDoor
open Go.RowKit Go.ChangeShapes
set_option maxRecDepth 100000
set_option linter.unusedVariables false
set_option linter.unusedSimpArgs false

theorem uy_u64 : Tryd.prog.underlying 58 = some (.int .u64) := by kernel_rfl
theorem uy_c1 : Tryd.prog.cellsOf 58 = 1 := by kernel_rfl
theorem uy_b8 : Tryd.prog.bytesOf 58 = 8 := by kernel_rfl
theorem uv_of_wf {n : Int} (h : (Lit.int .u64 n).wf = true) : ∃ b : UInt64, Value.int .u64 n = uv b := by
  obtain ⟨m, rfl, hm⟩ := u64_wf h
  exact ⟨UInt64.ofNat m, by show _ = Value.int .u64 ((UInt64.ofNat m).toNat : Int); rw [UInt64.toNat_ofNat', Nat.mod_eq_of_lt hm]⟩
section
variable {H : Type} {enc : TypeId × Value → H} {W : World} {base : Nat} {spare : Nat → Bool} {held : Bool}
/-- A slice of words that came in reads as a list. -/
theorem ru_of_trod {fuel : Nat} {v : Value} {x : DataW H × List MemPlace} (h : DataW.trod enc Tryd.prog W base spare held fuel 22 [v] = some x) (hw : ∀ n ∈ x.1.weights Tryd.prog 22, n ≤ reachBytes) :
    ∃ l, RU W v l ∧ l.length ≤ 17592186043904 := by
  rcases Go.Deep.open_slice1 uy_tu uy_c1 h with ⟨hcs, rfl⟩ | ⟨a, len, cap, m, n, V, D, Pl, hcs, hb, hl, hm, hmm, rfl, hx⟩
  · cases hcs
    exact ⟨[], RU.nil_ W, by simp⟩
  · simp only [List.cons.injEq, and_true] at hcs
    subst hcs
    have hlm : len ≤ m := by rw [hmm]; split <;> omega
    have hlen : len ≤ 17592186043904 := by
      have := hw ((len + (m - len)) * Tryd.prog.bytesOf 58) (by simp [DataW.weights, uy_tu])
      rw [uy_b8] at this
      simp only [reachBytes] at this
      omega
    have hB : ∀ i, i < len → ∃ b : UInt64, V i = uv b := fun i hi => by
      obtain ⟨_, ht⟩ := hx i (by omega)
      obtain ⟨k, e, _, hwf⟩ := DataW.trod_int uy_u64 ht
      simp only [List.cons.injEq, and_true] at e
      obtain ⟨b, hb⟩ := uv_of_wf hwf
      exact ⟨b, e.trans hb⟩
    obtain ⟨bs, hbs⟩ := Go.Deep.choose_lt (α := UInt64) (p := fun i b => V i = uv b) hB
    have hll : ((List.range len).map bs).length = len := by simp
    have hcellb : ∀ i b, ((List.range len).map bs)[i]? = some b → ∃ g o, some a = some (⟨g, o, none⟩ : Addr) ∧ g < W.heap.size ∧ W.cell? ⟨g, o + i, none⟩ = some (uv b) := fun i b hi => by
      have hil : i < len := by have := (List.getElem?_eq_some_iff.1 hi).1; simpa using this
      have hbi : bs i = b := by
        rw [List.getElem?_map, List.getElem?_range hil] at hi
        simpa using hi
      obtain ⟨hc, _⟩ := hx i (by omega)
      have hsp := World.cell?_spot (hx 0 (by omega)).1
      obtain ⟨g, off, spot⟩ := a
      have hspot : spot = none := by simpa [Addr.add] using hsp
      subst hspot
      rw [add_flat] at hc
      refine ⟨g, off, rfl, cell_lt hc, ?_⟩
      rw [hc, hbs i hil, hbi]
    exact ⟨(List.range len).map bs, ⟨some a, cap, by rw [hll], by rw [hll]; exact hl, hm, by rw [hll]; omega, hcellb⟩, by rw [hll]; exact hlen⟩
theorem open_words {b : Nat} {v : Value} {d : DataW H} {ps : List MemPlace} (hv : Value.okWide Tryd.prog W .any b 22 v) (h : DataW.Trod enc Tryd.prog W base spare held 22 v d ps) (hw : ∀ n ∈ d.weights Tryd.prog 22, n ≤ reachBytes) :
    ∃ l, RU W v l ∧ l.length ≤ 17592186043904 := by
  obtain ⟨pa, n, cp, rfl⟩ := Go.WideShapes.okWide_slice uy_tu hv
  obtain ⟨fuel, hf⟩ := h
  exact ru_of_trod hf hw
end
end Go.Proofs.YtckbckdaffdjmaaDoor

/- The arguments of chapter 3's laws; the door's own heap meets the condition. -/
namespace Go.Proofs.YtckbckdaffdjmaaDoor
open Go.RowKit Go.ChangeShapes
set_option maxRecDepth 100000
set_option linter.unusedVariables false
set_option linter.unusedSimpArgs false

theorem made_leaves : leaves Tryd.prog 10 24 = some [.bool, .int .i64, .other 22] := by kernel_rfl
section
variable {H : Type} {enc : TypeId × Value → H} {W : World} {b base : Nat} {spare : Nat → Bool} {held : Bool}
/-- A Made that came in. -/
theorem open_made {v : Value} {d : DataW H} {ps : List MemPlace} (hv : Value.okWide Tryd.prog W .any b 24 v) (h : DataW.Trod enc Tryd.prog W base spare held 24 v d ps) (hw : ∀ n ∈ d.weights Tryd.prog 24, n ≤ reachBytes) :
    ∃ (fr : Bool) (n : Int) (xv : Value) (V : List UInt64), v = .agg #[.bool fr, .int .i64 n, xv] ∧ (Lit.int .i64 n).wf = true ∧ RU W xv V ∧ V.length ≤ 17592186043904 := by
  obtain ⟨cs, rfl, hl⟩ := open_leavesW (R := reachBytes) made_leaves (by kernel_rfl) hv h hw
  obtain ⟨fr, _, rfl, hl1⟩ := hl.bool
  obtain ⟨n, _, rfl, hn, hl⟩ := hl1.int
  obtain ⟨vp, _, rfl, ⟨fuel, x, hx, hwx⟩, hl⟩ := hl.other
  obtain rfl := hl.unnil
  obtain ⟨l, hr, hlen⟩ := ru_of_trod hx hwx
  exact ⟨fr, n, vp, l, rfl, hn, hr, hlen⟩
end
theorem door_met (os : Os) (args : Array Value) : laidMetH Tryd.prog [("math/bits.deBruijn64tab", Rows.laid_math_bits_deBruijn64tab)] ((World.doorLaid Tryd.prog 400 os).forCall (fun _ _ => 0) ⟨#[], args, []⟩).memory :=
  laidMetH_of_parts3 (fuel := 8) (laidMet_of_run' 8 (by kernel_rfl) (by kernel_rfl)) (by kernel_rfl) (by kernel_rfl)
/-- The zero Made, as an argument. -/
abbrev zeroM : Value := .agg #[.bool false, .int .i64 0, .slice none 0 0]
end Go.Proofs.YtckbckdaffdjmaaDoor

/- The law's scripts: slices of Op. -/
namespace Go.Proofs.YtckbckdaffdjmaaDoor
open Go.RowKit
set_option maxRecDepth 100000
set_option linter.unusedVariables false
set_option linter.unusedSimpArgs false

/-- One call of a script. -/
structure OpV where
  kind : Int
  second : Bool
  a : Int
  b : Int
  words : List UInt64
  wv : Value
  bv : Value
  av : Value
  again : Bool
def opL (o : OpV) : List Value := [.int .i64 o.kind, .bool o.second, .int .i64 o.a, .int .i64 o.b, o.wv, o.bv, o.av, .bool o.again]
/-- One act: its kind and its two numbers. -/
structure AcV where
  kind : Int
  a : Int
  b : Int
def acL (x : AcV) : List Value := [.int .i64 x.kind, .int .i64 x.a, .int .i64 x.b]
structure OkAc (x : AcV) : Prop where
  kw : (Lit.int .i64 x.kind).wf = true
  aw : (Lit.int .i64 x.a).wf = true
  bw : (Lit.int .i64 x.b).wf = true
/-- A slice of acts. -/
def SlAc (w : World) (v : Value) (l : List AcV) : Prop :=
  ∃ q c, v = .slice q l.length c ∧ l.length ≤ 17592186043904 ∧ ∀ (i : Nat) (x : AcV), l[i]? = some x → ∃ g off, q = some ⟨g, off, none⟩ ∧ g < w.heap.size ∧ OkAc x ∧ w.rangeAt g (off + i * 3) (acL x)
theorem SlAc.below {w w' : World} {v : Value} {l : List AcV} (h : SlAc w v l) (hb : Below w.heap.size w w') : SlAc w' v l := by
  obtain ⟨q, c, e, hl, hr⟩ := h
  refine ⟨q, c, e, hl, fun i o ho => ?_⟩
  obtain ⟨g, off, h1, h2, h3, h4⟩ := hr i o ho
  exact ⟨g, off, h1, Nat.lt_of_lt_of_le h2 hb.size, h3, fun j u hu => ((bcell hb).1 g _ h2).trans (h4 j u hu)⟩
structure OkOp (w : World) (o : OpV) : Prop where
  kw : (Lit.int .i64 o.kind).wf = true
  aw : (Lit.int .i64 o.a).wf = true
  bw : (Lit.int .i64 o.b).wf = true
  words : RU w o.wv o.words
  len : o.words.length ≤ 17592186043904
  bone : o.bv.oneCell' = true
  aone : o.av.oneCell' = true
  before : ∃ l, SlAc w o.bv l
  acts : ∃ l, SlAc w o.av l
theorem OkOp.below {w w' : World} {o : OpV} (h : OkOp w o) (hb : Below w.heap.size w w') : OkOp w' o := ⟨h.kw, h.aw, h.bw, h.words.below hb, h.len, h.bone, h.aone, h.before.imp fun _ k => k.below hb, h.acts.imp fun _ k => k.below hb⟩
/-- A slice of calls. -/
def SlOp (w : World) (v : Value) (l : List OpV) : Prop :=
  ∃ q c, v = .slice q l.length c ∧ l.length ≤ 1256584717715 ∧ ∀ (i : Nat) (o : OpV), l[i]? = some o → ∃ g off, q = some ⟨g, off, none⟩ ∧ g < w.heap.size ∧ OkOp w o ∧ w.rangeAt g (off + i * 8) (opL o)
theorem SlOp.below {w w' : World} {v : Value} {l : List OpV} (h : SlOp w v l) (hb : Below w.heap.size w w') : SlOp w' v l := by
  obtain ⟨q, c, e, hl, hr⟩ := h
  refine ⟨q, c, e, hl, fun i o ho => ?_⟩
  obtain ⟨g, off, h1, h2, h3, h4⟩ := hr i o ho
  exact ⟨g, off, h1, Nat.lt_of_lt_of_le h2 hb.size, h3.below hb, fun j u hu => ((bcell hb).1 g _ h2).trans (h4 j u hu)⟩
theorem opt : Tryd.prog.underlying 39 = some (.struct (Tryd.prog.fieldsOf 39)) := by kernel_rfl
theorem opi : (Tryd.prog.info? 39).map (·.size) = some 8 := by kernel_rfl
theorem load_op {w : World} {g off : Nat} {o : OpV} (h : w.rangeAt g off (opL o)) : (Instr.loadAt 39 (.pointer (some ⟨g, off, none⟩))).run Tryd.prog w = .ok (.agg (opL o).toArray) w :=
  run_loadAt_mid w g off _ (opL o) _ h opt rfl (by rw [opi]; rfl)
theorem load_opA {w : World} {b : Nat} {o : OpV} (h : Rw w b 39 (opL o)) : (Instr.loadAt 39 (.pointer (some ⟨b, 0, none⟩))).run Tryd.prog w = .ok (.agg (opL o).toArray) w :=
  load_op fun j u hu => by rw [Nat.zero_add]; exact h.cell hu
theorem idx_op (w : World) (g o n c i : Nat) (hi : i < n) : (Instr.indexAt 49 (.slice (some ⟨g, o, none⟩) n c) (.int .i64 i)).run Tryd.prog w = .ok (.pointer (some ⟨g, o + i * 8, none⟩)) w := by
  have h1 : (i : Int) < (n : Int) := by omega
  have h0 : (0 : Int) ≤ (i : Int) := Int.natCast_nonneg i
  go_simp
def opZ : List Value := [.int .i64 0, .bool false, .int .i64 0, .int .i64 0, .slice none 0 0, .slice none 0 0, .slice none 0 0, .bool false]
theorem alloc_op {ρ : Operand → Value} {o : Oper} (ho : o.op = .alloc 39) (w : World) : (execOp ρ o).run Tryd.prog w = .ok (.value (.pointer (some ⟨w.heap.size, 0, none⟩))) (w.alloc (.cells opZ.toArray 39)) := by
  unfold execOp
  rw [ho]
  kernel_rfl
theorem exec_idx {P : Program} {ρ : Operand → Value} {o : Oper} {x y : Operand} {t : TypeId} {w : World} {v : Value} (ho : o.op = .indexAddr t x y) (h : (Instr.indexAt t (ρ x) (ρ y)).run P w = .ok v w) : (execOp ρ o).run P w = .ok (.value v) w := by
  unfold execOp
  rw [ho]
  simp [h]
theorem opL_one {w : World} {o : OpV} (h : OkOp w o) : ∀ u ∈ opL o, u.oneCell' = true := by
  obtain ⟨p, c, e⟩ := h.words.form
  intro u hu
  simp only [opL, List.mem_cons, List.not_mem_nil, or_false] at hu
  rcases hu with rfl | rfl | rfl | rfl | rfl | rfl | rfl | rfl
  all_goals first | rfl | exact h.bone | exact h.aone | (rw [e]; rfl)
/-- The call's own copy. -/
theorem op_copy {w : World} {o : OpV} (h : OkOp w o) : ∃ w', w' = (w.alloc (.cells opZ.toArray 39)).setCells w.heap.size 0 (opL o) ∧ Rw w' w.heap.size 39 (opL o) ∧ Below w.heap.size w w' := by
  refine ⟨_, rfl, setCells_heap (opL o) 0 _ opZ (heap_new _ _ _ rfl), ?_⟩
  exact (below_alloc1 w _).grown (setCells_grown _ w.heap.size 0 _) (by simp) (fun k hk => by injection hk with hk; omega)
end Go.Proofs.YtckbckdaffdjmaaDoor

/- One call of the script: step. -/
namespace Go.Proofs.YtckbckdaffdjmaaDoor
open Go.RowKit
set_option maxRecDepth 100000
set_option linter.unusedVariables false
set_option linter.unusedSimpArgs false

section
variable {w : World} {P p bw ba r bb b n N : Nat} {W : List UInt64} {own : Nat → Prop} {late : Bool}
theorem AskP.chg {e : Ending} {w' : World} (h : PrB w P p bw ba r bb b n W own late N) (ha : AskP w b own late N e w') : ChgP w P p bw ba r bb b n N own late e w' := by
  obtain ⟨he, own', h1, h2, h3⟩ := ha
  exact ⟨he, own', W, ⟨h.pr.mod h3 fun k hk => h.no k hk, h1, fun k hk e => h.no k hk ((h2 k (h.pr.lt k hk)).1 e)⟩, h2, h3.mono fun _ _ e => .inl e⟩
theorem ChgP.from_ {e : Ending} {w0 w' : World} (hb : Below w.heap.size w w0) (h : ChgP w0 P p bw ba r bb b n N own late e w') : ChgP w P p bw ba r bb b n N own late e w' := by
  obtain ⟨he, own', W', h1, h2, h3⟩ := h
  exact ⟨he, own', W', h1, fun k hk => h2 k (Nat.lt_of_lt_of_le hk hb.size), (Mod.of_below hb).trans h3⟩
set_option maxHeartbeats 8000000 in
theorem ask_none (h : PrB w P p bw ba r bb b n W own late N) (s2 wv bf ac ag A B : Value) {k : Int} (hk : k < 6 ∨ 13 < k) :
    Calls Tryd.prog 18 #[.pointer (some ⟨P, 0, none⟩), .agg #[.int .i64 k, s2, A, B, wv, bf, ac, ag]] w (AskP w b own late N) := by
  obtain ⟨w0, D, hw0, hD, hrd, hb0⟩ := boxedOp w [.int .i64 k, s2, A, B, wv, bf, ac, ag]
  have HH := Lib.hid h
  have HB0 := Lib.hid hb0
  have cd0 := hrd.cell (i := 0) rfl
  have k6 : k ≠ 6 := by omega
  have k7 : k ≠ 7 := by omega
  have k8 : k ≠ 8 := by omega
  have k9 : k ≠ 9 := by omega
  have k10 : k ≠ 10 := by omega
  have k11 : k ≠ 11 := by omega
  have k12 : k ≠ 12 := by omega
  have k13 : k ≠ 13 := by omega
  clear hk
  go_enter Tryd.func18, Tryd.ntmps18
  go_upto_region 1 with fail
  rw [← hw0, ← hD]
  clear h hrd hw0 hD hb0
  go_wp2_with fail
  go_ret
  exact AskP.pure HH.out.bk HB0.out
theorem change_any (hK : KeepC late) (hN : N + 2 ≤ 5864062014805) (h : PrB w P p bw ba r bb b n W own late N) {o : OpV} (ho : OkOp w o) (hne : o.words ≠ [] → ∀ g, o.wv.ownBlock = some g → ¬ Pr.At P p bw ba r bb g) :
    Calls Tryd.prog 81 #[.pointer (some ⟨P, 0, none⟩), .agg (opL o).toArray] w (ChgP w P p bw ba r bb b n N own late) := by
  obtain ⟨k, s, a, c, V, wv, bv, av, g⟩ := o
  obtain ⟨h1, h2, h3, h4, h5, h6, h7⟩ := ho
  simp only [opL] at *
  by_cases e1 : k = 1
  · subst e1; exact chg_set h _ _ _ _ _ h2 h3
  by_cases e2 : k = 2
  · subst e2; exact chg_clear h _ _ _ _ _ h2 h3
  by_cases e3 : k = 3
  · subst e3; exact chg_setrange h _ _ _ _ _ h2 h3
  by_cases e4 : k = 4
  · subst e4; exact chg_clearrange h _ _ _ _ _ h2 h3
  by_cases e5 : k = 5
  · subst e5; exact chg_merge hK hN h _ _ _ _ _ _ h4 h5 hne
  exact chg_none h _ _ _ _ _ _ _ e1 e2 e3 e4 e5
theorem ask_any (hK : KeepC late) (hN : N + 2 ≤ 5864062014805) (h : PrB w P p bw ba r bb b n W own late N) (hT : Tz w) {o : OpV} (ho : OkOp w o) :
    Calls Tryd.prog 18 #[.pointer (some ⟨P, 0, none⟩), .agg (opL o).toArray] w (AskP w b own late N) := by
  obtain ⟨k, s, a, c, V, wv, bv, av, g⟩ := o
  obtain ⟨h1, h2, h3, h4, h5, h6, h7⟩ := ho
  simp only [opL] at *
  by_cases e : k < 6 ∨ 13 < k
  · exact ask_none h _ _ _ _ _ _ _ e
  by_cases e6 : k = 6
  · subst e6; exact ask_test h _ _ _ _ _ h2 h3
  by_cases e7 : k = 7
  · subst e7; exact ask_count h _ _ _ _ _ _ _
  by_cases e8 : k = 8
  · subst e8; exact ask_countrange h _ _ _ _ _ h2 h3
  by_cases e9 : k = 9
  · subst e9; exact ask_next h hT _ _ _ _ _ h2 h3
  by_cases e10 : k = 10
  · subst e10; exact ask_nextclear h hT _ _ _ _ _ h2 h3
  by_cases e11 : k = 11
  · subst e11; exact ask_len h _ _ _ _ _ _ _
  by_cases e12 : k = 12
  · subst e12; exact ask_words hK hN h _ _ _ _ _ _ _
  have e13 : k = 13 := by omega
  subst e13; exact ask_summary hK hN h _ _ _ _ _ _ _
set_option maxHeartbeats 8000000 in
theorem step_calls (hK : KeepC late) (hN : N + 2 ≤ 5864062014805) (h : PrB w P p bw ba r bb b n W own late N) (hT : Tz w) {o : OpV} (ho : OkOp w o) (hne : o.words ≠ [] → ∀ g, o.wv.ownBlock = some g → ¬ Pr.At P p bw ba r bb g) :
    Calls Tryd.prog 42 #[.pointer (some ⟨P, 0, none⟩), .agg (opL o).toArray] w (ChgP w P p bw ba r bb b n N own late) := by
  obtain ⟨w0, D, hw0, hD, hrd, hb0⟩ := boxedOp w (opL o)
  have HH := Lib.hid (h.below hb0)
  have HB0 := Lib.hid hb0
  have hc := change_any hK hN (h.below hb0) (ho.below hb0) hne
  have ha := (ask_any hK hN (h.below hb0) (hT.below hb0) (ho.below hb0))
  have HC := Lib.hid hc
  have HA := Lib.hid ha
  have c0 := hrd.cell (i := 0) rfl
  have c1 := hrd.cell (i := 1) rfl
  have c2 := hrd.cell (i := 2) rfl
  have c3 := hrd.cell (i := 3) rfl
  have c4 := hrd.cell (i := 4) rfl
  have c5 := hrd.cell (i := 5) rfl
  have c6 := hrd.cell (i := 6) rfl
  have c7 := hrd.cell (i := 7) rfl
  rw [show (opL o).toArray = #[.int .i64 o.kind, .bool o.second, .int .i64 o.a, .int .i64 o.b, o.wv, o.bv, o.av, .bool o.again] from rfl] at hw0 ⊢
  go_enter Tryd.func42, Tryd.ntmps42
  go_upto_region 1 with fail
  rw [← hw0, ← hD]
  clear h hrd hw0 hD hb0 hc ha hK hN hT ho hne
  cases hk : decide (o.kind ≤ 5)
  · have hk' : ¬ o.kind ≤ 5 := by simpa using hk
    clear hk
    go_wp2_with (first
      | (go_at_call 18
         refine HA.out.mono ?_
         rintro e w1 h1
         have he := h1.1
         subst he
         have H1 := Lib.hid h1
         clear h1)
      | fail)
    go_ret
    exact (AskP.chg HH.out H1.out).from_ HB0.out
  · have hk' : o.kind ≤ 5 := by simpa using hk
    clear hk
    go_wp2_with (first
      | (go_at_call 81
         refine HC.out.mono ?_
         rintro e w1 h1
         have he := h1.1
         subst he
         have H1 := Lib.hid h1
         clear h1)
      | fail)
    go_ret
    exact H1.out.from_ HB0.out
end
end Go.Proofs.YtckbckdaffdjmaaDoor
