/- Walks and plain laws of the packets and frames, joined from: AskC, ChgA, ChgB, ChgC, ItAl, ItRn, KpA, KpB. -/
import Derived.Test.YtckbckdaffdjmaaDoorMk4
import Derived.Sort.CutIn
/- ask: the walks of Test, CountRange, Next, NextClear, and of any other kind. -/
namespace Go.Proofs.YtckbckdaffdjmaaDoor
open Go.RowKit
set_option maxRecDepth 100000
set_option linter.unusedVariables false
set_option linter.unusedSimpArgs false

set_option maxHeartbeats 8000000 in
theorem ask_test {w : World} {P p bw ba r bb b n N : Nat} {W : List UInt64} {own : Nat → Prop} {late : Bool} (h : PrB w P p bw ba r bb b n W own late N) (s2 wv bf ac ag : Value) {A B : Int} (hA : (Lit.int .i64 A).wf = true) (hB : (Lit.int .i64 B).wf = true) :
    Calls Tryd.prog 18 #[.pointer (some ⟨P, 0, none⟩), .agg #[.int .i64 6, s2, .int .i64 A, .int .i64 B, wv, bf, ac, ag]] w (AskP w b own late N) := by
  obtain ⟨w0, D, hw0, hD, hrd, hb0⟩ := boxedOp w [.int .i64 6, s2, .int .i64 A, .int .i64 B, wv, bf, ac, ag]
  have HH := Lib.hid h
  have h0 := h.below hb0
  have HB0 := Lib.hid hb0
  have cd0 := hrd.cell (i := 0) rfl
  have cd2 := hrd.cell (i := 2) rfl
  have cd3 := hrd.cell (i := 3) rfl
  have ld := heap_lt hrd
  have cp0 := h0.pr.hP.cell (i := 0) rfl
  have cp1 := h0.pr.hP.cell (i := 1) rfl
  have lp := heap_lt h0.pr.hP
  have HM := Lib.hid h0.pr.hm
  have HR := Lib.hid h0.pr.hr
  have HAW := Lib.hid hA
  have HBW := Lib.hid hB
  skip
  go_enter Tryd.func18, Tryd.ntmps18
  go_upto_region 1 with fail
  rw [← hw0, ← hD]
  clear h hrd hw0 hD h0 hA hB hb0
  go_upto_region 3 with fail
  refine wp_region_R (Below w0.heap.size w0) (by kernel_rfl) (by kernel_rfl) (by first | exact Below.refl _ _ | exact below_alloc1 _ _ | exact below_alloc2 _ _ _ | exact below_alloc3 _ _ _ _ | (repeat' (first | assumption | exact Below.refl _ _ | exact below_alloc1 _ _ | exact below_alloc2 _ _ _ | exact below_alloc3 _ _ _ _ | (refine Below.drew ?_) | (refine below_wb ?_ ?_) | (refine Below.alloc ?_ ?_ _) | omega | (simp; done) | (simp; omega)))) ?_
  (repeat (first | (apply wpR_pass rfl; (try simp only [Act.put, List.setIfInBounds_toArray, List.set_cons_succ, List.set_cons_zero])) | (apply wpR_val rfl; (focus (intro w1 hR; obtain ⟨hc, hf⟩ := bcellB hR; (try go_simp); (try exact Eq.refl _); done)); (try simp only [Act.put, List.setIfInBounds_toArray, List.set_cons_succ, List.set_cons_zero])) | (apply wpR_call rfl; (focus (intro w1 hR; obtain ⟨hc, hf⟩ := bcellB hR; (try go_simp); (try exact And.intro rfl rfl); done)); (focus (intro w1 hR; first | exact (test_any (HM.out.below hR) A).at_ (by first | omega | (simp; done) | (simp; omega)) hR)); (try simp only [Act.put, List.setIfInBounds_toArray, List.set_cons_succ, List.set_cons_zero])) | (apply wpR_val_want rfl; (focus (intro w1 hR; obtain ⟨hc, hf⟩ := bcellB hR; (try go_simp); (try exact Eq.refl _); done)); (try simp only [Act.put, List.setIfInBounds_toArray, List.set_cons_succ, List.set_cons_zero])) | (apply wpR_call_want rfl; (focus (intro w1 hR; obtain ⟨hc, hf⟩ := bcellB hR; (try go_simp); (try exact And.intro rfl rfl); done)); (focus (intro w1 hR; first | exact (test_any (HM.out.below hR) A).at_ (by first | omega | (simp; done) | (simp; omega)) hR)); (try simp only [Act.put, List.setIfInBounds_toArray, List.set_cons_succ, List.set_cons_zero]))))
  refine wpR_nil (fun w1 hb1 => ?_)
  have HB1 := Lib.hid hb1
  have e2 := ((bcell hb1).1 _ 2 ld).trans cd2
  have e3 := ((bcell hb1).1 _ 3 ld).trans cd3
  have q0 := ((bcell hb1).1 _ 0 lp).trans cp0
  have q1 := ((bcell hb1).1 _ 1 lp).trans cp1
  have ld1 := Nat.lt_of_lt_of_le ld hb1.size
  have lp1 := Nat.lt_of_lt_of_le lp hb1.size
  have HR1 := Lib.hid (HR.out.below hb1)
  clear hb1 cd0 cd2 cd3 cp0 cp1 ld lp
  go_upto_region 4 with fail
  refine wp_region_R (Below w1.heap.size w1) (by kernel_rfl) (by kernel_rfl) (by first | exact Below.refl _ _ | exact below_alloc1 _ _ | exact below_alloc2 _ _ _ | exact below_alloc3 _ _ _ _ | (repeat' (first | assumption | exact Below.refl _ _ | exact below_alloc1 _ _ | exact below_alloc2 _ _ _ | exact below_alloc3 _ _ _ _ | (refine Below.drew ?_) | (refine below_wb ?_ ?_) | (refine Below.alloc ?_ ?_ _) | omega | (simp; done) | (simp; omega)))) ?_
  (repeat (first | (apply wpR_pass rfl; (try simp only [Act.put, List.setIfInBounds_toArray, List.set_cons_succ, List.set_cons_zero])) | (apply wpR_val rfl; (focus (intro w1 hR; obtain ⟨hc, hf⟩ := bcellB hR; (try go_simp); (try exact Eq.refl _); done)); (try simp only [Act.put, List.setIfInBounds_toArray, List.set_cons_succ, List.set_cons_zero])) | (apply wpR_call rfl; (focus (intro w1 hR; obtain ⟨hc, hf⟩ := bcellB hR; (try go_simp); (try exact And.intro rfl rfl); done)); (focus (intro w1 hR; first | exact (rtest_any (HR1.out.below hR) A).at_ (by first | omega | (simp; done) | (simp; omega)) hR)); (try simp only [Act.put, List.setIfInBounds_toArray, List.set_cons_succ, List.set_cons_zero])) | (apply wpR_val_want rfl; (focus (intro w1 hR; obtain ⟨hc, hf⟩ := bcellB hR; (try go_simp); (try exact Eq.refl _); done)); (try simp only [Act.put, List.setIfInBounds_toArray, List.set_cons_succ, List.set_cons_zero])) | (apply wpR_call_want rfl; (focus (intro w1 hR; obtain ⟨hc, hf⟩ := bcellB hR; (try go_simp); (try exact And.intro rfl rfl); done)); (focus (intro w1 hR; first | exact (rtest_any (HR1.out.below hR) A).at_ (by first | omega | (simp; done) | (simp; omega)) hR)); (try simp only [Act.put, List.setIfInBounds_toArray, List.set_cons_succ, List.set_cons_zero]))))
  refine wpR_nil (fun w2 hb2 => ?_)
  go_wp2_with fail
  go_ret
  exact AskP.pure HH.out.bk (HB0.out.trans ((HB1.out.trans (hb2.mono HB1.out.size)).mono HB0.out.size))
set_option maxHeartbeats 8000000 in
theorem ask_countrange {w : World} {P p bw ba r bb b n N : Nat} {W : List UInt64} {own : Nat → Prop} {late : Bool} (h : PrB w P p bw ba r bb b n W own late N) (s2 wv bf ac ag : Value) {A B : Int} (hA : (Lit.int .i64 A).wf = true) (hB : (Lit.int .i64 B).wf = true) :
    Calls Tryd.prog 18 #[.pointer (some ⟨P, 0, none⟩), .agg #[.int .i64 8, s2, .int .i64 A, .int .i64 B, wv, bf, ac, ag]] w (AskP w b own late N) := by
  obtain ⟨w0, D, hw0, hD, hrd, hb0⟩ := boxedOp w [.int .i64 8, s2, .int .i64 A, .int .i64 B, wv, bf, ac, ag]
  have HH := Lib.hid h
  have h0 := h.below hb0
  have HB0 := Lib.hid hb0
  have cd0 := hrd.cell (i := 0) rfl
  have cd2 := hrd.cell (i := 2) rfl
  have cd3 := hrd.cell (i := 3) rfl
  have ld := heap_lt hrd
  have cp0 := h0.pr.hP.cell (i := 0) rfl
  have cp1 := h0.pr.hP.cell (i := 1) rfl
  have lp := heap_lt h0.pr.hP
  have HM := Lib.hid h0.pr.hm
  have HR := Lib.hid h0.pr.hr
  have HAW := Lib.hid hA
  have HBW := Lib.hid hB
  skip
  go_enter Tryd.func18, Tryd.ntmps18
  go_upto_region 1 with fail
  rw [← hw0, ← hD]
  clear h hrd hw0 hD h0 hA hB hb0
  go_upto_region 9 with fail
  refine wp_region_R (Below w0.heap.size w0) (by kernel_rfl) (by kernel_rfl) (by first | exact Below.refl _ _ | exact below_alloc1 _ _ | exact below_alloc2 _ _ _ | exact below_alloc3 _ _ _ _ | (repeat' (first | assumption | exact Below.refl _ _ | exact below_alloc1 _ _ | exact below_alloc2 _ _ _ | exact below_alloc3 _ _ _ _ | (refine Below.drew ?_) | (refine below_wb ?_ ?_) | (refine Below.alloc ?_ ?_ _) | omega | (simp; done) | (simp; omega)))) ?_
  (repeat (first | (apply wpR_pass rfl; (try simp only [Act.put, List.setIfInBounds_toArray, List.set_cons_succ, List.set_cons_zero])) | (apply wpR_val rfl; (focus (intro w1 hR; obtain ⟨hc, hf⟩ := bcellB hR; (try go_simp); (try exact Eq.refl _); done)); (try simp only [Act.put, List.setIfInBounds_toArray, List.set_cons_succ, List.set_cons_zero])) | (apply wpR_call rfl; (focus (intro w1 hR; obtain ⟨hc, hf⟩ := bcellB hR; (try go_simp); (try exact And.intro rfl rfl); done)); (focus (intro w1 hR; first | exact (countrange_any (HM.out.below hR) HAW.out HBW.out).at_ (by first | omega | (simp; done) | (simp; omega)) hR)); (try simp only [Act.put, List.setIfInBounds_toArray, List.set_cons_succ, List.set_cons_zero])) | (apply wpR_val_want rfl; (focus (intro w1 hR; obtain ⟨hc, hf⟩ := bcellB hR; (try go_simp); (try exact Eq.refl _); done)); (try simp only [Act.put, List.setIfInBounds_toArray, List.set_cons_succ, List.set_cons_zero])) | (apply wpR_call_want rfl; (focus (intro w1 hR; obtain ⟨hc, hf⟩ := bcellB hR; (try go_simp); (try exact And.intro rfl rfl); done)); (focus (intro w1 hR; first | exact (countrange_any (HM.out.below hR) HAW.out HBW.out).at_ (by first | omega | (simp; done) | (simp; omega)) hR)); (try simp only [Act.put, List.setIfInBounds_toArray, List.set_cons_succ, List.set_cons_zero]))))
  refine wpR_nil (fun w1 hb1 => ?_)
  have HB1 := Lib.hid hb1
  have e2 := ((bcell hb1).1 _ 2 ld).trans cd2
  have e3 := ((bcell hb1).1 _ 3 ld).trans cd3
  have q0 := ((bcell hb1).1 _ 0 lp).trans cp0
  have q1 := ((bcell hb1).1 _ 1 lp).trans cp1
  have ld1 := Nat.lt_of_lt_of_le ld hb1.size
  have lp1 := Nat.lt_of_lt_of_le lp hb1.size
  have HR1 := Lib.hid (HR.out.below hb1)
  clear hb1 cd0 cd2 cd3 cp0 cp1 ld lp
  go_upto_region 10 with fail
  refine wp_region_R (Below w1.heap.size w1) (by kernel_rfl) (by kernel_rfl) (by first | exact Below.refl _ _ | exact below_alloc1 _ _ | exact below_alloc2 _ _ _ | exact below_alloc3 _ _ _ _ | (repeat' (first | assumption | exact Below.refl _ _ | exact below_alloc1 _ _ | exact below_alloc2 _ _ _ | exact below_alloc3 _ _ _ _ | (refine Below.drew ?_) | (refine below_wb ?_ ?_) | (refine Below.alloc ?_ ?_ _) | omega | (simp; done) | (simp; omega)))) ?_
  (repeat (first | (apply wpR_pass rfl; (try simp only [Act.put, List.setIfInBounds_toArray, List.set_cons_succ, List.set_cons_zero])) | (apply wpR_val rfl; (focus (intro w1 hR; obtain ⟨hc, hf⟩ := bcellB hR; (try go_simp); (try exact Eq.refl _); done)); (try simp only [Act.put, List.setIfInBounds_toArray, List.set_cons_succ, List.set_cons_zero])) | (apply wpR_call rfl; (focus (intro w1 hR; obtain ⟨hc, hf⟩ := bcellB hR; (try go_simp); (try exact And.intro rfl rfl); done)); (focus (intro w1 hR; first | exact (rcountrange_any (HR1.out.below hR) HAW.out HBW.out).at_ (by first | omega | (simp; done) | (simp; omega)) hR)); (try simp only [Act.put, List.setIfInBounds_toArray, List.set_cons_succ, List.set_cons_zero])) | (apply wpR_val_want rfl; (focus (intro w1 hR; obtain ⟨hc, hf⟩ := bcellB hR; (try go_simp); (try exact Eq.refl _); done)); (try simp only [Act.put, List.setIfInBounds_toArray, List.set_cons_succ, List.set_cons_zero])) | (apply wpR_call_want rfl; (focus (intro w1 hR; obtain ⟨hc, hf⟩ := bcellB hR; (try go_simp); (try exact And.intro rfl rfl); done)); (focus (intro w1 hR; first | exact (rcountrange_any (HR1.out.below hR) HAW.out HBW.out).at_ (by first | omega | (simp; done) | (simp; omega)) hR)); (try simp only [Act.put, List.setIfInBounds_toArray, List.set_cons_succ, List.set_cons_zero]))))
  refine wpR_nil (fun w2 hb2 => ?_)
  go_wp2_with fail
  go_ret
  exact AskP.pure HH.out.bk (HB0.out.trans ((HB1.out.trans (hb2.mono HB1.out.size)).mono HB0.out.size))
set_option maxHeartbeats 8000000 in
theorem ask_next {w : World} {P p bw ba r bb b n N : Nat} {W : List UInt64} {own : Nat → Prop} {late : Bool} (h : PrB w P p bw ba r bb b n W own late N) (hT : Tz w) (s2 wv bf ac ag : Value) {A B : Int} (hA : (Lit.int .i64 A).wf = true) (hB : (Lit.int .i64 B).wf = true) :
    Calls Tryd.prog 18 #[.pointer (some ⟨P, 0, none⟩), .agg #[.int .i64 9, s2, .int .i64 A, .int .i64 B, wv, bf, ac, ag]] w (AskP w b own late N) := by
  obtain ⟨w0, D, hw0, hD, hrd, hb0⟩ := boxedOp w [.int .i64 9, s2, .int .i64 A, .int .i64 B, wv, bf, ac, ag]
  have HH := Lib.hid h
  have h0 := h.below hb0
  have HB0 := Lib.hid hb0
  have cd0 := hrd.cell (i := 0) rfl
  have cd2 := hrd.cell (i := 2) rfl
  have cd3 := hrd.cell (i := 3) rfl
  have ld := heap_lt hrd
  have cp0 := h0.pr.hP.cell (i := 0) rfl
  have cp1 := h0.pr.hP.cell (i := 1) rfl
  have lp := heap_lt h0.pr.hP
  have HM := Lib.hid h0.pr.hm
  have HR := Lib.hid h0.pr.hr
  have HAW := Lib.hid hA
  have HBW := Lib.hid hB
  have HT := Lib.hid (hT.below hb0); clear hT
  go_enter Tryd.func18, Tryd.ntmps18
  go_upto_region 1 with fail
  rw [← hw0, ← hD]
  clear h hrd hw0 hD h0 hA hB hb0
  go_upto_region 13 with fail
  refine wp_region_R (Below w0.heap.size w0) (by kernel_rfl) (by kernel_rfl) (by first | exact Below.refl _ _ | exact below_alloc1 _ _ | exact below_alloc2 _ _ _ | exact below_alloc3 _ _ _ _ | (repeat' (first | assumption | exact Below.refl _ _ | exact below_alloc1 _ _ | exact below_alloc2 _ _ _ | exact below_alloc3 _ _ _ _ | (refine Below.drew ?_) | (refine below_wb ?_ ?_) | (refine Below.alloc ?_ ?_ _) | omega | (simp; done) | (simp; omega)))) ?_
  (repeat (first | (apply wpR_pass rfl; (try simp only [Act.put, List.setIfInBounds_toArray, List.set_cons_succ, List.set_cons_zero])) | (apply wpR_val rfl; (focus (intro w1 hR; obtain ⟨hc, hf⟩ := bcellB hR; (try go_simp); (try exact Eq.refl _); done)); (try simp only [Act.put, List.setIfInBounds_toArray, List.set_cons_succ, List.set_cons_zero])) | (apply wpR_call rfl; (focus (intro w1 hR; obtain ⟨hc, hf⟩ := bcellB hR; (try go_simp); (try exact And.intro rfl rfl); done)); (focus (intro w1 hR; first | exact (next_calls (HM.out.below hR) (HT.out.below hR) HAW.out).at_ (by first | omega | (simp; done) | (simp; omega)) hR | exact (rfind_true (HR.out.below hR) HAW.out).at_ (by first | omega | (simp; done) | (simp; omega)) hR)); (try simp only [Act.put, List.setIfInBounds_toArray, List.set_cons_succ, List.set_cons_zero])) | (apply wpR_val_want rfl; (focus (intro w1 hR; obtain ⟨hc, hf⟩ := bcellB hR; (try go_simp); (try exact Eq.refl _); done)); (try simp only [Act.put, List.setIfInBounds_toArray, List.set_cons_succ, List.set_cons_zero])) | (apply wpR_call_want rfl; (focus (intro w1 hR; obtain ⟨hc, hf⟩ := bcellB hR; (try go_simp); (try exact And.intro rfl rfl); done)); (focus (intro w1 hR; first | exact (next_calls (HM.out.below hR) (HT.out.below hR) HAW.out).at_ (by first | omega | (simp; done) | (simp; omega)) hR | exact (rfind_true (HR.out.below hR) HAW.out).at_ (by first | omega | (simp; done) | (simp; omega)) hR)); (try simp only [Act.put, List.setIfInBounds_toArray, List.set_cons_succ, List.set_cons_zero]))))
  refine wpR_nil (fun w1 hb1 => ?_)
  go_wp2_with fail
  go_ret
  exact AskP.pure HH.out.bk (HB0.out.trans (hb1.mono HB0.out.size))
set_option maxHeartbeats 8000000 in
theorem ask_nextclear {w : World} {P p bw ba r bb b n N : Nat} {W : List UInt64} {own : Nat → Prop} {late : Bool} (h : PrB w P p bw ba r bb b n W own late N) (hT : Tz w) (s2 wv bf ac ag : Value) {A B : Int} (hA : (Lit.int .i64 A).wf = true) (hB : (Lit.int .i64 B).wf = true) :
    Calls Tryd.prog 18 #[.pointer (some ⟨P, 0, none⟩), .agg #[.int .i64 10, s2, .int .i64 A, .int .i64 B, wv, bf, ac, ag]] w (AskP w b own late N) := by
  obtain ⟨w0, D, hw0, hD, hrd, hb0⟩ := boxedOp w [.int .i64 10, s2, .int .i64 A, .int .i64 B, wv, bf, ac, ag]
  have HH := Lib.hid h
  have h0 := h.below hb0
  have HB0 := Lib.hid hb0
  have cd0 := hrd.cell (i := 0) rfl
  have cd2 := hrd.cell (i := 2) rfl
  have cd3 := hrd.cell (i := 3) rfl
  have ld := heap_lt hrd
  have cp0 := h0.pr.hP.cell (i := 0) rfl
  have cp1 := h0.pr.hP.cell (i := 1) rfl
  have lp := heap_lt h0.pr.hP
  have HM := Lib.hid h0.pr.hm
  have HR := Lib.hid h0.pr.hr
  have HAW := Lib.hid hA
  have HBW := Lib.hid hB
  have HT := Lib.hid (hT.below hb0); clear hT
  go_enter Tryd.func18, Tryd.ntmps18
  go_upto_region 1 with fail
  rw [← hw0, ← hD]
  clear h hrd hw0 hD h0 hA hB hb0
  go_upto_region 15 with fail
  refine wp_region_R (Below w0.heap.size w0) (by kernel_rfl) (by kernel_rfl) (by first | exact Below.refl _ _ | exact below_alloc1 _ _ | exact below_alloc2 _ _ _ | exact below_alloc3 _ _ _ _ | (repeat' (first | assumption | exact Below.refl _ _ | exact below_alloc1 _ _ | exact below_alloc2 _ _ _ | exact below_alloc3 _ _ _ _ | (refine Below.drew ?_) | (refine below_wb ?_ ?_) | (refine Below.alloc ?_ ?_ _) | omega | (simp; done) | (simp; omega)))) ?_
  (repeat (first | (apply wpR_pass rfl; (try simp only [Act.put, List.setIfInBounds_toArray, List.set_cons_succ, List.set_cons_zero])) | (apply wpR_val rfl; (focus (intro w1 hR; obtain ⟨hc, hf⟩ := bcellB hR; (try go_simp); (try exact Eq.refl _); done)); (try simp only [Act.put, List.setIfInBounds_toArray, List.set_cons_succ, List.set_cons_zero])) | (apply wpR_call rfl; (focus (intro w1 hR; obtain ⟨hc, hf⟩ := bcellB hR; (try go_simp); (try exact And.intro rfl rfl); done)); (focus (intro w1 hR; first | exact (nextclear_calls (HM.out.below hR) (HT.out.below hR) HAW.out).at_ (by first | omega | (simp; done) | (simp; omega)) hR | exact (rfind_false (HR.out.below hR) HAW.out).at_ (by first | omega | (simp; done) | (simp; omega)) hR)); (try simp only [Act.put, List.setIfInBounds_toArray, List.set_cons_succ, List.set_cons_zero])) | (apply wpR_val_want rfl; (focus (intro w1 hR; obtain ⟨hc, hf⟩ := bcellB hR; (try go_simp); (try exact Eq.refl _); done)); (try simp only [Act.put, List.setIfInBounds_toArray, List.set_cons_succ, List.set_cons_zero])) | (apply wpR_call_want rfl; (focus (intro w1 hR; obtain ⟨hc, hf⟩ := bcellB hR; (try go_simp); (try exact And.intro rfl rfl); done)); (focus (intro w1 hR; first | exact (nextclear_calls (HM.out.below hR) (HT.out.below hR) HAW.out).at_ (by first | omega | (simp; done) | (simp; omega)) hR | exact (rfind_false (HR.out.below hR) HAW.out).at_ (by first | omega | (simp; done) | (simp; omega)) hR)); (try simp only [Act.put, List.setIfInBounds_toArray, List.set_cons_succ, List.set_cons_zero]))))
  refine wpR_nil (fun w1 hb1 => ?_)
  go_wp2_with fail
  go_ret
  exact AskP.pure HH.out.bk (HB0.out.trans (hb1.mono HB0.out.size))
end Go.Proofs.YtckbckdaffdjmaaDoor

/- What changes a pair, whatever its arguments. -/
namespace Go.Proofs.YtckbckdaffdjmaaDoor
open Go.RowKit
set_option maxRecDepth 100000
set_option linter.unusedVariables false
set_option linter.unusedSimpArgs false

namespace Bm
def setI (n : Nat) (W : List UInt64) (i : Int) (to : Bool) : List UInt64 := if i < 0 ∨ (n : Int) ≤ i then W else setW n W i.toNat (i.toNat + 1) to
def setB (n : Nat) (W : List UInt64) (i : Int) (to : Bool) : Bool := if i < 0 ∨ (n : Int) ≤ i then false else (bit W i.toNat != to)
def setR (n : Nat) (W : List UInt64) (f c : Int) (to : Bool) : List UInt64 := if rangeE n f c = 0 then setW n W f.toNat (f.toNat + c.toNat) to else W
def setV (n : Nat) (W : List UInt64) (f c : Int) (to : Bool) : Nat := if rangeE n f c = 0 then cnt (fun i => bit W i != to) f.toNat c.toNat else 0
def merW (n : Nat) (W V : List UInt64) : List UInt64 := if validE n V = 0 then mer W V else W
def merV (n : Nat) (W V : List UInt64) : Nat := if validE n V = 0 then cnt (fun i => bit V i && !bit W i) 0 n else 0
theorem cnt_ne (g : Nat → Bool) (f c : Nat) : cnt (fun i => g i != true) f c = c - cnt g f c := by
  have := cnt_not g f c
  have h : cnt (fun i => g i != true) f c = cnt (fun i => !g i) f c := cnt_congr c fun t _ => by cases g (f + t) <;> rfl
  omega
theorem cnt_nf (g : Nat → Bool) (f c : Nat) : cnt (fun i => g i != false) f c = cnt g f c := cnt_congr c fun t _ => by cases g (f + t) <;> rfl
end Bm
section
variable {w : World} {p bw ba n : Nat} {W : List UInt64} {r bb : Nat}
/-- The program's bitmap behind a change. -/
def ChB (w : World) (p bw ba n : Nat) (W' : List UInt64) (v : Value) (e : Ending) (w' : World) : Prop := e = .returned v ∧ BM w' p bw ba n W' ∧ Mod (BM.At p bw ba) w w'
def ChR (w : World) (r bb n : Nat) (W' : List UInt64) (v : Value) (e : Ending) (w' : World) : Prop := e = .returned v ∧ RM w' r bb (Bm.bools n W') ∧ Mod (fun k => k = bb) w w'
theorem ChB.pure {f : FuncId} {args : Array Value} {v : Value} (h : BM w p bw ba n W) (hp : Pur Tryd.prog f args w v) : Calls Tryd.prog f args w (ChB w p bw ba n W v) := hp.out.mono fun e w' ⟨he, hb⟩ => ⟨he, h.below hb, Mod.of_below hb⟩
theorem ChR.pure {f : FuncId} {args : Array Value} {v : Value} (h : RM w r bb (Bm.bools n W)) (hp : Pur Tryd.prog f args w v) : Calls Tryd.prog f args w (ChR w r bb n W v) := hp.out.mono fun e w' ⟨he, hb⟩ => ⟨he, h.below hb, Mod.of_below hb⟩
theorem set_u (h : BM w p bw ba n W) (i : Int) : Calls Tryd.prog 28 #[.pointer (some ⟨p, 0, none⟩), .int .i64 i] w (ChB w p bw ba n (Bm.setI n W i true) (.tuple #[.bool (Bm.setB n W i true), .int .i64 (Bm.tE n i : Nat)])) := by
  unfold Bm.setI Bm.setB Bm.tE
  by_cases hi : i < 0 ∨ (n : Int) ≤ i
  · rw [if_pos hi, if_pos hi, if_pos hi]; exact ChB.pure h (set_err h hi)
  · obtain ⟨m, rfl⟩ : ∃ m : Nat, i = m := ⟨i.toNat, by omega⟩
    rw [if_neg hi, if_neg hi, if_neg hi, Int.toNat_natCast]
    refine (set_calls h (i := m) (by omega)).mono fun e w' ⟨he, h1, h2⟩ => ⟨?_, h1, h2⟩
    rw [he]; cases Bm.bit W m <;> rfl
theorem clear_u (h : BM w p bw ba n W) (i : Int) : Calls Tryd.prog 34 #[.pointer (some ⟨p, 0, none⟩), .int .i64 i] w (ChB w p bw ba n (Bm.setI n W i false) (.tuple #[.bool (Bm.setB n W i false), .int .i64 (Bm.tE n i : Nat)])) := by
  unfold Bm.setI Bm.setB Bm.tE
  by_cases hi : i < 0 ∨ (n : Int) ≤ i
  · rw [if_pos hi, if_pos hi, if_pos hi]; exact ChB.pure h (clear_err h hi)
  · obtain ⟨m, rfl⟩ : ∃ m : Nat, i = m := ⟨i.toNat, by omega⟩
    rw [if_neg hi, if_neg hi, if_neg hi, Int.toNat_natCast]
    refine (clear_calls h (i := m) (by omega)).mono fun e w' ⟨he, h1, h2⟩ => ⟨?_, h1, h2⟩
    rw [he]; cases Bm.bit W m <;> rfl
theorem rput_u (hok : Bm.Ok n W) (h : RM w r bb (Bm.bools n W)) (i : Int) (to : Bool) : Calls Tryd.prog 101 #[.pointer (some ⟨r, 0, none⟩), .int .i64 i, .bool to] w (ChR w r bb n (Bm.setI n W i to) (.tuple #[.bool (Bm.setB n W i to), .int .i64 (Bm.tE n i : Nat)])) := by
  unfold Bm.setI Bm.setB Bm.tE
  by_cases hi : i < 0 ∨ (n : Int) ≤ i
  · rw [if_pos hi, if_pos hi, if_pos hi]; exact ChR.pure h (rput_err h (by rw [Bm.bools_length]; exact hi) to)
  · obtain ⟨m, rfl⟩ : ∃ m : Nat, i = m := ⟨i.toNat, by omega⟩
    rw [if_neg hi, if_neg hi, if_neg hi, Int.toNat_natCast]
    refine (rput_calls h (i := m) (by rw [Bm.bools_length]; omega) to).mono fun e w' ⟨he, h1, h2⟩ => ⟨?_, by rw [Bm.setW_bools hok]; exact h1, h2⟩
    rw [he, Bm.bools_getD, decide_eq_true (by omega), Bool.true_and]; rfl
theorem setrange_u (h : BM w p bw ba n W) {f c : Int} (h1 : (Lit.int .i64 f).wf = true) (h2 : (Lit.int .i64 c).wf = true) : Calls Tryd.prog 67 #[.pointer (some ⟨p, 0, none⟩), .int .i64 f, .int .i64 c] w (ChB w p bw ba n (Bm.setR n W f c true) (.tuple #[.int .i64 (Bm.setV n W f c true : Nat), .int .i64 (Bm.rangeE n f c : Nat)])) := by
  unfold Bm.setR Bm.setV
  by_cases he : Bm.rangeE n f c = 0
  · obtain ⟨k1, k2, k3, k4⟩ := Bm.rangeE_ok he
    rw [if_pos he, if_pos he, he]
    obtain ⟨a, rfl⟩ : ∃ a : Nat, f = a := ⟨f.toNat, by omega⟩
    obtain ⟨b, rfl⟩ : ∃ b : Nat, c = b := ⟨c.toNat, by omega⟩
    rw [Int.toNat_natCast, Int.toNat_natCast]
    have ho := Bm.ones_setW (to := true) h.ok (f := a) (c := b) (by omega)
    have hl := Bm.cnt_le (Bm.bit W) a b
    rw [if_pos rfl] at ho
    refine (setrange_calls h (f := a) (c := b) (by omega)).mono fun e w' ⟨he, h1, h2⟩ => ⟨?_, h1, h2⟩
    rw [he, Bm.cnt_ne, show ((Bm.ones' (Bm.setW n W a (a + b) true) : Nat) : Int) - (Bm.ones' W : Nat) = ((b - Bm.cnt (Bm.bit W) a b : Nat) : Int) by omega]; rfl
  · rw [if_neg he, if_neg he]; exact ChB.pure h (setrange_err h h1 h2 he)
theorem clearrange_u (h : BM w p bw ba n W) {f c : Int} (h1 : (Lit.int .i64 f).wf = true) (h2 : (Lit.int .i64 c).wf = true) : Calls Tryd.prog 68 #[.pointer (some ⟨p, 0, none⟩), .int .i64 f, .int .i64 c] w (ChB w p bw ba n (Bm.setR n W f c false) (.tuple #[.int .i64 (Bm.setV n W f c false : Nat), .int .i64 (Bm.rangeE n f c : Nat)])) := by
  unfold Bm.setR Bm.setV
  by_cases he : Bm.rangeE n f c = 0
  · obtain ⟨k1, k2, k3, k4⟩ := Bm.rangeE_ok he
    rw [if_pos he, if_pos he, he]
    obtain ⟨a, rfl⟩ : ∃ a : Nat, f = a := ⟨f.toNat, by omega⟩
    obtain ⟨b, rfl⟩ : ∃ b : Nat, c = b := ⟨c.toNat, by omega⟩
    rw [Int.toNat_natCast, Int.toNat_natCast]
    have ho := Bm.ones_setW (to := false) h.ok (f := a) (c := b) (by omega)
    rw [if_neg (by decide)] at ho
    refine (clearrange_calls h (f := a) (c := b) (by omega)).mono fun e w' ⟨he, h1, h2⟩ => ⟨?_, h1, h2⟩
    rw [he, Bm.cnt_nf, show ((Bm.ones' W : Nat) : Int) - (Bm.ones' (Bm.setW n W a (a + b) false) : Nat) = ((Bm.cnt (Bm.bit W) a b : Nat) : Int) by omega]; rfl
  · rw [if_neg he, if_neg he]; exact ChB.pure h (clearrange_err h h1 h2 he)
theorem rputrange_u (hok : Bm.Ok n W) (h : RM w r bb (Bm.bools n W)) {f c : Int} (h1 : (Lit.int .i64 f).wf = true) (h2 : (Lit.int .i64 c).wf = true) (to : Bool) : Calls Tryd.prog 102 #[.pointer (some ⟨r, 0, none⟩), .int .i64 f, .int .i64 c, .bool to] w (ChR w r bb n (Bm.setR n W f c to) (.tuple #[.int .i64 (Bm.setV n W f c to : Nat), .int .i64 (Bm.rangeE n f c : Nat)])) := by
  unfold Bm.setR Bm.setV
  by_cases he : Bm.rangeE n f c = 0
  · obtain ⟨k1, k2, k3, k4⟩ := Bm.rangeE_ok he
    rw [if_pos he, if_pos he, he]
    obtain ⟨a, rfl⟩ : ∃ a : Nat, f = a := ⟨f.toNat, by omega⟩
    obtain ⟨b, rfl⟩ : ∃ b : Nat, c = b := ⟨c.toNat, by omega⟩
    rw [Int.toNat_natCast, Int.toNat_natCast]
    refine (rputrange_calls h (f := a) (c := b) (by rw [Bm.bools_length]; omega) to).mono fun e w' ⟨he, h1, h2⟩ => ⟨?_, by rw [Bm.setW_bools hok]; exact h1, h2⟩
    rw [he, Bm.cnt_congr (g := fun i => Bm.bit W i != to) (b := a) b (fun t ht => by show ((Bm.bools n W).getD (a + t) false != to) = _; rw [Bm.bools_getD, decide_eq_true (by omega), Bool.true_and])]; rfl
  · rw [if_neg he, if_neg he]
    have := rputrange_err h h1 h2 (by rw [Bm.bools_length]; exact he) to
    rw [Bm.bools_length] at this
    exact ChR.pure h this
theorem merge_u (h : BM w p bw ba n W) {v : Value} {V : List UInt64} (hv : RU w v V) (hne : ∀ g, v.ownBlock = some g → ¬ BM.At p bw ba g) : Calls Tryd.prog 43 #[.pointer (some ⟨p, 0, none⟩), v] w (ChB w p bw ba n (Bm.merW n W V) (.tuple #[.int .i64 (Bm.merV n W V : Nat), .int .i64 (Bm.validE n V : Nat)])) := by
  unfold Bm.merW Bm.merV
  by_cases he : Bm.validE n V = 0
  · rw [if_pos he, if_pos he, he]
    have hok := Bm.ok_of_valid h.ok.pos h.ok.max he
    have ho := Bm.ones_mer h.ok hok
    refine (merge_calls h hv hok hne).mono fun e w' ⟨he, h1, h2⟩ => ⟨?_, h1, h2⟩
    rw [he, show ((Bm.ones' (Bm.mer W V) : Nat) : Int) - (Bm.ones' W : Nat) = ((Bm.cnt (fun i => Bm.bit V i && !Bm.bit W i) 0 n : Nat) : Int) by omega]; rfl
  · rw [if_neg he, if_neg he]; exact ChB.pure h (merge_err h hv he)
theorem rmerge_u (hok : Bm.Ok n W) (h : RM w r bb (Bm.bools n W)) {v : Value} {V : List UInt64} (hv : RU w v V) : Calls Tryd.prog 66 #[.pointer (some ⟨r, 0, none⟩), v] w (ChR w r bb n (Bm.merW n W V) (.tuple #[.int .i64 (Bm.merV n W V : Nat), .int .i64 (Bm.validE n V : Nat)])) := by
  unfold Bm.merW Bm.merV
  have hbl := Bm.bools_length n W
  by_cases he : Bm.validE n V = 0
  · rw [if_pos he, if_pos he, he]
    have hov := Bm.ok_of_valid hok.pos hok.max he
    have := rmerge_calls h hv (by rw [hbl]; exact hov)
    rw [hbl, Bm.merB_bools hok hov] at this
    refine this.mono fun e w' ⟨he, h1, h2⟩ => ⟨?_, h1, h2⟩
    rw [he, Bm.cnt_congr (g := fun i => Bm.bit V i && !Bm.bit W i) (b := 0) n (fun t ht => by show ((Bm.bools n V).getD (0 + t) false && !(Bm.bools n W).getD (0 + t) false) = _; rw [Bm.bools_getD, Bm.bools_getD, decide_eq_true (by omega), Bool.true_and, Bool.true_and])]; rfl
  · rw [if_neg he, if_neg he]
    have := rmerge_err h hv (by rw [hbl]; exact hok.pos) (by rw [hbl]; exact he)
    rw [hbl] at this
    exact ChR.pure h this
end
end Go.Proofs.YtckbckdaffdjmaaDoor

/- change: Set, Clear, SetRange, ClearRange. (Printed by wip/w7gen/mkchg3.py.) -/
namespace Go.Proofs.YtckbckdaffdjmaaDoor
open Go.RowKit
set_option maxRecDepth 100000
set_option linter.unusedVariables false
set_option linter.unusedSimpArgs false

/-- What a change of the pair leaves. -/
def ChgP (w : World) (P p bw ba r bb b n N : Nat) (own : Nat → Prop) (late : Bool) (e : Ending) (w' : World) : Prop :=
  e = .returned (.bool true) ∧ ∃ own' W', PrB w' P p bw ba r bb b n W' own' late (N + 2) ∧ (∀ k, k < w.heap.size → (own' k ↔ own k)) ∧ Mod (fun k => own k ∨ Pr.At P p bw ba r bb k) w w'
/-- What a change of the pair's bits leaves: the Book is as it was. -/
def ChgQ (w : World) (P p bw ba r bb b n N : Nat) (own : Nat → Prop) (late : Bool) (e : Ending) (w' : World) : Prop :=
  e = .returned (.bool true) ∧ ∃ W', PrB w' P p bw ba r bb b n W' own late N ∧ Mod (Pr.At P p bw ba r bb) w w'
theorem ChgQ.chg {w w' : World} {P p bw ba r bb b n N : Nat} {own : Nat → Prop} {late : Bool} {e : Ending} (h : ChgQ w P p bw ba r bb b n N own late e w') : ChgP w P p bw ba r bb b n N own late e w' := by
  obtain ⟨he, W', h1, h2⟩ := h
  exact ⟨he, own, W', ⟨h1.pr, h1.bk.more (by omega), h1.no⟩, fun _ _ => Iff.rfl, h2.mono fun _ _ e => .inr e⟩
theorem PrB.chg {w w1 w2 w3 w4 : World} {P p bw ba r bb b n N : Nat} {W W' : List UInt64} {own : Nat → Prop} {late : Bool} (h : PrB w P p bw ba r bb b n W own late N) (h1 : Below w.heap.size w w1) (hm2 : BM w2 p bw ba n W') (h2 : Mod (BM.At p bw ba) w1 w2) (h3 : Below w2.heap.size w2 w3) (hr4 : RM w4 r bb (Bm.bools n W')) (h4 : Mod (fun k => k = bb) w3 w4) :
    PrB w4 P p bw ba r bb b n W' own late N ∧ Mod (Pr.At P p bw ba r bb) w w4 := by
  obtain ⟨d1, d2, d3, d4, d5⟩ := h.pr.dP
  obtain ⟨e1, e2, e3⟩ := h.pr.dr
  obtain ⟨f1, f2, f3⟩ := h.pr.db
  have hat : ∀ k, BM.At p bw ba k ∨ k = bb → Pr.At P p bw ba r bb k := by
    rintro k ((e | e | e) | e)
    · exact .inr (.inl e)
    · exact .inr (.inr (.inl e))
    · exact .inr (.inr (.inr (.inl e)))
    · exact .inr (.inr (.inr (.inr (.inr e))))
  have hm : Mod (fun k => BM.At p bw ba k ∨ k = bb) w w4 := (Mod.of_below h1).trans ((h2.mono fun _ _ e => .inl e).trans ((Mod.of_below h3).trans (h4.mono fun _ _ e => .inr e)))
  refine ⟨⟨⟨h.pr.hP.mod hm ?_, (hm2.below h3).mod h4 (fun e => f1 e.symm) (fun e => f2 e.symm) (fun e => f3 e.symm), hr4, h.pr.dP, h.pr.dr, h.pr.db⟩, h.bk.mod hm (fun k _ e ho => h.no k (hat k e) ho), h.no⟩, hm.mono fun k _ e => hat k e⟩
  rintro ((e | e | e) | e)
  · exact d1 e
  · exact d2 e
  · exact d3 e
  · exact d5 e
theorem PrB.chg' {w w1 w2 w3 w4 : World} {P p bw ba r bb b n N : Nat} {W W' : List UInt64} {own : Nat → Prop} {late : Bool} (h : PrB w P p bw ba r bb b n W own late N) (h1 : Below w.heap.size w w1) (hm2 : BM w2 p bw ba n W') (h2 : Mod (BM.At p bw ba) w1 w2) (h3 : Below w2.heap.size w2 w3) (hr4 : RM w4 r bb (Bm.bools n W')) (h4 : Mod (fun k => k = bb) w3 w4) :
    PrB w4 P p bw ba r bb b n W' own late N ∧ Mod (fun k => own k ∨ Pr.At P p bw ba r bb k) w w4 := by
  obtain ⟨a, c⟩ := h.chg h1 hm2 h2 h3 hr4 h4
  exact ⟨a, c.mono fun _ _ e => .inr e⟩
theorem PrB.more' {w : World} {P p bw ba r bb b n N M : Nat} {W : List UInt64} {own : Nat → Prop} {late : Bool} (h : PrB w P p bw ba r bb b n W own late N) (hM : N ≤ M) : PrB w P p bw ba r bb b n W own late M := ⟨h.pr, h.bk.more hM, h.no⟩
/-- A drawn region with one writer: what holds behind as many of them as the list is long. -/
def RO (w0 : World) (S : Nat → Prop) (v : Value) (Q : World → Prop) : List Value → World → Prop
  | [], w => Below w0.heap.size w0 w
  | u :: _, w => u = v ∧ Q w ∧ Mod S w0 w
theorem RO.mod {w0 w : World} {S : Nat → Prop} {v : Value} {Q : World → Prop} {g : List Value} (h : RO w0 S v Q g w) : Mod S w0 w := by
  cases g with
  | nil => exact Mod.of_below h
  | cons u l => exact h.2.2
set_option maxHeartbeats 8000000 in
theorem chq_set {w : World} {P p bw ba r bb b n N : Nat} {W : List UInt64} {own : Nat → Prop} {late : Bool} (h : PrB w P p bw ba r bb b n W own late N) (s2 wv bf ac ag : Value) {A B : Int} (hA : (Lit.int .i64 A).wf = true) (hB : (Lit.int .i64 B).wf = true) :
    Calls Tryd.prog 81 #[.pointer (some ⟨P, 0, none⟩), .agg #[.int .i64 1, s2, .int .i64 A, .int .i64 B, wv, bf, ac, ag]] w (ChgQ w P p bw ba r bb b n N own late) := by
  obtain ⟨w0, D, hw0, hD, hrd, hb0⟩ := boxedOp w [.int .i64 1, s2, .int .i64 A, .int .i64 B, wv, bf, ac, ag]
  have HH := Lib.hid h
  have h0 := h.below hb0
  have H0 := Lib.hid h0
  have HB0 := Lib.hid hb0
  have cd0 := hrd.cell (i := 0) rfl
  have ld := heap_lt hrd
  have lp := heap_lt h0.pr.hP
  have HRD := Lib.hid hrd
  have HDN : Hid (¬ BM.At p bw ba D) := Lib.hid (by have h1 := h.pr.lt p (.inr (.inl rfl)); have h2 := h.pr.lt bw (.inr (.inr (.inl rfl))); have h3 := h.pr.lt ba (.inr (.inr (.inr (.inl rfl)))); rintro (e | e | e) <;> omega)
  have HDB : Hid (¬ D = bb) := Lib.hid (by have h1 := h.pr.lt bb (.inr (.inr (.inr (.inr (.inr rfl))))); omega)
  have HPN : Hid (¬ BM.At p bw ba P) := Lib.hid (by obtain ⟨d1, d2, d3, d4, d5⟩ := h.pr.dP; rintro (e | e | e) <;> contradiction)
  have HPB : Hid (¬ P = bb) := Lib.hid h.pr.dP.2.2.2.2
  have HAW := Lib.hid hA
  have HBW := Lib.hid hB
  go_enter Tryd.func81, Tryd.ntmps81
  go_upto_region 1 with fail
  rw [← hw0, ← hD]
  clear h hrd hw0 hD h0 hA hB hb0
  go_upto_region 3 with fail
  have hcl : ∀ g w', RO w0 (BM.At p bw ba) (.tuple #[.bool (Bm.setB n W A true), .int .i64 (Bm.tE n A : Nat)]) (fun w' => BM w' p bw ba n (Bm.setI n W A true)) g w' → w'.cell? ⟨P, 0, none⟩ = some (.pointer (some ⟨p, 0, none⟩)) ∧ w'.cell? ⟨D, 2, none⟩ = some (.int .i64 A) := fun g w' h => by
    have hx := HRD.out.mod (RO.mod h) HDN.out
    exact ⟨(H0.out.pr.hP.mod (RO.mod h) HPN.out).cell (i := 0) rfl, hx.cell (i := 2) rfl⟩
  refine Ph.wp_region_P (RO w0 (BM.At p bw ba) (.tuple #[.bool (Bm.setB n W A true), .int .i64 (Bm.tE n A : Nat)]) (fun w' => BM w' p bw ba n (Bm.setI n W A true))) (fun i => i == 6) 11 [0, 1, 2, 3, 4, 5, 6, 7, 8, 9, 10] (by kernel_rfl) (by kernel_rfl) (Below.drew (Below.refl _ _)) ?_
  (repeat (first | (refine Ph.wpP_pass rfl rfl rfl ?_; (try simp only [List.getElem_toArray, List.getElem_cons_succ, List.getElem_cons_zero, Act.put, List.setIfInBounds_toArray, List.set_cons_succ, List.set_cons_zero])) | (apply Ph.wpP_val rfl rfl rfl; (focus (intro t w1 hR; have hc := hcl _ _ hR; (try simp only [List.getElem_toArray, List.getElem_cons_succ, List.getElem_cons_zero]); (try go_simp); (try exact Eq.refl _); done)); (try simp only [List.getElem_toArray, List.getElem_cons_succ, List.getElem_cons_zero, Act.put, List.setIfInBounds_toArray, List.set_cons_succ, List.set_cons_zero])) | (apply Ph.wpP_val_want rfl rfl rfl; (focus (intro t w1 hR; have hc := hcl _ _ hR; (try simp only [List.getElem_toArray, List.getElem_cons_succ, List.getElem_cons_zero]); (try go_simp); (try exact Eq.refl _); done)); (try simp only [List.getElem_toArray, List.getElem_cons_succ, List.getElem_cons_zero, Act.put, List.setIfInBounds_toArray, List.set_cons_succ, List.set_cons_zero]))))
  (apply Ph.wpP_write_call rfl rfl rfl; (focus (intro w1 hR; have hc := hcl _ _ hR; (try simp only [List.getElem_toArray, List.getElem_cons_succ, List.getElem_cons_zero]); (try go_simp); (try exact And.intro rfl rfl); done)); (focus (intro w1 hR; exact (set_u (H0.out.pr.hm.below hR) A).mono fun e w' ⟨he, h1, h2⟩ => ⟨_, he, rfl, h1, (Mod.of_below hR).trans h2⟩)))
  rintro u w1 ⟨rfl, hR1⟩
  clear hR1
  (try simp only [List.getElem_toArray, List.getElem_cons_succ, List.getElem_cons_zero, Act.put, List.setIfInBounds_toArray, List.set_cons_succ, List.set_cons_zero])
  (repeat (first | (refine Ph.wpP_pass rfl rfl rfl ?_; (try simp only [List.getElem_toArray, List.getElem_cons_succ, List.getElem_cons_zero, Act.put, List.setIfInBounds_toArray, List.set_cons_succ, List.set_cons_zero])) | (apply Ph.wpP_val rfl rfl rfl; (focus (intro t w1 hR; have hc := hcl _ _ hR; (try simp only [List.getElem_toArray, List.getElem_cons_succ, List.getElem_cons_zero]); (try go_simp); (try exact Eq.refl _); done)); (try simp only [List.getElem_toArray, List.getElem_cons_succ, List.getElem_cons_zero, Act.put, List.setIfInBounds_toArray, List.set_cons_succ, List.set_cons_zero])) | (apply Ph.wpP_val_want rfl rfl rfl; (focus (intro t w1 hR; have hc := hcl _ _ hR; (try simp only [List.getElem_toArray, List.getElem_cons_succ, List.getElem_cons_zero]); (try go_simp); (try exact Eq.refl _); done)); (try simp only [List.getElem_toArray, List.getElem_cons_succ, List.getElem_cons_zero, Act.put, List.setIfInBounds_toArray, List.set_cons_succ, List.set_cons_zero]))))
  refine Ph.wpP_nil ?_
  rintro w2 ⟨_, hm2, hmd2⟩
  have hR2 : RM w2 r bb (Bm.bools n W) := H0.out.pr.hr.mod hmd2 (by obtain ⟨d1, d2, d3⟩ := H0.out.pr.dr; rintro (e | e | e) <;> contradiction) (by obtain ⟨d1, d2, d3⟩ := H0.out.pr.db; rintro (e | e | e) <;> contradiction)
  have HR2 := Lib.hid hR2
  have HM2 := Lib.hid hm2
  have HMD2 := Lib.hid hmd2
  have HRD2 := Lib.hid (HRD.out.mod hmd2 HDN.out)
  have HP2 := Lib.hid (H0.out.pr.hP.mod hmd2 HPN.out)
  clear hR2 hm2 hmd2 hcl cd0 ld lp
  go_upto_region 4 with fail
  have hcl : ∀ g w', RO w2 (fun k => k = bb) (.tuple #[.bool (Bm.setB n W A true), .int .i64 (Bm.tE n A : Nat)]) (fun w' => RM w' r bb (Bm.bools n (Bm.setI n W A true))) g w' → w'.cell? ⟨P, 1, none⟩ = some (.pointer (some ⟨r, 0, none⟩)) ∧ w'.cell? ⟨D, 2, none⟩ = some (.int .i64 A) := fun g w' h => by
    have hx := HRD2.out.mod (RO.mod h) HDB.out
    exact ⟨(HP2.out.mod (RO.mod h) HPB.out).cell (i := 1) rfl, hx.cell (i := 2) rfl⟩
  refine Ph.wp_region_P (RO w2 (fun k => k = bb) (.tuple #[.bool (Bm.setB n W A true), .int .i64 (Bm.tE n A : Nat)]) (fun w' => RM w' r bb (Bm.bools n (Bm.setI n W A true)))) (fun i => i == 6) 11 [0, 1, 2, 3, 4, 5, 6, 7, 8, 9, 10] (by kernel_rfl) (by kernel_rfl) (Below.drew (Below.refl _ _)) ?_
  (repeat (first | (refine Ph.wpP_pass rfl rfl rfl ?_; (try simp only [List.getElem_toArray, List.getElem_cons_succ, List.getElem_cons_zero, Act.put, List.setIfInBounds_toArray, List.set_cons_succ, List.set_cons_zero])) | (apply Ph.wpP_val rfl rfl rfl; (focus (intro t w1 hR; have hc := hcl _ _ hR; (try simp only [List.getElem_toArray, List.getElem_cons_succ, List.getElem_cons_zero]); (try go_simp); (try exact Eq.refl _); done)); (try simp only [List.getElem_toArray, List.getElem_cons_succ, List.getElem_cons_zero, Act.put, List.setIfInBounds_toArray, List.set_cons_succ, List.set_cons_zero])) | (apply Ph.wpP_val_want rfl rfl rfl; (focus (intro t w1 hR; have hc := hcl _ _ hR; (try simp only [List.getElem_toArray, List.getElem_cons_succ, List.getElem_cons_zero]); (try go_simp); (try exact Eq.refl _); done)); (try simp only [List.getElem_toArray, List.getElem_cons_succ, List.getElem_cons_zero, Act.put, List.setIfInBounds_toArray, List.set_cons_succ, List.set_cons_zero]))))
  (apply Ph.wpP_write_call rfl rfl rfl; (focus (intro w1 hR; have hc := hcl _ _ hR; (try simp only [List.getElem_toArray, List.getElem_cons_succ, List.getElem_cons_zero]); (try go_simp); (try exact And.intro rfl rfl); done)); (focus (intro w1 hR; exact (rput_u H0.out.pr.hm.ok (HR2.out.below hR) A true).mono fun e w' ⟨he, h1, h2⟩ => ⟨_, he, rfl, h1, (Mod.of_below hR).trans h2⟩)))
  rintro u w1 ⟨rfl, hR1⟩
  clear hR1
  (try simp only [List.getElem_toArray, List.getElem_cons_succ, List.getElem_cons_zero, Act.put, List.setIfInBounds_toArray, List.set_cons_succ, List.set_cons_zero])
  (repeat (first | (refine Ph.wpP_pass rfl rfl rfl ?_; (try simp only [List.getElem_toArray, List.getElem_cons_succ, List.getElem_cons_zero, Act.put, List.setIfInBounds_toArray, List.set_cons_succ, List.set_cons_zero])) | (apply Ph.wpP_val rfl rfl rfl; (focus (intro t w1 hR; have hc := hcl _ _ hR; (try simp only [List.getElem_toArray, List.getElem_cons_succ, List.getElem_cons_zero]); (try go_simp); (try exact Eq.refl _); done)); (try simp only [List.getElem_toArray, List.getElem_cons_succ, List.getElem_cons_zero, Act.put, List.setIfInBounds_toArray, List.set_cons_succ, List.set_cons_zero])) | (apply Ph.wpP_val_want rfl rfl rfl; (focus (intro t w1 hR; have hc := hcl _ _ hR; (try simp only [List.getElem_toArray, List.getElem_cons_succ, List.getElem_cons_zero]); (try go_simp); (try exact Eq.refl _); done)); (try simp only [List.getElem_toArray, List.getElem_cons_succ, List.getElem_cons_zero, Act.put, List.setIfInBounds_toArray, List.set_cons_succ, List.set_cons_zero]))))
  refine Ph.wpP_nil ?_
  rintro w4 ⟨_, hr4, hmd4⟩
  clear hcl
  go_wp2_with fail
  go_ret
  obtain ⟨g1, g2⟩ := HH.out.chg HB0.out HM2.out HMD2.out (Below.refl _ _) hr4 hmd4
  exact ⟨rfl, _, g1, g2⟩
theorem chg_set {w : World} {P p bw ba r bb b n N : Nat} {W : List UInt64} {own : Nat → Prop} {late : Bool} (h : PrB w P p bw ba r bb b n W own late N) (s2 wv bf ac ag : Value) {A B : Int} (hA : (Lit.int .i64 A).wf = true) (hB : (Lit.int .i64 B).wf = true) :
    Calls Tryd.prog 81 #[.pointer (some ⟨P, 0, none⟩), .agg #[.int .i64 1, s2, .int .i64 A, .int .i64 B, wv, bf, ac, ag]] w (ChgP w P p bw ba r bb b n N own late) := (chq_set h s2 wv bf ac ag hA hB).mono fun _ _ h => h.chg
set_option maxHeartbeats 8000000 in
theorem chq_clear {w : World} {P p bw ba r bb b n N : Nat} {W : List UInt64} {own : Nat → Prop} {late : Bool} (h : PrB w P p bw ba r bb b n W own late N) (s2 wv bf ac ag : Value) {A B : Int} (hA : (Lit.int .i64 A).wf = true) (hB : (Lit.int .i64 B).wf = true) :
    Calls Tryd.prog 81 #[.pointer (some ⟨P, 0, none⟩), .agg #[.int .i64 2, s2, .int .i64 A, .int .i64 B, wv, bf, ac, ag]] w (ChgQ w P p bw ba r bb b n N own late) := by
  obtain ⟨w0, D, hw0, hD, hrd, hb0⟩ := boxedOp w [.int .i64 2, s2, .int .i64 A, .int .i64 B, wv, bf, ac, ag]
  have HH := Lib.hid h
  have h0 := h.below hb0
  have H0 := Lib.hid h0
  have HB0 := Lib.hid hb0
  have cd0 := hrd.cell (i := 0) rfl
  have ld := heap_lt hrd
  have lp := heap_lt h0.pr.hP
  have HRD := Lib.hid hrd
  have HDN : Hid (¬ BM.At p bw ba D) := Lib.hid (by have h1 := h.pr.lt p (.inr (.inl rfl)); have h2 := h.pr.lt bw (.inr (.inr (.inl rfl))); have h3 := h.pr.lt ba (.inr (.inr (.inr (.inl rfl)))); rintro (e | e | e) <;> omega)
  have HDB : Hid (¬ D = bb) := Lib.hid (by have h1 := h.pr.lt bb (.inr (.inr (.inr (.inr (.inr rfl))))); omega)
  have HPN : Hid (¬ BM.At p bw ba P) := Lib.hid (by obtain ⟨d1, d2, d3, d4, d5⟩ := h.pr.dP; rintro (e | e | e) <;> contradiction)
  have HPB : Hid (¬ P = bb) := Lib.hid h.pr.dP.2.2.2.2
  have HAW := Lib.hid hA
  have HBW := Lib.hid hB
  go_enter Tryd.func81, Tryd.ntmps81
  go_upto_region 1 with fail
  rw [← hw0, ← hD]
  clear h hrd hw0 hD h0 hA hB hb0
  go_upto_region 7 with fail
  have hcl : ∀ g w', RO w0 (BM.At p bw ba) (.tuple #[.bool (Bm.setB n W A false), .int .i64 (Bm.tE n A : Nat)]) (fun w' => BM w' p bw ba n (Bm.setI n W A false)) g w' → w'.cell? ⟨P, 0, none⟩ = some (.pointer (some ⟨p, 0, none⟩)) ∧ w'.cell? ⟨D, 2, none⟩ = some (.int .i64 A) := fun g w' h => by
    have hx := HRD.out.mod (RO.mod h) HDN.out
    exact ⟨(H0.out.pr.hP.mod (RO.mod h) HPN.out).cell (i := 0) rfl, hx.cell (i := 2) rfl⟩
  refine Ph.wp_region_P (RO w0 (BM.At p bw ba) (.tuple #[.bool (Bm.setB n W A false), .int .i64 (Bm.tE n A : Nat)]) (fun w' => BM w' p bw ba n (Bm.setI n W A false))) (fun i => i == 6) 11 [0, 1, 2, 3, 4, 5, 6, 7, 8, 9, 10] (by kernel_rfl) (by kernel_rfl) (Below.drew (Below.refl _ _)) ?_
  (repeat (first | (refine Ph.wpP_pass rfl rfl rfl ?_; (try simp only [List.getElem_toArray, List.getElem_cons_succ, List.getElem_cons_zero, Act.put, List.setIfInBounds_toArray, List.set_cons_succ, List.set_cons_zero])) | (apply Ph.wpP_val rfl rfl rfl; (focus (intro t w1 hR; have hc := hcl _ _ hR; (try simp only [List.getElem_toArray, List.getElem_cons_succ, List.getElem_cons_zero]); (try go_simp); (try exact Eq.refl _); done)); (try simp only [List.getElem_toArray, List.getElem_cons_succ, List.getElem_cons_zero, Act.put, List.setIfInBounds_toArray, List.set_cons_succ, List.set_cons_zero])) | (apply Ph.wpP_val_want rfl rfl rfl; (focus (intro t w1 hR; have hc := hcl _ _ hR; (try simp only [List.getElem_toArray, List.getElem_cons_succ, List.getElem_cons_zero]); (try go_simp); (try exact Eq.refl _); done)); (try simp only [List.getElem_toArray, List.getElem_cons_succ, List.getElem_cons_zero, Act.put, List.setIfInBounds_toArray, List.set_cons_succ, List.set_cons_zero]))))
  (apply Ph.wpP_write_call rfl rfl rfl; (focus (intro w1 hR; have hc := hcl _ _ hR; (try simp only [List.getElem_toArray, List.getElem_cons_succ, List.getElem_cons_zero]); (try go_simp); (try exact And.intro rfl rfl); done)); (focus (intro w1 hR; exact (clear_u (H0.out.pr.hm.below hR) A).mono fun e w' ⟨he, h1, h2⟩ => ⟨_, he, rfl, h1, (Mod.of_below hR).trans h2⟩)))
  rintro u w1 ⟨rfl, hR1⟩
  clear hR1
  (try simp only [List.getElem_toArray, List.getElem_cons_succ, List.getElem_cons_zero, Act.put, List.setIfInBounds_toArray, List.set_cons_succ, List.set_cons_zero])
  (repeat (first | (refine Ph.wpP_pass rfl rfl rfl ?_; (try simp only [List.getElem_toArray, List.getElem_cons_succ, List.getElem_cons_zero, Act.put, List.setIfInBounds_toArray, List.set_cons_succ, List.set_cons_zero])) | (apply Ph.wpP_val rfl rfl rfl; (focus (intro t w1 hR; have hc := hcl _ _ hR; (try simp only [List.getElem_toArray, List.getElem_cons_succ, List.getElem_cons_zero]); (try go_simp); (try exact Eq.refl _); done)); (try simp only [List.getElem_toArray, List.getElem_cons_succ, List.getElem_cons_zero, Act.put, List.setIfInBounds_toArray, List.set_cons_succ, List.set_cons_zero])) | (apply Ph.wpP_val_want rfl rfl rfl; (focus (intro t w1 hR; have hc := hcl _ _ hR; (try simp only [List.getElem_toArray, List.getElem_cons_succ, List.getElem_cons_zero]); (try go_simp); (try exact Eq.refl _); done)); (try simp only [List.getElem_toArray, List.getElem_cons_succ, List.getElem_cons_zero, Act.put, List.setIfInBounds_toArray, List.set_cons_succ, List.set_cons_zero]))))
  refine Ph.wpP_nil ?_
  rintro w2 ⟨_, hm2, hmd2⟩
  have hR2 : RM w2 r bb (Bm.bools n W) := H0.out.pr.hr.mod hmd2 (by obtain ⟨d1, d2, d3⟩ := H0.out.pr.dr; rintro (e | e | e) <;> contradiction) (by obtain ⟨d1, d2, d3⟩ := H0.out.pr.db; rintro (e | e | e) <;> contradiction)
  have HR2 := Lib.hid hR2
  have HM2 := Lib.hid hm2
  have HMD2 := Lib.hid hmd2
  have HRD2 := Lib.hid (HRD.out.mod hmd2 HDN.out)
  have HP2 := Lib.hid (H0.out.pr.hP.mod hmd2 HPN.out)
  clear hR2 hm2 hmd2 hcl cd0 ld lp
  go_upto_region 8 with fail
  have hcl : ∀ g w', RO w2 (fun k => k = bb) (.tuple #[.bool (Bm.setB n W A false), .int .i64 (Bm.tE n A : Nat)]) (fun w' => RM w' r bb (Bm.bools n (Bm.setI n W A false))) g w' → w'.cell? ⟨P, 1, none⟩ = some (.pointer (some ⟨r, 0, none⟩)) ∧ w'.cell? ⟨D, 2, none⟩ = some (.int .i64 A) := fun g w' h => by
    have hx := HRD2.out.mod (RO.mod h) HDB.out
    exact ⟨(HP2.out.mod (RO.mod h) HPB.out).cell (i := 1) rfl, hx.cell (i := 2) rfl⟩
  refine Ph.wp_region_P (RO w2 (fun k => k = bb) (.tuple #[.bool (Bm.setB n W A false), .int .i64 (Bm.tE n A : Nat)]) (fun w' => RM w' r bb (Bm.bools n (Bm.setI n W A false)))) (fun i => i == 6) 11 [0, 1, 2, 3, 4, 5, 6, 7, 8, 9, 10] (by kernel_rfl) (by kernel_rfl) (Below.drew (Below.refl _ _)) ?_
  (repeat (first | (refine Ph.wpP_pass rfl rfl rfl ?_; (try simp only [List.getElem_toArray, List.getElem_cons_succ, List.getElem_cons_zero, Act.put, List.setIfInBounds_toArray, List.set_cons_succ, List.set_cons_zero])) | (apply Ph.wpP_val rfl rfl rfl; (focus (intro t w1 hR; have hc := hcl _ _ hR; (try simp only [List.getElem_toArray, List.getElem_cons_succ, List.getElem_cons_zero]); (try go_simp); (try exact Eq.refl _); done)); (try simp only [List.getElem_toArray, List.getElem_cons_succ, List.getElem_cons_zero, Act.put, List.setIfInBounds_toArray, List.set_cons_succ, List.set_cons_zero])) | (apply Ph.wpP_val_want rfl rfl rfl; (focus (intro t w1 hR; have hc := hcl _ _ hR; (try simp only [List.getElem_toArray, List.getElem_cons_succ, List.getElem_cons_zero]); (try go_simp); (try exact Eq.refl _); done)); (try simp only [List.getElem_toArray, List.getElem_cons_succ, List.getElem_cons_zero, Act.put, List.setIfInBounds_toArray, List.set_cons_succ, List.set_cons_zero]))))
  (apply Ph.wpP_write_call rfl rfl rfl; (focus (intro w1 hR; have hc := hcl _ _ hR; (try simp only [List.getElem_toArray, List.getElem_cons_succ, List.getElem_cons_zero]); (try go_simp); (try exact And.intro rfl rfl); done)); (focus (intro w1 hR; exact (rput_u H0.out.pr.hm.ok (HR2.out.below hR) A false).mono fun e w' ⟨he, h1, h2⟩ => ⟨_, he, rfl, h1, (Mod.of_below hR).trans h2⟩)))
  rintro u w1 ⟨rfl, hR1⟩
  clear hR1
  (try simp only [List.getElem_toArray, List.getElem_cons_succ, List.getElem_cons_zero, Act.put, List.setIfInBounds_toArray, List.set_cons_succ, List.set_cons_zero])
  (repeat (first | (refine Ph.wpP_pass rfl rfl rfl ?_; (try simp only [List.getElem_toArray, List.getElem_cons_succ, List.getElem_cons_zero, Act.put, List.setIfInBounds_toArray, List.set_cons_succ, List.set_cons_zero])) | (apply Ph.wpP_val rfl rfl rfl; (focus (intro t w1 hR; have hc := hcl _ _ hR; (try simp only [List.getElem_toArray, List.getElem_cons_succ, List.getElem_cons_zero]); (try go_simp); (try exact Eq.refl _); done)); (try simp only [List.getElem_toArray, List.getElem_cons_succ, List.getElem_cons_zero, Act.put, List.setIfInBounds_toArray, List.set_cons_succ, List.set_cons_zero])) | (apply Ph.wpP_val_want rfl rfl rfl; (focus (intro t w1 hR; have hc := hcl _ _ hR; (try simp only [List.getElem_toArray, List.getElem_cons_succ, List.getElem_cons_zero]); (try go_simp); (try exact Eq.refl _); done)); (try simp only [List.getElem_toArray, List.getElem_cons_succ, List.getElem_cons_zero, Act.put, List.setIfInBounds_toArray, List.set_cons_succ, List.set_cons_zero]))))
  refine Ph.wpP_nil ?_
  rintro w4 ⟨_, hr4, hmd4⟩
  clear hcl
  go_wp2_with fail
  go_ret
  obtain ⟨g1, g2⟩ := HH.out.chg HB0.out HM2.out HMD2.out (Below.refl _ _) hr4 hmd4
  exact ⟨rfl, _, g1, g2⟩
theorem chg_clear {w : World} {P p bw ba r bb b n N : Nat} {W : List UInt64} {own : Nat → Prop} {late : Bool} (h : PrB w P p bw ba r bb b n W own late N) (s2 wv bf ac ag : Value) {A B : Int} (hA : (Lit.int .i64 A).wf = true) (hB : (Lit.int .i64 B).wf = true) :
    Calls Tryd.prog 81 #[.pointer (some ⟨P, 0, none⟩), .agg #[.int .i64 2, s2, .int .i64 A, .int .i64 B, wv, bf, ac, ag]] w (ChgP w P p bw ba r bb b n N own late) := (chq_clear h s2 wv bf ac ag hA hB).mono fun _ _ h => h.chg
set_option maxHeartbeats 8000000 in
theorem chq_setrange {w : World} {P p bw ba r bb b n N : Nat} {W : List UInt64} {own : Nat → Prop} {late : Bool} (h : PrB w P p bw ba r bb b n W own late N) (s2 wv bf ac ag : Value) {A B : Int} (hA : (Lit.int .i64 A).wf = true) (hB : (Lit.int .i64 B).wf = true) :
    Calls Tryd.prog 81 #[.pointer (some ⟨P, 0, none⟩), .agg #[.int .i64 3, s2, .int .i64 A, .int .i64 B, wv, bf, ac, ag]] w (ChgQ w P p bw ba r bb b n N own late) := by
  obtain ⟨w0, D, hw0, hD, hrd, hb0⟩ := boxedOp w [.int .i64 3, s2, .int .i64 A, .int .i64 B, wv, bf, ac, ag]
  have HH := Lib.hid h
  have h0 := h.below hb0
  have H0 := Lib.hid h0
  have HB0 := Lib.hid hb0
  have cd0 := hrd.cell (i := 0) rfl
  have ld := heap_lt hrd
  have lp := heap_lt h0.pr.hP
  have HRD := Lib.hid hrd
  have HDN : Hid (¬ BM.At p bw ba D) := Lib.hid (by have h1 := h.pr.lt p (.inr (.inl rfl)); have h2 := h.pr.lt bw (.inr (.inr (.inl rfl))); have h3 := h.pr.lt ba (.inr (.inr (.inr (.inl rfl)))); rintro (e | e | e) <;> omega)
  have HDB : Hid (¬ D = bb) := Lib.hid (by have h1 := h.pr.lt bb (.inr (.inr (.inr (.inr (.inr rfl))))); omega)
  have HPN : Hid (¬ BM.At p bw ba P) := Lib.hid (by obtain ⟨d1, d2, d3, d4, d5⟩ := h.pr.dP; rintro (e | e | e) <;> contradiction)
  have HPB : Hid (¬ P = bb) := Lib.hid h.pr.dP.2.2.2.2
  have HAW := Lib.hid hA
  have HBW := Lib.hid hB
  go_enter Tryd.func81, Tryd.ntmps81
  go_upto_region 1 with fail
  rw [← hw0, ← hD]
  clear h hrd hw0 hD h0 hA hB hb0
  go_upto_region 11 with fail
  have hcl : ∀ g w', RO w0 (BM.At p bw ba) (.tuple #[.int .i64 (Bm.setV n W A B true : Nat), .int .i64 (Bm.rangeE n A B : Nat)]) (fun w' => BM w' p bw ba n (Bm.setR n W A B true)) g w' → w'.cell? ⟨P, 0, none⟩ = some (.pointer (some ⟨p, 0, none⟩)) ∧ w'.cell? ⟨D, 2, none⟩ = some (.int .i64 A) ∧ w'.cell? ⟨D, 3, none⟩ = some (.int .i64 B) := fun g w' h => by
    have hx := HRD.out.mod (RO.mod h) HDN.out
    exact ⟨(H0.out.pr.hP.mod (RO.mod h) HPN.out).cell (i := 0) rfl, hx.cell (i := 2) rfl, hx.cell (i := 3) rfl⟩
  refine Ph.wp_region_P (RO w0 (BM.At p bw ba) (.tuple #[.int .i64 (Bm.setV n W A B true : Nat), .int .i64 (Bm.rangeE n A B : Nat)]) (fun w' => BM w' p bw ba n (Bm.setR n W A B true))) (fun i => i == 8) 13 [0, 1, 2, 3, 4, 5, 6, 7, 8, 9, 10, 11, 12] (by kernel_rfl) (by kernel_rfl) (Below.drew (Below.refl _ _)) ?_
  (repeat (first | (refine Ph.wpP_pass rfl rfl rfl ?_; (try simp only [List.getElem_toArray, List.getElem_cons_succ, List.getElem_cons_zero, Act.put, List.setIfInBounds_toArray, List.set_cons_succ, List.set_cons_zero])) | (apply Ph.wpP_val rfl rfl rfl; (focus (intro t w1 hR; have hc := hcl _ _ hR; (try simp only [List.getElem_toArray, List.getElem_cons_succ, List.getElem_cons_zero]); (try go_simp); (try exact Eq.refl _); done)); (try simp only [List.getElem_toArray, List.getElem_cons_succ, List.getElem_cons_zero, Act.put, List.setIfInBounds_toArray, List.set_cons_succ, List.set_cons_zero])) | (apply Ph.wpP_val_want rfl rfl rfl; (focus (intro t w1 hR; have hc := hcl _ _ hR; (try simp only [List.getElem_toArray, List.getElem_cons_succ, List.getElem_cons_zero]); (try go_simp); (try exact Eq.refl _); done)); (try simp only [List.getElem_toArray, List.getElem_cons_succ, List.getElem_cons_zero, Act.put, List.setIfInBounds_toArray, List.set_cons_succ, List.set_cons_zero]))))
  (apply Ph.wpP_write_call rfl rfl rfl; (focus (intro w1 hR; have hc := hcl _ _ hR; (try simp only [List.getElem_toArray, List.getElem_cons_succ, List.getElem_cons_zero]); (try go_simp); (try exact And.intro rfl rfl); done)); (focus (intro w1 hR; exact (setrange_u (H0.out.pr.hm.below hR) HAW.out HBW.out).mono fun e w' ⟨he, h1, h2⟩ => ⟨_, he, rfl, h1, (Mod.of_below hR).trans h2⟩)))
  rintro u w1 ⟨rfl, hR1⟩
  clear hR1
  (try simp only [List.getElem_toArray, List.getElem_cons_succ, List.getElem_cons_zero, Act.put, List.setIfInBounds_toArray, List.set_cons_succ, List.set_cons_zero])
  (repeat (first | (refine Ph.wpP_pass rfl rfl rfl ?_; (try simp only [List.getElem_toArray, List.getElem_cons_succ, List.getElem_cons_zero, Act.put, List.setIfInBounds_toArray, List.set_cons_succ, List.set_cons_zero])) | (apply Ph.wpP_val rfl rfl rfl; (focus (intro t w1 hR; have hc := hcl _ _ hR; (try simp only [List.getElem_toArray, List.getElem_cons_succ, List.getElem_cons_zero]); (try go_simp); (try exact Eq.refl _); done)); (try simp only [List.getElem_toArray, List.getElem_cons_succ, List.getElem_cons_zero, Act.put, List.setIfInBounds_toArray, List.set_cons_succ, List.set_cons_zero])) | (apply Ph.wpP_val_want rfl rfl rfl; (focus (intro t w1 hR; have hc := hcl _ _ hR; (try simp only [List.getElem_toArray, List.getElem_cons_succ, List.getElem_cons_zero]); (try go_simp); (try exact Eq.refl _); done)); (try simp only [List.getElem_toArray, List.getElem_cons_succ, List.getElem_cons_zero, Act.put, List.setIfInBounds_toArray, List.set_cons_succ, List.set_cons_zero]))))
  refine Ph.wpP_nil ?_
  rintro w2 ⟨_, hm2, hmd2⟩
  have hR2 : RM w2 r bb (Bm.bools n W) := H0.out.pr.hr.mod hmd2 (by obtain ⟨d1, d2, d3⟩ := H0.out.pr.dr; rintro (e | e | e) <;> contradiction) (by obtain ⟨d1, d2, d3⟩ := H0.out.pr.db; rintro (e | e | e) <;> contradiction)
  have HR2 := Lib.hid hR2
  have HM2 := Lib.hid hm2
  have HMD2 := Lib.hid hmd2
  have HRD2 := Lib.hid (HRD.out.mod hmd2 HDN.out)
  have HP2 := Lib.hid (H0.out.pr.hP.mod hmd2 HPN.out)
  clear hR2 hm2 hmd2 hcl cd0 ld lp
  go_upto_region 12 with fail
  have hcl : ∀ g w', RO w2 (fun k => k = bb) (.tuple #[.int .i64 (Bm.setV n W A B true : Nat), .int .i64 (Bm.rangeE n A B : Nat)]) (fun w' => RM w' r bb (Bm.bools n (Bm.setR n W A B true))) g w' → w'.cell? ⟨P, 1, none⟩ = some (.pointer (some ⟨r, 0, none⟩)) ∧ w'.cell? ⟨D, 2, none⟩ = some (.int .i64 A) ∧ w'.cell? ⟨D, 3, none⟩ = some (.int .i64 B) := fun g w' h => by
    have hx := HRD2.out.mod (RO.mod h) HDB.out
    exact ⟨(HP2.out.mod (RO.mod h) HPB.out).cell (i := 1) rfl, hx.cell (i := 2) rfl, hx.cell (i := 3) rfl⟩
  refine Ph.wp_region_P (RO w2 (fun k => k = bb) (.tuple #[.int .i64 (Bm.setV n W A B true : Nat), .int .i64 (Bm.rangeE n A B : Nat)]) (fun w' => RM w' r bb (Bm.bools n (Bm.setR n W A B true)))) (fun i => i == 8) 13 [0, 1, 2, 3, 4, 5, 6, 7, 8, 9, 10, 11, 12] (by kernel_rfl) (by kernel_rfl) (Below.drew (Below.refl _ _)) ?_
  (repeat (first | (refine Ph.wpP_pass rfl rfl rfl ?_; (try simp only [List.getElem_toArray, List.getElem_cons_succ, List.getElem_cons_zero, Act.put, List.setIfInBounds_toArray, List.set_cons_succ, List.set_cons_zero])) | (apply Ph.wpP_val rfl rfl rfl; (focus (intro t w1 hR; have hc := hcl _ _ hR; (try simp only [List.getElem_toArray, List.getElem_cons_succ, List.getElem_cons_zero]); (try go_simp); (try exact Eq.refl _); done)); (try simp only [List.getElem_toArray, List.getElem_cons_succ, List.getElem_cons_zero, Act.put, List.setIfInBounds_toArray, List.set_cons_succ, List.set_cons_zero])) | (apply Ph.wpP_val_want rfl rfl rfl; (focus (intro t w1 hR; have hc := hcl _ _ hR; (try simp only [List.getElem_toArray, List.getElem_cons_succ, List.getElem_cons_zero]); (try go_simp); (try exact Eq.refl _); done)); (try simp only [List.getElem_toArray, List.getElem_cons_succ, List.getElem_cons_zero, Act.put, List.setIfInBounds_toArray, List.set_cons_succ, List.set_cons_zero]))))
  (apply Ph.wpP_write_call rfl rfl rfl; (focus (intro w1 hR; have hc := hcl _ _ hR; (try simp only [List.getElem_toArray, List.getElem_cons_succ, List.getElem_cons_zero]); (try go_simp); (try exact And.intro rfl rfl); done)); (focus (intro w1 hR; exact (rputrange_u H0.out.pr.hm.ok (HR2.out.below hR) HAW.out HBW.out true).mono fun e w' ⟨he, h1, h2⟩ => ⟨_, he, rfl, h1, (Mod.of_below hR).trans h2⟩)))
  rintro u w1 ⟨rfl, hR1⟩
  clear hR1
  (try simp only [List.getElem_toArray, List.getElem_cons_succ, List.getElem_cons_zero, Act.put, List.setIfInBounds_toArray, List.set_cons_succ, List.set_cons_zero])
  (repeat (first | (refine Ph.wpP_pass rfl rfl rfl ?_; (try simp only [List.getElem_toArray, List.getElem_cons_succ, List.getElem_cons_zero, Act.put, List.setIfInBounds_toArray, List.set_cons_succ, List.set_cons_zero])) | (apply Ph.wpP_val rfl rfl rfl; (focus (intro t w1 hR; have hc := hcl _ _ hR; (try simp only [List.getElem_toArray, List.getElem_cons_succ, List.getElem_cons_zero]); (try go_simp); (try exact Eq.refl _); done)); (try simp only [List.getElem_toArray, List.getElem_cons_succ, List.getElem_cons_zero, Act.put, List.setIfInBounds_toArray, List.set_cons_succ, List.set_cons_zero])) | (apply Ph.wpP_val_want rfl rfl rfl; (focus (intro t w1 hR; have hc := hcl _ _ hR; (try simp only [List.getElem_toArray, List.getElem_cons_succ, List.getElem_cons_zero]); (try go_simp); (try exact Eq.refl _); done)); (try simp only [List.getElem_toArray, List.getElem_cons_succ, List.getElem_cons_zero, Act.put, List.setIfInBounds_toArray, List.set_cons_succ, List.set_cons_zero]))))
  refine Ph.wpP_nil ?_
  rintro w4 ⟨_, hr4, hmd4⟩
  clear hcl
  go_wp2_with fail
  go_ret
  obtain ⟨g1, g2⟩ := HH.out.chg HB0.out HM2.out HMD2.out (Below.refl _ _) hr4 hmd4
  exact ⟨rfl, _, g1, g2⟩
theorem chg_setrange {w : World} {P p bw ba r bb b n N : Nat} {W : List UInt64} {own : Nat → Prop} {late : Bool} (h : PrB w P p bw ba r bb b n W own late N) (s2 wv bf ac ag : Value) {A B : Int} (hA : (Lit.int .i64 A).wf = true) (hB : (Lit.int .i64 B).wf = true) :
    Calls Tryd.prog 81 #[.pointer (some ⟨P, 0, none⟩), .agg #[.int .i64 3, s2, .int .i64 A, .int .i64 B, wv, bf, ac, ag]] w (ChgP w P p bw ba r bb b n N own late) := (chq_setrange h s2 wv bf ac ag hA hB).mono fun _ _ h => h.chg
set_option maxHeartbeats 8000000 in
theorem chq_clearrange {w : World} {P p bw ba r bb b n N : Nat} {W : List UInt64} {own : Nat → Prop} {late : Bool} (h : PrB w P p bw ba r bb b n W own late N) (s2 wv bf ac ag : Value) {A B : Int} (hA : (Lit.int .i64 A).wf = true) (hB : (Lit.int .i64 B).wf = true) :
    Calls Tryd.prog 81 #[.pointer (some ⟨P, 0, none⟩), .agg #[.int .i64 4, s2, .int .i64 A, .int .i64 B, wv, bf, ac, ag]] w (ChgQ w P p bw ba r bb b n N own late) := by
  obtain ⟨w0, D, hw0, hD, hrd, hb0⟩ := boxedOp w [.int .i64 4, s2, .int .i64 A, .int .i64 B, wv, bf, ac, ag]
  have HH := Lib.hid h
  have h0 := h.below hb0
  have H0 := Lib.hid h0
  have HB0 := Lib.hid hb0
  have cd0 := hrd.cell (i := 0) rfl
  have ld := heap_lt hrd
  have lp := heap_lt h0.pr.hP
  have HRD := Lib.hid hrd
  have HDN : Hid (¬ BM.At p bw ba D) := Lib.hid (by have h1 := h.pr.lt p (.inr (.inl rfl)); have h2 := h.pr.lt bw (.inr (.inr (.inl rfl))); have h3 := h.pr.lt ba (.inr (.inr (.inr (.inl rfl)))); rintro (e | e | e) <;> omega)
  have HDB : Hid (¬ D = bb) := Lib.hid (by have h1 := h.pr.lt bb (.inr (.inr (.inr (.inr (.inr rfl))))); omega)
  have HPN : Hid (¬ BM.At p bw ba P) := Lib.hid (by obtain ⟨d1, d2, d3, d4, d5⟩ := h.pr.dP; rintro (e | e | e) <;> contradiction)
  have HPB : Hid (¬ P = bb) := Lib.hid h.pr.dP.2.2.2.2
  have HAW := Lib.hid hA
  have HBW := Lib.hid hB
  go_enter Tryd.func81, Tryd.ntmps81
  go_upto_region 1 with fail
  rw [← hw0, ← hD]
  clear h hrd hw0 hD h0 hA hB hb0
  go_upto_region 15 with fail
  have hcl : ∀ g w', RO w0 (BM.At p bw ba) (.tuple #[.int .i64 (Bm.setV n W A B false : Nat), .int .i64 (Bm.rangeE n A B : Nat)]) (fun w' => BM w' p bw ba n (Bm.setR n W A B false)) g w' → w'.cell? ⟨P, 0, none⟩ = some (.pointer (some ⟨p, 0, none⟩)) ∧ w'.cell? ⟨D, 2, none⟩ = some (.int .i64 A) ∧ w'.cell? ⟨D, 3, none⟩ = some (.int .i64 B) := fun g w' h => by
    have hx := HRD.out.mod (RO.mod h) HDN.out
    exact ⟨(H0.out.pr.hP.mod (RO.mod h) HPN.out).cell (i := 0) rfl, hx.cell (i := 2) rfl, hx.cell (i := 3) rfl⟩
  refine Ph.wp_region_P (RO w0 (BM.At p bw ba) (.tuple #[.int .i64 (Bm.setV n W A B false : Nat), .int .i64 (Bm.rangeE n A B : Nat)]) (fun w' => BM w' p bw ba n (Bm.setR n W A B false))) (fun i => i == 8) 13 [0, 1, 2, 3, 4, 5, 6, 7, 8, 9, 10, 11, 12] (by kernel_rfl) (by kernel_rfl) (Below.drew (Below.refl _ _)) ?_
  (repeat (first | (refine Ph.wpP_pass rfl rfl rfl ?_; (try simp only [List.getElem_toArray, List.getElem_cons_succ, List.getElem_cons_zero, Act.put, List.setIfInBounds_toArray, List.set_cons_succ, List.set_cons_zero])) | (apply Ph.wpP_val rfl rfl rfl; (focus (intro t w1 hR; have hc := hcl _ _ hR; (try simp only [List.getElem_toArray, List.getElem_cons_succ, List.getElem_cons_zero]); (try go_simp); (try exact Eq.refl _); done)); (try simp only [List.getElem_toArray, List.getElem_cons_succ, List.getElem_cons_zero, Act.put, List.setIfInBounds_toArray, List.set_cons_succ, List.set_cons_zero])) | (apply Ph.wpP_val_want rfl rfl rfl; (focus (intro t w1 hR; have hc := hcl _ _ hR; (try simp only [List.getElem_toArray, List.getElem_cons_succ, List.getElem_cons_zero]); (try go_simp); (try exact Eq.refl _); done)); (try simp only [List.getElem_toArray, List.getElem_cons_succ, List.getElem_cons_zero, Act.put, List.setIfInBounds_toArray, List.set_cons_succ, List.set_cons_zero]))))
  (apply Ph.wpP_write_call rfl rfl rfl; (focus (intro w1 hR; have hc := hcl _ _ hR; (try simp only [List.getElem_toArray, List.getElem_cons_succ, List.getElem_cons_zero]); (try go_simp); (try exact And.intro rfl rfl); done)); (focus (intro w1 hR; exact (clearrange_u (H0.out.pr.hm.below hR) HAW.out HBW.out).mono fun e w' ⟨he, h1, h2⟩ => ⟨_, he, rfl, h1, (Mod.of_below hR).trans h2⟩)))
  rintro u w1 ⟨rfl, hR1⟩
  clear hR1
  (try simp only [List.getElem_toArray, List.getElem_cons_succ, List.getElem_cons_zero, Act.put, List.setIfInBounds_toArray, List.set_cons_succ, List.set_cons_zero])
  (repeat (first | (refine Ph.wpP_pass rfl rfl rfl ?_; (try simp only [List.getElem_toArray, List.getElem_cons_succ, List.getElem_cons_zero, Act.put, List.setIfInBounds_toArray, List.set_cons_succ, List.set_cons_zero])) | (apply Ph.wpP_val rfl rfl rfl; (focus (intro t w1 hR; have hc := hcl _ _ hR; (try simp only [List.getElem_toArray, List.getElem_cons_succ, List.getElem_cons_zero]); (try go_simp); (try exact Eq.refl _); done)); (try simp only [List.getElem_toArray, List.getElem_cons_succ, List.getElem_cons_zero, Act.put, List.setIfInBounds_toArray, List.set_cons_succ, List.set_cons_zero])) | (apply Ph.wpP_val_want rfl rfl rfl; (focus (intro t w1 hR; have hc := hcl _ _ hR; (try simp only [List.getElem_toArray, List.getElem_cons_succ, List.getElem_cons_zero]); (try go_simp); (try exact Eq.refl _); done)); (try simp only [List.getElem_toArray, List.getElem_cons_succ, List.getElem_cons_zero, Act.put, List.setIfInBounds_toArray, List.set_cons_succ, List.set_cons_zero]))))
  refine Ph.wpP_nil ?_
  rintro w2 ⟨_, hm2, hmd2⟩
  have hR2 : RM w2 r bb (Bm.bools n W) := H0.out.pr.hr.mod hmd2 (by obtain ⟨d1, d2, d3⟩ := H0.out.pr.dr; rintro (e | e | e) <;> contradiction) (by obtain ⟨d1, d2, d3⟩ := H0.out.pr.db; rintro (e | e | e) <;> contradiction)
  have HR2 := Lib.hid hR2
  have HM2 := Lib.hid hm2
  have HMD2 := Lib.hid hmd2
  have HRD2 := Lib.hid (HRD.out.mod hmd2 HDN.out)
  have HP2 := Lib.hid (H0.out.pr.hP.mod hmd2 HPN.out)
  clear hR2 hm2 hmd2 hcl cd0 ld lp
  go_upto_region 16 with fail
  have hcl : ∀ g w', RO w2 (fun k => k = bb) (.tuple #[.int .i64 (Bm.setV n W A B false : Nat), .int .i64 (Bm.rangeE n A B : Nat)]) (fun w' => RM w' r bb (Bm.bools n (Bm.setR n W A B false))) g w' → w'.cell? ⟨P, 1, none⟩ = some (.pointer (some ⟨r, 0, none⟩)) ∧ w'.cell? ⟨D, 2, none⟩ = some (.int .i64 A) ∧ w'.cell? ⟨D, 3, none⟩ = some (.int .i64 B) := fun g w' h => by
    have hx := HRD2.out.mod (RO.mod h) HDB.out
    exact ⟨(HP2.out.mod (RO.mod h) HPB.out).cell (i := 1) rfl, hx.cell (i := 2) rfl, hx.cell (i := 3) rfl⟩
  refine Ph.wp_region_P (RO w2 (fun k => k = bb) (.tuple #[.int .i64 (Bm.setV n W A B false : Nat), .int .i64 (Bm.rangeE n A B : Nat)]) (fun w' => RM w' r bb (Bm.bools n (Bm.setR n W A B false)))) (fun i => i == 8) 13 [0, 1, 2, 3, 4, 5, 6, 7, 8, 9, 10, 11, 12] (by kernel_rfl) (by kernel_rfl) (Below.drew (Below.refl _ _)) ?_
  (repeat (first | (refine Ph.wpP_pass rfl rfl rfl ?_; (try simp only [List.getElem_toArray, List.getElem_cons_succ, List.getElem_cons_zero, Act.put, List.setIfInBounds_toArray, List.set_cons_succ, List.set_cons_zero])) | (apply Ph.wpP_val rfl rfl rfl; (focus (intro t w1 hR; have hc := hcl _ _ hR; (try simp only [List.getElem_toArray, List.getElem_cons_succ, List.getElem_cons_zero]); (try go_simp); (try exact Eq.refl _); done)); (try simp only [List.getElem_toArray, List.getElem_cons_succ, List.getElem_cons_zero, Act.put, List.setIfInBounds_toArray, List.set_cons_succ, List.set_cons_zero])) | (apply Ph.wpP_val_want rfl rfl rfl; (focus (intro t w1 hR; have hc := hcl _ _ hR; (try simp only [List.getElem_toArray, List.getElem_cons_succ, List.getElem_cons_zero]); (try go_simp); (try exact Eq.refl _); done)); (try simp only [List.getElem_toArray, List.getElem_cons_succ, List.getElem_cons_zero, Act.put, List.setIfInBounds_toArray, List.set_cons_succ, List.set_cons_zero]))))
  (apply Ph.wpP_write_call rfl rfl rfl; (focus (intro w1 hR; have hc := hcl _ _ hR; (try simp only [List.getElem_toArray, List.getElem_cons_succ, List.getElem_cons_zero]); (try go_simp); (try exact And.intro rfl rfl); done)); (focus (intro w1 hR; exact (rputrange_u H0.out.pr.hm.ok (HR2.out.below hR) HAW.out HBW.out false).mono fun e w' ⟨he, h1, h2⟩ => ⟨_, he, rfl, h1, (Mod.of_below hR).trans h2⟩)))
  rintro u w1 ⟨rfl, hR1⟩
  clear hR1
  (try simp only [List.getElem_toArray, List.getElem_cons_succ, List.getElem_cons_zero, Act.put, List.setIfInBounds_toArray, List.set_cons_succ, List.set_cons_zero])
  (repeat (first | (refine Ph.wpP_pass rfl rfl rfl ?_; (try simp only [List.getElem_toArray, List.getElem_cons_succ, List.getElem_cons_zero, Act.put, List.setIfInBounds_toArray, List.set_cons_succ, List.set_cons_zero])) | (apply Ph.wpP_val rfl rfl rfl; (focus (intro t w1 hR; have hc := hcl _ _ hR; (try simp only [List.getElem_toArray, List.getElem_cons_succ, List.getElem_cons_zero]); (try go_simp); (try exact Eq.refl _); done)); (try simp only [List.getElem_toArray, List.getElem_cons_succ, List.getElem_cons_zero, Act.put, List.setIfInBounds_toArray, List.set_cons_succ, List.set_cons_zero])) | (apply Ph.wpP_val_want rfl rfl rfl; (focus (intro t w1 hR; have hc := hcl _ _ hR; (try simp only [List.getElem_toArray, List.getElem_cons_succ, List.getElem_cons_zero]); (try go_simp); (try exact Eq.refl _); done)); (try simp only [List.getElem_toArray, List.getElem_cons_succ, List.getElem_cons_zero, Act.put, List.setIfInBounds_toArray, List.set_cons_succ, List.set_cons_zero]))))
  refine Ph.wpP_nil ?_
  rintro w4 ⟨_, hr4, hmd4⟩
  clear hcl
  go_wp2_with fail
  go_ret
  obtain ⟨g1, g2⟩ := HH.out.chg HB0.out HM2.out HMD2.out (Below.refl _ _) hr4 hmd4
  exact ⟨rfl, _, g1, g2⟩
theorem chg_clearrange {w : World} {P p bw ba r bb b n N : Nat} {W : List UInt64} {own : Nat → Prop} {late : Bool} (h : PrB w P p bw ba r bb b n W own late N) (s2 wv bf ac ag : Value) {A B : Int} (hA : (Lit.int .i64 A).wf = true) (hB : (Lit.int .i64 B).wf = true) :
    Calls Tryd.prog 81 #[.pointer (some ⟨P, 0, none⟩), .agg #[.int .i64 4, s2, .int .i64 A, .int .i64 B, wv, bf, ac, ag]] w (ChgP w P p bw ba r bb b n N own late) := (chq_clearrange h s2 wv bf ac ag hA hB).mono fun _ _ h => h.chg
end Go.Proofs.YtckbckdaffdjmaaDoor

/- change: Merge; the kinds that are no change. -/
namespace Go.Proofs.YtckbckdaffdjmaaDoor
open Go.RowKit
set_option maxRecDepth 100000
set_option linter.unusedVariables false
set_option linter.unusedSimpArgs false

theorem pr_of_bm {P p bw ba r bb k : Nat} (h : BM.At p bw ba k) : Pr.At P p bw ba r bb k := by
  rcases h with h | h | h
  · exact .inr (.inl h)
  · exact .inr (.inr (.inl h))
  · exact .inr (.inr (.inr (.inl h)))
set_option maxHeartbeats 8000000 in
theorem chg_merge {w : World} {P p bw ba r bb b n N : Nat} {W : List UInt64} {own : Nat → Prop} {late : Bool} (hK : KeepC late) (hN : N + 2 ≤ 5864062014805) (h : PrB w P p bw ba r bb b n W own late N) (s2 bf ac ag : Value) (A B : Int) {wv : Value} {V : List UInt64} (hv : RU w wv V) (hl : V.length ≤ 17592186043904)
    (hne : V ≠ [] → ∀ g, wv.ownBlock = some g → ¬ Pr.At P p bw ba r bb g) :
    Calls Tryd.prog 81 #[.pointer (some ⟨P, 0, none⟩), .agg #[.int .i64 5, s2, .int .i64 A, .int .i64 B, wv, bf, ac, ag]] w (ChgP w P p bw ba r bb b n N own late) := by
  obtain ⟨w0, D, hw0, hD, hrd, hb0⟩ := boxedOp w [.int .i64 5, s2, .int .i64 A, .int .i64 B, wv, bf, ac, ag]
  have HH := Lib.hid h
  have h0 := h.below hb0
  have H0 := Lib.hid h0
  have HB0 := Lib.hid hb0
  have HK := Lib.hid hK
  have HN := Lib.hid hN
  have HL := Lib.hid hl
  have HNE := Lib.hid hne
  have HV := Lib.hid (hv.below hb0)
  have cd0 := hrd.cell (i := 0) rfl
  have cd4 := hrd.cell (i := 4) rfl
  have cp0 := h0.pr.hP.cell (i := 0) rfl
  have ld := heap_lt hrd
  have lp := heap_lt h0.pr.hP
  have HRD := Lib.hid hrd
  have HDN : Hid (¬ BM.At p bw ba D) := Lib.hid (by have h1 := h.pr.lt p (.inr (.inl rfl)); have h2 := h.pr.lt bw (.inr (.inr (.inl rfl))); have h3 := h.pr.lt ba (.inr (.inr (.inr (.inl rfl)))); rintro (e | e | e) <;> omega)
  have HDB : Hid (¬ D = bb) := Lib.hid (by have h1 := h.pr.lt bb (.inr (.inr (.inr (.inr (.inr rfl))))); omega)
  have HPN : Hid (¬ BM.At p bw ba P) := Lib.hid (by obtain ⟨d1, d2, d3, d4, d5⟩ := h.pr.dP; rintro (e | e | e) <;> contradiction)
  have HPB : Hid (¬ P = bb) := Lib.hid h.pr.dP.2.2.2.2
  go_enter Tryd.func81, Tryd.ntmps81
  go_upto_region 1 with fail
  rw [← hw0, ← hD]
  clear h hrd hw0 hD h0 hb0 hK hN hl hv hne
  go_upto_region 21 with (first
    | (go_at_call 19
       refine (copied_calls HV.out (by have := HL.out; omega)).mono ?_
       rintro e w1 ⟨v1, rfl, hc1, hb1⟩
       have h1 := H0.out.below hb1
       have cq0 := h1.pr.hP.cell (i := 0) rfl
       have HC1 := Lib.hid hc1
       have H1 := Lib.hid h1
       have HB1 := Lib.hid hb1
       have hcon := merge_u h1.pr.hm (hc1.ru (by have := HL.out; omega)) (fun g e e' => by
         have h3 := ((hc1.ou (by have := HL.out; omega)).lt g e).1
         have h4 := HB0.out.size
         have h5 := HH.out.pr.lt g (pr_of_bm e')
         omega)
       have HCON := Lib.hid hcon
       clear hc1 h1 hb1 hcon)
    | (go_at_call 43
       refine HCON.out.mono ?_
       clear HCON
       rintro e w2 ⟨rfl, hm2, hmd2⟩
       have HM2 := Lib.hid hm2
       have HMD2 := Lib.hid hmd2
       clear hm2 hmd2)
    | fail)
  have hat : ∀ k, BM.At p bw ba k → Pr.At P p bw ba r bb k := fun k e' => pr_of_bm e'
  have hR2 : RM w2 r bb (Bm.bools n W) := H1.out.pr.hr.mod HMD2.out (by obtain ⟨d1, d2, d3⟩ := H0.out.pr.dr; rintro (e | e | e) <;> contradiction) (by obtain ⟨d1, d2, d3⟩ := H0.out.pr.db; rintro (e | e | e) <;> contradiction)
  have HR2 := Lib.hid hR2
  have HV2 : Hid (RU w2 wv V) := Lib.hid ((HV.out.below HB1.out).mod HMD2.out fun hl g e e' => HNE.out hl g e (hat g e'))
  have HRD2 := Lib.hid ((HRD.out.below HB1.out).mod HMD2.out HDN.out)
  have HP2 := Lib.hid (H1.out.pr.hP.mod HMD2.out HPN.out)
  clear hR2 hat cd0 cd4 cp0 cq0 ld lp
  have hcl : ∀ g w', RO w2 (fun k => k = bb) (.tuple #[.int .i64 (Bm.merV n W V : Nat), .int .i64 (Bm.validE n V : Nat)]) (fun w' => RM w' r bb (Bm.bools n (Bm.merW n W V))) g w' → w'.cell? ⟨P, 1, none⟩ = some (.pointer (some ⟨r, 0, none⟩)) ∧ w'.cell? ⟨D, 4, none⟩ = some wv := fun g w' h => by
    have hx := HRD2.out.mod (RO.mod h) HDB.out
    exact ⟨(HP2.out.mod (RO.mod h) HPB.out).cell (i := 1) rfl, hx.cell (i := 4) rfl⟩
  refine Ph.wp_region_P (RO w2 (fun k => k = bb) (.tuple #[.int .i64 (Bm.merV n W V : Nat), .int .i64 (Bm.validE n V : Nat)]) (fun w' => RM w' r bb (Bm.bools n (Bm.merW n W V)))) (fun i => i == 6) 11 [0, 1, 2, 3, 4, 5, 6, 7, 8, 9, 10] (by kernel_rfl) (by kernel_rfl) (Below.drew (Below.refl _ _)) ?_
  (repeat (first | (refine Ph.wpP_pass rfl rfl rfl ?_; (try simp only [List.getElem_toArray, List.getElem_cons_succ, List.getElem_cons_zero, Act.put, List.setIfInBounds_toArray, List.set_cons_succ, List.set_cons_zero])) | (apply Ph.wpP_val rfl rfl rfl; (focus (intro t w1 hR; have hc := hcl _ _ hR; (try simp only [List.getElem_toArray, List.getElem_cons_succ, List.getElem_cons_zero]); (try go_simp); (try exact Eq.refl _); done)); (try simp only [List.getElem_toArray, List.getElem_cons_succ, List.getElem_cons_zero, Act.put, List.setIfInBounds_toArray, List.set_cons_succ, List.set_cons_zero])) | (apply Ph.wpP_val_want rfl rfl rfl; (focus (intro t w1 hR; have hc := hcl _ _ hR; (try simp only [List.getElem_toArray, List.getElem_cons_succ, List.getElem_cons_zero]); (try go_simp); (try exact Eq.refl _); done)); (try simp only [List.getElem_toArray, List.getElem_cons_succ, List.getElem_cons_zero, Act.put, List.setIfInBounds_toArray, List.set_cons_succ, List.set_cons_zero]))))
  (apply Ph.wpP_write_call rfl rfl rfl; (focus (intro w1 hR; have hc := hcl _ _ hR; (try simp only [List.getElem_toArray, List.getElem_cons_succ, List.getElem_cons_zero]); (try go_simp); (try exact And.intro rfl rfl); done)); (focus (intro w1 hR; exact (rmerge_u H0.out.pr.hm.ok (HR2.out.below hR) (HV2.out.below hR)).mono fun e w' ⟨he, h1, h2⟩ => ⟨_, he, rfl, h1, (Mod.of_below hR).trans h2⟩)))
  rintro u w1' ⟨rfl, hR1⟩
  clear hR1
  (try simp only [List.getElem_toArray, List.getElem_cons_succ, List.getElem_cons_zero, Act.put, List.setIfInBounds_toArray, List.set_cons_succ, List.set_cons_zero])
  (repeat (first | (refine Ph.wpP_pass rfl rfl rfl ?_; (try simp only [List.getElem_toArray, List.getElem_cons_succ, List.getElem_cons_zero, Act.put, List.setIfInBounds_toArray, List.set_cons_succ, List.set_cons_zero])) | (apply Ph.wpP_val rfl rfl rfl; (focus (intro t w1 hR; have hc := hcl _ _ hR; (try simp only [List.getElem_toArray, List.getElem_cons_succ, List.getElem_cons_zero]); (try go_simp); (try exact Eq.refl _); done)); (try simp only [List.getElem_toArray, List.getElem_cons_succ, List.getElem_cons_zero, Act.put, List.setIfInBounds_toArray, List.set_cons_succ, List.set_cons_zero])) | (apply Ph.wpP_val_want rfl rfl rfl; (focus (intro t w1 hR; have hc := hcl _ _ hR; (try simp only [List.getElem_toArray, List.getElem_cons_succ, List.getElem_cons_zero]); (try go_simp); (try exact Eq.refl _); done)); (try simp only [List.getElem_toArray, List.getElem_cons_succ, List.getElem_cons_zero, Act.put, List.setIfInBounds_toArray, List.set_cons_succ, List.set_cons_zero]))))
  refine Ph.wpP_nil ?_
  rintro w4 ⟨_, hr4, hmd4⟩
  clear hcl
  have HG := Lib.hid (HH.out.chg' (HB0.out.trans (HB1.out.mono HB0.out.size)) HM2.out HMD2.out (Below.refl _ _) hr4 hmd4)
  have hd4 := HRD2.out.mod hmd4 HDB.out
  have cd4 := hd4.cell (i := 4) rfl
  have cp2 := HG.out.1.pr.hP.cell (i := 2) rfl
  have ld := heap_lt hd4
  have lp := heap_lt HG.out.1.pr.hP
  have HC4 : Hid (Cop w0.heap.size w4 wv v1 V) := Lib.hid ((HC1.out.mod HMD2.out fun g e e' => by
    have h3 := ((HC1.out.ou (by have := HL.out; omega)).lt g e).1
    have h4 := HB0.out.size
    have h5 := HH.out.pr.lt g (pr_of_bm e')
    omega).mod hmd4 fun g e e' => by
    have h3 := ((HC1.out.ou (by have := HL.out; omega)).lt g e).1
    have h4 := HB0.out.size
    have h5 := HH.out.pr.lt g (.inr (.inr (.inr (.inr (.inr e')))))
    omega)
  have HV4 : Hid (RU w4 wv V) := Lib.hid (HV2.out.mod hmd4 fun hl g e e' => HNE.out hl g e (.inr (.inr (.inr (.inr (.inr e'))))))
  have hint := intact_calls HC4.out HV4.out (by have := HL.out; omega)
  have HINT := Lib.hid hint
  clear hr4 hmd4 hd4 hint HRD2 HP2 HR2
  go_wp2_with (first
    | (go_at_call 25
       refine HINT.out.out.mono ?_
       clear HINT
       rintro e w5 ⟨rfl, hb5⟩
       have h5 := HG.out.1.below hb5
       have cr2 := h5.pr.hP.cell (i := 2) rfl
       have H5 := Lib.hid h5
       have HB5 := Lib.hid hb5
       clear hb5 h5)
    | (go_at_call 23
       have hO := (HC4.out.ou (by have := HL.out; omega)).below HB5.out
       refine (HK.out.run H5.out.bk (hO.more (Nat.zero_le _)) (by have := HL.out; omega) (fun g e e' => by have h1 := (hO.lt g e).1; have h2 := HH.out.bk.lt g e'; have h3 := HB0.out.size; omega) HN.out).mono ?_
       rintro e w6 ⟨rfl, own', hbok, hlow, hm⟩
       have HO := Lib.hid hO
       have HBOK := Lib.hid hbok
       have HLOW := Lib.hid hlow
       have HM := Lib.hid hm
       clear hO hbok hlow hm)
    | fail)
  go_ret
  have hs0 := HB0.out.size
  have hs4 := HG.out.2.size
  have hs5 := HB5.out.size
  have hlt := fun g e => (HO.out.lt g e).1
  have hlow : ∀ k, k < w.heap.size → (own' k ↔ own k) := fun k hk => (HLOW.out k (by omega)).trans ⟨fun e => e.elim id fun e => by have := hlt k e; omega, .inl⟩
  have hat : ∀ k, Pr.At P p bw ba r bb k → ¬ (own k ∨ v1.ownBlock = some k) := fun k e e' => e'.elim (HH.out.no k e) fun e' => by have := hlt k e'; have := HH.out.pr.lt k e; omega
  exact ⟨rfl, own', _, ⟨H5.out.pr.mod HM.out hat, HBOK.out, fun k e e' => HH.out.no k e ((hlow k (HH.out.pr.lt k e)).1 e')⟩, hlow,
    (HG.out.2.onB HB5.out).on HM.out (fun k e => e.elim (fun e => .inl (.inl e)) fun e => .inr (by have := hlt k e; omega))⟩
set_option maxHeartbeats 8000000 in
theorem chq_none {w : World} {P p bw ba r bb b n N : Nat} {W : List UInt64} {own : Nat → Prop} {late : Bool} (h : PrB w P p bw ba r bb b n W own late N) (s2 wv bf ac ag A B : Value) {k : Int} (hk1 : k ≠ 1) (hk2 : k ≠ 2) (hk3 : k ≠ 3) (hk4 : k ≠ 4) (hk5 : k ≠ 5) :
    Calls Tryd.prog 81 #[.pointer (some ⟨P, 0, none⟩), .agg #[.int .i64 k, s2, A, B, wv, bf, ac, ag]] w (ChgQ w P p bw ba r bb b n N own late) := by
  obtain ⟨w0, D, hw0, hD, hrd, hb0⟩ := boxedOp w [.int .i64 k, s2, A, B, wv, bf, ac, ag]
  have HH := Lib.hid h
  have HB0 := Lib.hid hb0
  have cd0 := hrd.cell (i := 0) rfl
  go_enter Tryd.func81, Tryd.ntmps81
  go_upto_region 1 with fail
  rw [← hw0, ← hD]
  clear h hrd hw0 hD hb0
  go_wp2_with fail
  go_ret
  exact ⟨rfl, W, HH.out.below HB0.out, Mod.of_below HB0.out⟩
theorem chg_none {w : World} {P p bw ba r bb b n N : Nat} {W : List UInt64} {own : Nat → Prop} {late : Bool} (h : PrB w P p bw ba r bb b n W own late N) (s2 wv bf ac ag A B : Value) {k : Int} (hk1 : k ≠ 1) (hk2 : k ≠ 2) (hk3 : k ≠ 3) (hk4 : k ≠ 4) (hk5 : k ≠ 5) :
    Calls Tryd.prog 81 #[.pointer (some ⟨P, 0, none⟩), .agg #[.int .i64 k, s2, A, B, wv, bf, ac, ag]] w (ChgP w P p bw ba r bb b n N own late) := (chq_none h s2 wv bf ac ag A B hk1 hk2 hk3 hk4 hk5).mono fun _ _ h => h.chg
end Go.Proofs.YtckbckdaffdjmaaDoor

/- The iterator over All: it reads what the body writes. -/
namespace Go.Proofs.YtckbckdaffdjmaaDoor
open Go.RowKit
attribute [local go_sem] Oper.semAt_some
set_option maxRecDepth 100000
set_option linter.unusedVariables false
set_option linter.unusedSimpArgs false

namespace Al
/-- What the iterator may read: the bitmap as it is now, its own box, the table. -/
structure Inv (p bw ba n C : Nat) (s : List UInt64 × Nat) (A : World) : Prop where
  bm : BM A p bw ba n s.1
  box : Rw A C 32 [.pointer (some ⟨p, 0, none⟩)]
  tz : Tz A
def T (X Y : World) : Prop := Below X.heap.size X Y
def enc (x : Nat) : Array Value := #[.int .i64 x]
def Rd (n : Nat) (s : List UInt64 × Nat) (x : Nat) : Prop := Bm.IsFind (Bm.bit s.1) n s.2 (x : Int)
def St (s : List UInt64 × Nat) (x : Nat) (s' : List UInt64 × Nat) : Prop := s'.2 = x + 1
def Fin (n : Nat) (s : List UInt64 × Nat) : Prop := Bm.IsFind (Bm.bit s.1) n s.2 (-1)
end Al
set_option maxHeartbeats 4000000 in
theorem all_iter {W0 : World} {p bw ba n C : Nat} {V : List UInt64} (hn : n ≤ 65536) :
    IterC Tryd.prog 99 #[.pointer (some ⟨C, 0, none⟩)] Al.enc Al.T (fun _ _ => True) (Al.Rd n) Al.St (Al.Fin n) (Al.Inv p bw ba n C) (V, 0) W0 := by
  constructor
  intro l J Jx W hW hJ hJx hIv hY h0
  have hi0 := hIv _ _ h0
  have c0 := hi0.box.cell (i := 0) rfl
  have hnx := next_calls hi0.bm hi0.tz (from_ := 0) (by decide)
  have HNX := Lib.hid hnx
  have HJ := Lib.hid hJ
  have HJX := Lib.hid hJx
  have HIV := Lib.hid hIv
  have HY := Lib.hid hY
  have H0 := Lib.hid h0
  have HN := Lib.hid hn
  clear hJ hJx hIv hY h0 hi0 hnx hn
  (refine callsIn_of_wp Tryd.func99 rfl trivial ?_ rfl; simp only [Tryd.ntmps99, List.size_toArray, List.length_cons, List.length_nil, Nat.reduceAdd, Nat.reduceSub, Array.replicate_succ, Array.replicate_zero, List.push_toArray, List.append_toArray, List.nil_append, List.cons_append])
  gi_wp2_with (first
    | (refine ⟨trivial, rfl, ?_⟩
       gi_at_call 31
       refine callsIn_wide.2 (HNX.out.out.mono ?_)
       clear HNX
       rintro e w1 ⟨rfl, hb1⟩
       have HJ1 := Lib.hid (HJ.out _ _ _ H0.out hb1)
       clear hb1)
    | fail)
  refine wpIn_loop_ghost (fun k a w' => ∃ s i, k = n + 1 - s.2 ∧ Is (fun U => ⟨#[.func (.yield l) #[] #[], .pointer (some ⟨C, 0, none⟩), U 2, .int .i64 i, U 4, U 5, U 6, U 7, U 8, U 9, U 10, U 11, U 12, U 13, U 14, U 15], []⟩) a ∧ Bm.IsFind (Bm.bit s.1) n s.2 i ∧ J s w') (n + 1) ⟨(V, 0), _, rfl, isU (fun U => ⟨#[.func (.yield l) #[] #[], .pointer (some ⟨C, 0, none⟩), U 2, .int .i64 (Bm.find (Bm.bit V) n 0), U 4, U 5, U 6, U 7, U 8, U 9, U 10, U 11, U 12, U 13, U 14, U 15], []⟩) rfl, Bm.find_is _ _ _, HJ1.out⟩ ?_
  clear HJ1 c0 H0
  rintro k a w1 ⟨s, i, rfl, hU, hf, hj⟩
  obtain ⟨U, rfl⟩ := hU.out
  have HJ1 := Lib.hid hj
  have HF := Lib.hid hf
  clear hU hj
  rcases hf with ⟨rfl, -⟩ | ⟨x, rfl, hx1, hx2, -, -⟩
  · gi_wp2_with fail
    go_end0
    exact ⟨⟨_, rfl⟩, .inl ⟨s, HJ1.out, HF.out⟩⟩
  · obtain ⟨fn, tmps, assign, body, hy, hR⟩ := HY.out s x w1 HJ1.out HF.out
    dsimp only [Al.enc] at hy
    have hx0 : (0 : Int) ≤ (x : Int) := Int.natCast_nonneg x
    have hx9 : (x : Int) < 65536 := by have := HN.out; omega
    have HX := Lib.hid (And.intro hx1 hx2)
    clear hx1 hx2
    gi_wp2_with fail
    refine ⟨rfl, hR.mono ?_⟩
    rintro e w2 (⟨rfl, ⟨s2, hs2, hj2⟩, -⟩ | ⟨rfl, hjx⟩)
    · have hi2 := HIV.out _ _ hj2
      have c2 := hi2.box.cell (i := 0) rfl
      have hnx := next_calls hi2.bm hi2.tz (from_ := (x : Int) + 1) (wf_nat (n := x + 1) (by omega))
      rw [show ((x : Int) + 1).toNat = s2.2 by rw [hs2]; omega] at hnx
      have HNX := Lib.hid hnx
      have HJ2 := Lib.hid hj2
      have HS2 : Hid (s2.2 = x + 1) := Lib.hid hs2
      clear hi2 hnx hj2 hs2 hR hy
      gi_wp2_with (first
        | (refine ⟨trivial, rfl, ?_⟩
           gi_at_call 31
           refine callsIn_wide.2 (HNX.out.out.mono ?_)
           clear HNX
           rintro e w3 ⟨rfl, hb3⟩
           have HJ3 := Lib.hid (HJ.out _ _ _ HJ2.out hb3)
           clear hb3)
        | fail)
      refine ⟨n + 1 - s2.2, by have := HS2.out; have := HX.out; omega, s2, _, rfl, isU (fun U => ⟨#[.func (.yield l) #[] #[], .pointer (some ⟨C, 0, none⟩), U 2, .int .i64 (Bm.find (Bm.bit s2.1) n s2.2), U 4, U 5, U 6, U 7, U 8, U 9, U 10, U 11, U 12, U 13, U 14, U 15], []⟩) rfl, Bm.find_is _ _ _, HJ3.out⟩
    · clear hR hy
      gi_wp2_with fail
      refine bodyPost_ret (results_none rfl _ _ _) rfl ?_
      exact ⟨⟨_, rfl⟩, .inr hjx⟩
set_option maxHeartbeats 4000000 in
theorem all_calls {w : World} {p : Nat} : Calls Tryd.prog 77 #[.pointer (some ⟨p, 0, none⟩)] w fun en w' => ∃ C, en = .returned (.func (.func 99) #[] #[.pointer (some ⟨C, 0, none⟩)]) ∧ w.heap.size ≤ C ∧ Rw w' C 32 [.pointer (some ⟨p, 0, none⟩)] ∧ Below w.heap.size w w' := by
  have h1 : Rw (w.alloc (.cells #[.pointer (some ⟨p, 0, none⟩)] 32)) w.heap.size 32 [.pointer (some ⟨p, 0, none⟩)] := heap_new _ _ _ rfl
  have H := Lib.hid (And.intro h1 (below_alloc1 w (.cells #[.pointer (some ⟨p, 0, none⟩)] 32)))
  clear h1
  go_enter Tryd.func77, Tryd.ntmps77
  go_wp2_with fail
  go_ret
  exact ⟨_, rfl, Nat.le_refl _, H.out.1, H.out.2⟩
end Go.Proofs.YtckbckdaffdjmaaDoor

/- The iterator over Runs: it reads what the body writes. -/
namespace Go.Proofs.YtckbckdaffdjmaaDoor
open Go.RowKit
attribute [local go_sem] Oper.semAt_some
set_option maxRecDepth 100000
set_option linter.unusedVariables false
set_option linter.unusedSimpArgs false

namespace Bm
/-- Where the run that begins at f ends. -/
def runE (W : List UInt64) (n f : Nat) : Nat := if find (fun t => !bit W t) n f < 0 then n else (find (fun t => !bit W t) n f).toNat
theorem runE_is {W : List UInt64} {n f : Nat} (hf : f < n) (hb : bit W f = true) : f < runE W n f ∧ runE W n f ≤ n ∧ (∀ t, f ≤ t → t < runE W n f → bit W t = true) ∧ (runE W n f < n → bit W (runE W n f) = false) ∧
    ((find (fun t => !bit W t) n f = -1 ∧ runE W n f = n) ∨ find (fun t => !bit W t) n f = (runE W n f : Nat)) := by
  have h := find_is (fun t => !bit W t) n f
  unfold runE
  rcases h with ⟨h1, h2⟩ | ⟨i, h1, h2, h3, h4, h5⟩
  · rw [h1, if_pos (by decide)]
    exact ⟨hf, Nat.le_refl _, fun t a c => by have := h2 t a c; simpa using this, fun e => absurd e (Nat.lt_irrefl _), .inl ⟨rfl, rfl⟩⟩
  · rw [h1, if_neg (by omega), Int.toNat_natCast]
    have hne : i ≠ f := fun e => by rw [e] at h4; simp [hb] at h4
    exact ⟨by omega, by omega, fun t a c => by have := h5 t a c; simpa using this, fun _ => by simpa using h4, .inr rfl⟩
end Bm
namespace Rn
def enc (x : Nat × Nat) : Array Value := #[.int .i64 x.1, .int .i64 x.2]
def Rd (n : Nat) (s : List UInt64 × Nat) (x : Nat × Nat) : Prop := Bm.IsFind (Bm.bit s.1) n s.2 (x.1 : Nat) ∧ x.1 + x.2 = Bm.runE s.1 n x.1
def St (s : List UInt64 × Nat) (x : Nat × Nat) (s' : List UInt64 × Nat) : Prop := s'.2 = x.1 + x.2
end Rn
set_option maxHeartbeats 4000000 in
theorem runs_iter {W0 : World} {p bw ba n C : Nat} {V : List UInt64} (hn : n ≤ 65536) :
    IterC Tryd.prog 73 #[.pointer (some ⟨C, 0, none⟩)] Rn.enc Al.T (fun _ _ => True) (Rn.Rd n) Rn.St (Al.Fin n) (Al.Inv p bw ba n C) (V, 0) W0 := by
  constructor
  intro l J Jx W hW hJ hJx hIv hY h0
  have hi0 := hIv _ _ h0
  have c0 := hi0.box.cell (i := 0) rfl
  have hnx := next_calls hi0.bm hi0.tz (from_ := 0) (by decide)
  have HNX := Lib.hid hnx
  have HJ := Lib.hid hJ
  have HJX := Lib.hid hJx
  have HIV := Lib.hid hIv
  have HY := Lib.hid hY
  have H0 := Lib.hid h0
  have HN := Lib.hid hn
  clear hJ hJx hIv hY h0 hi0 hnx hn
  (refine callsIn_of_wp Tryd.func73 rfl trivial ?_ rfl; simp only [Tryd.ntmps73, List.size_toArray, List.length_cons, List.length_nil, Nat.reduceAdd, Nat.reduceSub, Array.replicate_succ, Array.replicate_zero, List.push_toArray, List.append_toArray, List.nil_append, List.cons_append])
  gi_wp2_with (first
    | (refine ⟨trivial, rfl, ?_⟩
       gi_at_call 31
       refine callsIn_wide.2 (HNX.out.out.mono ?_)
       clear HNX
       rintro e w1 ⟨rfl, hb1⟩
       have HJ1 := Lib.hid (HJ.out _ _ _ H0.out hb1)
       clear hb1)
    | fail)
  refine wpIn_loop_ghost (fun k a w' => ∃ s i, k = n + 1 - s.2 ∧ Is (fun U => ⟨#[.func (.yield l) #[] #[], .pointer (some ⟨C, 0, none⟩), U 2, .int .i64 i, U 4, U 5, U 6, U 7, U 8, U 9, U 10, U 11, U 12, U 13, U 14, U 15, U 16, U 17, U 18, U 19, U 20, U 21, U 22, U 23, U 24, U 25, U 26, U 27], []⟩) a ∧ Bm.IsFind (Bm.bit s.1) n s.2 i ∧ J s w') (n + 1) ⟨(V, 0), _, rfl, isU (fun U => ⟨#[.func (.yield l) #[] #[], .pointer (some ⟨C, 0, none⟩), U 2, .int .i64 (Bm.find (Bm.bit V) n 0), U 4, U 5, U 6, U 7, U 8, U 9, U 10, U 11, U 12, U 13, U 14, U 15, U 16, U 17, U 18, U 19, U 20, U 21, U 22, U 23, U 24, U 25, U 26, U 27], []⟩) rfl, Bm.find_is _ _ _, HJ1.out⟩ ?_
  clear HJ1 c0 H0
  rintro k a w1 ⟨s, i, rfl, hU, hf, hj⟩
  obtain ⟨U, rfl⟩ := hU.out
  have HJ1 := Lib.hid hj
  have HF := Lib.hid hf
  clear hU
  rcases hf with ⟨rfl, -⟩ | ⟨f, rfl, hx1, hx2, hx3, -⟩
  · clear hj
    gi_wp2_with fail
    go_end0
    exact ⟨⟨_, rfl⟩, .inl ⟨s, HJ1.out, HF.out⟩⟩
  · have hi1 := HIV.out _ _ hj
    have hnc := nextclear_calls hi1.bm hi1.tz (from_ := (f : Int)) (wf_nat (n := f) (by have := HN.out; omega))
    rw [Int.toNat_natCast] at hnc
    obtain ⟨hr1, hr2, hr3, hr4, hr5⟩ := Bm.runE_is (W := s.1) hx2 hx3
    obtain ⟨E, hE⟩ : ∃ E, E = Bm.runE s.1 n f := ⟨_, rfl⟩
    rw [← hE] at hr1 hr2 hr5
    obtain ⟨v, hv⟩ : ∃ v, v = Bm.find (fun t => !Bm.bit s.1 t) n f := ⟨_, rfl⟩
    rw [← hv] at hnc hr5
    have c1 := hi1.box.cell (i := 0) rfl
    have cn := hi1.bm.hs.cell (i := 0) rfl
    have lC := heap_lt hi1.box
    have lp := heap_lt hi1.bm.hs
    have hyy := fun w3 (h3 : Below w1.heap.size w1 w3) => HY.out s (f, E - f) w3 (HJ.out _ _ _ hj h3) ⟨HF.out, by show f + (E - f) = _; rw [← hE]; omega⟩
    have HYY := Lib.hid hyy
    have HNC := Lib.hid hnc
    have hf0 : (0 : Int) ≤ (f : Int) := Int.natCast_nonneg f
    have hn9 : (n : Int) ≤ 65536 := by have := HN.out; omega
    have hfE : (f : Int) < (E : Int) := by omega
    have hEn : (E : Int) ≤ (n : Int) := by omega
    have HX := Lib.hid (And.intro hx1 (And.intro hr1 hr2))
    clear hj hi1 hnc hr1 hr2 hr3 hr4 hE hv hyy hx1 hx2 hx3
    rcases hr5 with ⟨rfl, hEn'⟩ | rfl
    all_goals
      try (rw [show (n : Int) = (E : Int) by omega] at cn; clear hEn')
      gi_upto_region 3 with (first
        | (refine ⟨trivial, rfl, ?_⟩
           gi_at_call 35
           refine callsIn_wide.2 (HNC.out.out.mono ?_)
           clear HNC
           rintro e w3 ⟨rfl, hb3⟩
           have d1 := ((bcell hb3).1 C 0 lC).trans c1
           have dn := ((bcell hb3).1 p 0 lp).trans cn
           have HB3 := Lib.hid hb3
           clear hb3)
        | fail)
      obtain ⟨fn, tmps, assign, body, hy, hR⟩ := HYY.out w3 HB3.out
      dsimp only [Rn.enc] at hy
      rw [show ((E - f : Nat) : Int) = (E : Int) - (f : Int) by omega] at hy
      clear c1 cn
      gi_wp2_with fail
      refine ⟨rfl, hR.mono ?_⟩
      rintro e w2 (⟨rfl, ⟨s2, hs2, hj2⟩, -⟩ | ⟨rfl, hjx⟩)
      · have hi2 := HIV.out _ _ hj2
        have c2 := hi2.box.cell (i := 0) rfl
        have hnx := next_calls hi2.bm hi2.tz (from_ := (E : Int)) (wf_nat (n := E) (by omega))
        have hs3 : s2.2 = E := by have h1 : s2.2 = f + (E - f) := hs2; have := HX.out; omega
        rw [Int.toNat_natCast, ← hs3] at hnx
        have HNX := Lib.hid hnx
        have HJ2 := Lib.hid hj2
        have HS2 := Lib.hid hs3
        rw [hs3] at HNX
        clear hi2 hnx hj2 hs2 hs3 hR hy
        gi_wp2_with (first
          | (refine ⟨trivial, rfl, ?_⟩
             gi_at_call 31
             refine callsIn_wide.2 (HNX.out.out.mono ?_)
             clear HNX
             rintro e w5 ⟨rfl, hb5⟩
             have HJ5 := Lib.hid (HJ.out _ _ _ HJ2.out hb5)
             clear hb5)
          | fail)
        refine ⟨n + 1 - s2.2, by have := HS2.out; have := HX.out; omega, s2, _, rfl, isU (fun U => ⟨#[.func (.yield l) #[] #[], .pointer (some ⟨C, 0, none⟩), U 2, .int .i64 (Bm.find (Bm.bit s2.1) n E), U 4, U 5, U 6, U 7, U 8, U 9, U 10, U 11, U 12, U 13, U 14, U 15, U 16, U 17, U 18, U 19, U 20, U 21, U 22, U 23, U 24, U 25, U 26, U 27], []⟩) rfl, ?_, HJ5.out⟩
        rw [HS2.out]
        exact Bm.find_is _ _ _
      · clear hR hy
        gi_wp2_with fail
        refine bodyPost_ret (results_none rfl _ _ _) rfl ?_
        exact ⟨⟨_, rfl⟩, .inr hjx⟩
set_option maxHeartbeats 4000000 in
theorem runs_calls {w : World} {p : Nat} : Calls Tryd.prog 38 #[.pointer (some ⟨p, 0, none⟩)] w fun en w' => ∃ C, en = .returned (.func (.func 73) #[] #[.pointer (some ⟨C, 0, none⟩)]) ∧ w.heap.size ≤ C ∧ Rw w' C 32 [.pointer (some ⟨p, 0, none⟩)] ∧ Below w.heap.size w w' := by
  have h1 : Rw (w.alloc (.cells #[.pointer (some ⟨p, 0, none⟩)] 32)) w.heap.size 32 [.pointer (some ⟨p, 0, none⟩)] := heap_new _ _ _ rfl
  have H := Lib.hid (And.intro h1 (below_alloc1 w (.cells #[.pointer (some ⟨p, 0, none⟩)] 32)))
  clear h1
  go_enter Tryd.func38, Tryd.ntmps38
  go_wp2_with fail
  go_ret
  exact ⟨_, rfl, Nat.le_refl _, H.out.1, H.out.2⟩
end Go.Proofs.YtckbckdaffdjmaaDoor

/- The Book asked: sameWords at any lists; kept. -/
namespace Go.Proofs.YtckbckdaffdjmaaDoor
open Go.RowKit
set_option maxRecDepth 100000
set_option linter.unusedVariables false
set_option linter.unusedSimpArgs false

set_option maxHeartbeats 4000000 in
theorem sameWords_any {w : World} {va vb : Value} {l l' : List UInt64} (h : RU w va l) (h' : RU w vb l') : Pur Tryd.prog 22 #[va, vb] w (.bool (decide (l = l'))) := by
  by_cases hll : l.length = l'.length
  · unfold Pur
    obtain ⟨p, c, rfl, h1, h2, h3, hr⟩ := h
    obtain ⟨p', c', rfl, h1', h2', h3', hr'⟩ := h'
    rw [← hll] at h1' h3' ⊢
    go_enter Tryd.func22, Tryd.ntmps22
    go_wp2_with fail
    refine wp_loop_count (fun i a w' => (∃ U : Nat → Value, a = ⟨#[.slice p l.length c, .slice p' l.length c', U 2, U 3, .bool false, .int .i64 i, U 6, U 7, U 8, U 9, U 10, U 11, U 12, U 13, U 14, U 15, U 16, U 17, U 18, U 19, U 20, U 21, U 22, U 23, U 24, U 25], []⟩) ∧ (∀ j, j < i → l[j]? = l'[j]?) ∧ Below w.heap.size w w') l.length ⟨exU (fun U => ⟨#[.slice p l.length c, .slice p' l.length c', U 2, U 3, .bool false, .int .i64 0, U 6, U 7, U 8, U 9, U 10, U 11, U 12, U 13, U 14, U 15, U 16, U 17, U 18, U 19, U 20, U 21, U 22, U 23, U 24, U 25], []⟩) rfl, fun _ h => absurd h (Nat.not_lt_zero _), Below.refl _ _⟩ ?_ ?_
    · rintro i a w' hi ⟨⟨U, rfl⟩, hsame, hb⟩
      obtain ⟨b, hlb⟩ : ∃ b, l[i]? = some b := ⟨l[i], List.getElem?_eq_getElem hi⟩
      obtain ⟨b', hlb'⟩ : ∃ b, l'[i]? = some b := ⟨l'[i]'(by omega), List.getElem?_eq_getElem (by omega)⟩
      obtain ⟨g, o, rfl, hg, hcell⟩ := hr i b hlb
      obtain ⟨g', o', rfl, hg', hcell'⟩ := hr' i b' hlb'
      have hgw : g < w'.heap.size := Nat.lt_of_lt_of_le hg hb.size
      have hgw' : g' < w'.heap.size := Nat.lt_of_lt_of_le hg' hb.size
      replace hcell := ((bcell hb).1 g (o + i) hg).trans hcell
      replace hcell' := ((bcell hb).1 g' (o' + i) hg').trans hcell'
      have hi' : (i : Int) < (l.length : Int) := by exact_mod_cast hi
      have hi0 : (0 : Int) ≤ (i : Int) := Int.natCast_nonneg i
      have HS := Lib.hid hsame
      have HLB := Lib.hid hlb
      have HLB' := Lib.hid hlb'
      clear hr hr' hlb hlb' hsame hll
      go_wp2_with fail
      refine wp_region_here (by kernel_rfl) (by kernel_rfl) ?_
      by_cases hbb : b = b'
      · subst hbb
        (repeat (first | (apply wpR_pass rfl; (try simp only [Act.put, List.setIfInBounds_toArray, List.set_cons_succ, List.set_cons_zero])) | (apply wpR_val rfl; (focus (intro w1 hR; obtain ⟨hc, hf⟩ := bcellB hR; (try go_simp); (try exact Eq.refl _); done)); (try simp only [Act.put, List.setIfInBounds_toArray, List.set_cons_succ, List.set_cons_zero])) | (apply wpR_call rfl; (focus (intro w1 hR; obtain ⟨hc, hf⟩ := bcellB hR; (try go_simp); (try exact And.intro rfl rfl); done)); (focus (intro w1 hR; first | exact ().at_ (by first | omega | (simp; done) | (simp; omega)) hR)); (try simp only [Act.put, List.setIfInBounds_toArray, List.set_cons_succ, List.set_cons_zero])) | (apply wpR_val_want rfl; (focus (intro w1 hR; obtain ⟨hc, hf⟩ := bcellB hR; (try go_simp); (try exact Eq.refl _); done)); (try simp only [Act.put, List.setIfInBounds_toArray, List.set_cons_succ, List.set_cons_zero])) | (apply wpR_call_want rfl; (focus (intro w1 hR; obtain ⟨hc, hf⟩ := bcellB hR; (try go_simp); (try exact And.intro rfl rfl); done)); (focus (intro w1 hR; first | exact ().at_ (by first | omega | (simp; done) | (simp; omega)) hR)); (try simp only [Act.put, List.setIfInBounds_toArray, List.set_cons_succ, List.set_cons_zero]))))
        refine wpR_nil (fun w2 hb2 => ?_)
        go_wp2_with fail
        refine ⟨exU (fun U => ⟨#[.slice (some ⟨g, o, none⟩) l.length c, .slice (some ⟨g', o', none⟩) l.length c', U 2, U 3, .bool false, .int .i64 (i + 1 : Nat), U 6, U 7, U 8, U 9, U 10, U 11, U 12, U 13, U 14, U 15, U 16, U 17, U 18, U 19, U 20, U 21, U 22, U 23, U 24, U 25], []⟩) rfl, fun j hj => ?_, hb.trans (hb2.mono hb.size)⟩
        by_cases e : j = i
        · subst e; rw [HLB.out, HLB'.out]
        · exact HS.out j (by omega)
      · have hn : ¬ ((b.toNat : Int) = (b'.toNat : Int)) := fun e => hbb (UInt64.toNat_inj.1 (by omega))
        have hn1 : ¬ (b.toNat = b'.toNat) := fun e => hbb (UInt64.toNat_inj.1 (by omega))
        have HNE := Lib.hid hbb
        clear hbb
        (repeat (first | (apply wpR_pass rfl; (try simp only [Act.put, List.setIfInBounds_toArray, List.set_cons_succ, List.set_cons_zero])) | (apply wpR_val rfl; (focus (intro w1 hR; obtain ⟨hc, hf⟩ := bcellB hR; (try go_simp); (try exact Eq.refl _); done)); (try simp only [Act.put, List.setIfInBounds_toArray, List.set_cons_succ, List.set_cons_zero])) | (apply wpR_call rfl; (focus (intro w1 hR; obtain ⟨hc, hf⟩ := bcellB hR; (try go_simp); (try exact And.intro rfl rfl); done)); (focus (intro w1 hR; first | exact ().at_ (by first | omega | (simp; done) | (simp; omega)) hR)); (try simp only [Act.put, List.setIfInBounds_toArray, List.set_cons_succ, List.set_cons_zero])) | (apply wpR_val_want rfl; (focus (intro w1 hR; obtain ⟨hc, hf⟩ := bcellB hR; (try go_simp); (try exact Eq.refl _); done)); (try simp only [Act.put, List.setIfInBounds_toArray, List.set_cons_succ, List.set_cons_zero])) | (apply wpR_call_want rfl; (focus (intro w1 hR; obtain ⟨hc, hf⟩ := bcellB hR; (try go_simp); (try exact And.intro rfl rfl); done)); (focus (intro w1 hR; first | exact ().at_ (by first | omega | (simp; done) | (simp; omega)) hR)); (try simp only [Act.put, List.setIfInBounds_toArray, List.set_cons_succ, List.set_cons_zero]))))
        refine wpR_nil (fun w2 hb2 => ?_)
        go_wp2_with fail
        go_ret
        have hd : decide (l = l') = false := decide_eq_false fun e => by
          have h1 := HLB.out
          have h2 := HLB'.out
          rw [e, h2] at h1
          exact HNE.out (Option.some.inj h1).symm
        rw [hd]
        exact ⟨rfl, hb.trans (hb2.mono hb.size)⟩
    · rintro a w' ⟨⟨U, rfl⟩, hsame, hb⟩
      have HS := Lib.hid hsame
      have HL := Lib.hid hll
      clear hsame hll
      go_wp2_with fail
      go_ret
      have hd : decide (l = l') = true := decide_eq_true (by
        apply List.ext_getElem?
        intro j
        by_cases e : j < l.length
        · exact HS.out j e
        · have := HL.out
          rw [List.getElem?_eq_none (by omega), List.getElem?_eq_none (by omega)])
      rw [hd]
      exact ⟨rfl, hb⟩
  · unfold Pur
    obtain ⟨p, c, rfl, h1, h2, h3, hr⟩ := h
    obtain ⟨p', c', rfl, h1', h2', h3', hr'⟩ := h'
    have hn : ¬ ((l.length : Int) = (l'.length : Int)) := fun e => hll (by omega)
    have HL := Lib.hid hll
    clear hll hr hr'
    go_enter Tryd.func22, Tryd.ntmps22
    go_wp2_with fail
    go_ret
    have hd : decide (l = l') = false := decide_eq_false fun e => HL.out (by rw [e])
    rw [hd]
    exact ⟨rfl, Below.refl _ _⟩
end Go.Proofs.YtckbckdaffdjmaaDoor

/- The Book asked: kept. -/
namespace Go.Proofs.YtckbckdaffdjmaaDoor
open Go.RowKit
set_option maxRecDepth 100000
set_option linter.unusedVariables false
set_option linter.unusedSimpArgs false

/-- What kept is told by. -/
structure KeptP (w : World) (b : Nat) (late : Bool) (v0 v2 v3 : Value) (K0 K2 K3 : List Value) : Prop where
  blk : Rw w b 31 [v0, .bool late, v2, v3]
  r0 : VU 0 w v0 K0
  r2 : VU 0 w v2 K2
  r3 : VU 0 w v3 K3
  len : K3.length = K2.length
  same : ∀ (i : Nat) (v u : Value), K2[i]? = some v → K3[i]? = some u → ∃ l l', RU w v l ∧ RU w u l' ∧ (late = true → l = l')
  marked : ∀ (i : Nat) (v : Value), K0[i]? = some v → ∃ n, RU w v (List.replicate n (mkN i))
  big : K0.length ≤ 5864062014805
  big2 : K2.length ≤ 5864062014805
theorem KeptP.below {w w' : World} {b : Nat} {late : Bool} {v0 v2 v3 : Value} {K0 K2 K3 : List Value} (h : KeptP w b late v0 v2 v3 K0 K2 K3) (hb : Below w.heap.size w w') : KeptP w' b late v0 v2 v3 K0 K2 K3 := by
  refine ⟨h.blk.below hb, h.r0.mod (F := fun _ => False) (Mod.of_below hb) (fun _ _ => id), h.r2.mod (F := fun _ => False) (Mod.of_below hb) (fun _ _ => id), h.r3.mod (F := fun _ => False) (Mod.of_below hb) (fun _ _ => id), h.len, fun i v u h1 h2 => ?_, fun i v h1 => ?_, h.big, h.big2⟩
  · obtain ⟨l, l', a, b, c⟩ := h.same i v u h1 h2
    exact ⟨l, l', a.below hb, b.below hb, c⟩
  · obtain ⟨n, a⟩ := h.marked i v h1
    exact ⟨n, a.below hb⟩
theorem mkN_wrap {i : Nat} (h : i ≤ 5864062014805) : IntKind.u64.wrap (11529215046068469761 + ((i - i % 2 : Nat) : Int)) = ((mkN i).toNat : Int) := by
  unfold mkN
  rw [Bm.toNat_of (by omega), show (11529215046068469761 : Int) + ((i - i % 2 : Nat) : Int) = ((11529215046068469761 + (i - i % 2) : Nat) : Int) by omega]
  exact wrap_nat (by omega)
set_option maxHeartbeats 8000000 in
theorem kept_calls {w : World} {b : Nat} {late : Bool} {v0 v2 v3 : Value} {K0 K2 K3 : List Value} (h : KeptP w b late v0 v2 v3 K0 K2 K3) :
    Pur Tryd.prog 24 #[.pointer (some ⟨b, 0, none⟩)] w (.bool true) := by
  unfold Pur
  have H := Lib.hid h
  obtain ⟨p0, q0, e0⟩ := h.r0.form
  obtain ⟨p2, q2, e2⟩ := h.r2.form
  obtain ⟨p3, q3, e3⟩ := h.r3.form
  obtain ⟨M0, hM0⟩ : ∃ M, M = K0.length := ⟨_, rfl⟩
  obtain ⟨M2, hM2⟩ : ∃ M, M = K2.length := ⟨_, rfl⟩
  rw [← hM0] at e0
  rw [← hM2] at e2
  rw [h.len, ← hM2] at e3
  have HM0 := Lib.hid hM0
  have HM2 := Lib.hid hM2
  clear h hM0 hM2
  subst e0 e2 e3
  go_enter Tryd.func24, Tryd.ntmps24
  go_wp2_with fail
  refine wp_loop_count (fun i a w' => (∃ U : Nat → Value, a = ⟨#[.pointer (some ⟨b, 0, none⟩), U 1, .bool false, .int .i64 i, U 4, U 5, U 6, U 7, U 8, U 9, U 10, U 11, U 12, U 13, U 14, U 15, U 16, U 17, U 18, U 19, U 20, U 21, U 22, U 23, U 24, U 25, U 26, U 27, U 28, U 29, U 30, U 31, U 32, U 33, U 34, U 35, U 36, U 37, U 38, U 39, U 40, U 41, U 42, U 43, U 44, U 45, U 46, U 47, U 48, U 49, U 50, U 51, U 52, U 53, U 54, U 55, U 56, U 57, U 58, U 59, U 60, U 61, U 62, U 63, U 64, U 65, U 66, U 67, U 68, U 69, U 70, U 71, U 72, U 73, U 74, U 75, U 76, U 77, U 78], []⟩) ∧ Below w.heap.size w w') M2 ⟨exU (fun U => ⟨#[.pointer (some ⟨b, 0, none⟩), U 1, .bool false, .int .i64 0, U 4, U 5, U 6, U 7, U 8, U 9, U 10, U 11, U 12, U 13, U 14, U 15, U 16, U 17, U 18, U 19, U 20, U 21, U 22, U 23, U 24, U 25, U 26, U 27, U 28, U 29, U 30, U 31, U 32, U 33, U 34, U 35, U 36, U 37, U 38, U 39, U 40, U 41, U 42, U 43, U 44, U 45, U 46, U 47, U 48, U 49, U 50, U 51, U 52, U 53, U 54, U 55, U 56, U 57, U 58, U 59, U 60, U 61, U 62, U 63, U 64, U 65, U 66, U 67, U 68, U 69, U 70, U 71, U 72, U 73, U 74, U 75, U 76, U 77, U 78], []⟩) rfl, Below.refl _ _⟩ ?_ ?_
  · rintro i a w' hi ⟨⟨U, rfl⟩, hb⟩
    have h' := H.out.below hb
    obtain ⟨v, hv⟩ : ∃ v, K2[i]? = some v := ⟨_, List.getElem?_eq_getElem (by rw [← HM2.out]; exact hi)⟩
    obtain ⟨u, hu⟩ : ∃ u, K3[i]? = some u := ⟨_, List.getElem?_eq_getElem (by rw [h'.len, ← HM2.out]; exact hi)⟩
    obtain ⟨g2, k2, ee2, lg2, cg2⟩ := h'.r2.get hv
    obtain ⟨g3, k3, ee3, lg3, cg3⟩ := h'.r3.get hu
    simp only [Value.slice.injEq] at ee2 ee3
    obtain ⟨rfl, -, rfl⟩ := ee2
    obtain ⟨rfl, -, rfl⟩ := ee3
    obtain ⟨l, l', hl, hl', hsm⟩ := h'.same i v u hv hu
    obtain ⟨B, hB⟩ : ∃ B, B = decide (l = l') := ⟨_, rfl⟩
    have hsw : ∀ w1, Below w'.heap.size w' w1 → Pur Tryd.prog 22 #[v, u] w1 (.bool B) := fun w1 hR => by rw [hB]; exact sameWords_any (hl.below hR) (hl'.below hR)
    have hBt : late = true → B = true := fun e => by rw [hB, hsm e]; simp
    obtain ⟨pv, cv, ev⟩ := hl.form
    obtain ⟨pu, cu, eu⟩ := hl'.form
    generalize l.length = Lv at ev
    generalize l'.length = Lu at eu
    subst ev eu
    have lb := heap_lt h'.blk
    have c1 := h'.blk.cell (i := 1) rfl
    have c2 := h'.blk.cell (i := 2) rfl
    have c3 := h'.blk.cell (i := 3) rfl
    have HSW := Lib.hid hsw
    have HBW := Lib.hid hb
    have hi' : (i : Int) < (M2 : Int) := by exact_mod_cast hi
    have hi0 : (0 : Int) ≤ (i : Int) := Int.natCast_nonneg i
    have hi9 : (M2 : Int) ≤ 5864062014805 := by have := h'.big2; have := HM2.out; omega
    clear h' hv hu hl hl' hsm hsw hB hb
    go_upto_region 4 with fail
    refine wp_region_R (Below w'.heap.size w') (by kernel_rfl) (by kernel_rfl) (by first | exact Below.refl _ _ | exact below_alloc1 _ _ | exact below_alloc2 _ _ _ | exact below_alloc3 _ _ _ _ | (repeat' (first | assumption | exact Below.refl _ _ | exact below_alloc1 _ _ | exact below_alloc2 _ _ _ | exact below_alloc3 _ _ _ _ | (refine Below.drew ?_) | (refine below_wb ?_ ?_) | (refine Below.alloc ?_ ?_ _) | omega | (simp; done) | (simp; omega)))) ?_
    (repeat (first | (apply wpR_pass rfl; (try simp only [Act.put, List.setIfInBounds_toArray, List.set_cons_succ, List.set_cons_zero])) | (apply wpR_val rfl; (focus (intro w1 hR; obtain ⟨hc, hf⟩ := bcellB hR; (try go_simp); (try exact Eq.refl _); done)); (try simp only [Act.put, List.setIfInBounds_toArray, List.set_cons_succ, List.set_cons_zero])) | (apply wpR_call rfl; (focus (intro w1 hR; obtain ⟨hc, hf⟩ := bcellB hR; (try go_simp); (try exact And.intro rfl rfl); done)); (focus (intro w1 hR; first | exact (HSW.out w1 hR).at_ (by first | omega | (simp; done) | (simp; omega)) hR)); (try simp only [Act.put, List.setIfInBounds_toArray, List.set_cons_succ, List.set_cons_zero])) | (apply wpR_val_want rfl; (focus (intro w1 hR; obtain ⟨hc, hf⟩ := bcellB hR; (try go_simp); (try exact Eq.refl _); done)); (try simp only [Act.put, List.setIfInBounds_toArray, List.set_cons_succ, List.set_cons_zero])) | (apply wpR_call_want rfl; (focus (intro w1 hR; obtain ⟨hc, hf⟩ := bcellB hR; (try go_simp); (try exact And.intro rfl rfl); done)); (focus (intro w1 hR; first | exact (HSW.out w1 hR).at_ (by first | omega | (simp; done) | (simp; omega)) hR)); (try simp only [Act.put, List.setIfInBounds_toArray, List.set_cons_succ, List.set_cons_zero]))))
    refine wpR_nil (fun w2 hb2 => ?_)
    have d1 := ((bcell hb2).1 b 1 lb).trans c1
    have HB2 := Lib.hid hb2
    clear hb2 c1 c2 c3 cg2 cg3
    cases late
    · clear hBt
      go_wp2_with fail
      exact ⟨exU (fun U => ⟨#[.pointer (some ⟨b, 0, none⟩), U 1, .bool false, .int .i64 (i + 1 : Nat), U 4, U 5, U 6, U 7, U 8, U 9, U 10, U 11, U 12, U 13, U 14, U 15, U 16, U 17, U 18, U 19, U 20, U 21, U 22, U 23, U 24, U 25, U 26, U 27, U 28, U 29, U 30, U 31, U 32, U 33, U 34, U 35, U 36, U 37, U 38, U 39, U 40, U 41, U 42, U 43, U 44, U 45, U 46, U 47, U 48, U 49, U 50, U 51, U 52, U 53, U 54, U 55, U 56, U 57, U 58, U 59, U 60, U 61, U 62, U 63, U 64, U 65, U 66, U 67, U 68, U 69, U 70, U 71, U 72, U 73, U 74, U 75, U 76, U 77, U 78], []⟩) rfl, HBW.out.trans (HB2.out.mono HBW.out.size)⟩
    · have hBt' := hBt rfl
      subst hBt'
      clear hBt
      go_wp2_with fail
      exact ⟨exU (fun U => ⟨#[.pointer (some ⟨b, 0, none⟩), U 1, .bool false, .int .i64 (i + 1 : Nat), U 4, U 5, U 6, U 7, U 8, U 9, U 10, U 11, U 12, U 13, U 14, U 15, U 16, U 17, U 18, U 19, U 20, U 21, U 22, U 23, U 24, U 25, U 26, U 27, U 28, U 29, U 30, U 31, U 32, U 33, U 34, U 35, U 36, U 37, U 38, U 39, U 40, U 41, U 42, U 43, U 44, U 45, U 46, U 47, U 48, U 49, U 50, U 51, U 52, U 53, U 54, U 55, U 56, U 57, U 58, U 59, U 60, U 61, U 62, U 63, U 64, U 65, U 66, U 67, U 68, U 69, U 70, U 71, U 72, U 73, U 74, U 75, U 76, U 77, U 78], []⟩) rfl, HBW.out.trans (HB2.out.mono HBW.out.size)⟩
  · rintro a w' ⟨⟨U, rfl⟩, hb⟩
    have h' := H.out.below hb
    have lb := heap_lt h'.blk
    have c2 := h'.blk.cell (i := 2) rfl
    have HBW := Lib.hid hb
    clear h' hb
    go_wp2_with fail
    refine wp_loop_count (fun i a w' => (∃ U : Nat → Value, a = ⟨#[.pointer (some ⟨b, 0, none⟩), U 1, .bool false, U 3, U 4, .int .i64 i, U 6, U 7, U 8, U 9, U 10, U 11, U 12, U 13, U 14, U 15, U 16, U 17, U 18, U 19, U 20, U 21, U 22, U 23, U 24, U 25, U 26, U 27, U 28, U 29, U 30, U 31, U 32, U 33, U 34, U 35, U 36, U 37, U 38, U 39, U 40, U 41, U 42, U 43, U 44, U 45, U 46, U 47, U 48, U 49, U 50, U 51, U 52, U 53, U 54, U 55, U 56, U 57, U 58, U 59, U 60, U 61, U 62, U 63, U 64, U 65, U 66, U 67, U 68, U 69, U 70, U 71, U 72, U 73, U 74, U 75, U 76, U 77, U 78], []⟩) ∧ Below w.heap.size w w') M0 ⟨exU (fun U => ⟨#[.pointer (some ⟨b, 0, none⟩), U 1, .bool false, U 3, U 4, .int .i64 0, U 6, U 7, U 8, U 9, U 10, U 11, U 12, U 13, U 14, U 15, U 16, U 17, U 18, U 19, U 20, U 21, U 22, U 23, U 24, U 25, U 26, U 27, U 28, U 29, U 30, U 31, U 32, U 33, U 34, U 35, U 36, U 37, U 38, U 39, U 40, U 41, U 42, U 43, U 44, U 45, U 46, U 47, U 48, U 49, U 50, U 51, U 52, U 53, U 54, U 55, U 56, U 57, U 58, U 59, U 60, U 61, U 62, U 63, U 64, U 65, U 66, U 67, U 68, U 69, U 70, U 71, U 72, U 73, U 74, U 75, U 76, U 77, U 78], []⟩) rfl, HBW.out⟩ ?_ ?_
    · clear HBW c2 lb
      rintro i a w' hi ⟨⟨U, rfl⟩, hb⟩
      have h' := H.out.below hb
      obtain ⟨v, hv⟩ : ∃ v, K0[i]? = some v := ⟨_, List.getElem?_eq_getElem (by rw [← HM0.out]; exact hi)⟩
      obtain ⟨g0, k0, ee0, lg0, cg0⟩ := h'.r0.get hv
      simp only [Value.slice.injEq] at ee0
      obtain ⟨rfl, -, rfl⟩ := ee0
      obtain ⟨n, hl⟩ := h'.marked i v hv
      have hib : i ≤ 5864062014805 := by have := H.out.big; have := HM0.out; omega
      have hmk1 : (11529215046068469761 : Int) + ((i : Int) - (i : Int) % 2) = ((mkN i).toNat : Int) := by
        unfold mkN; rw [Bm.toNat_of (by omega)]; omega
      obtain ⟨mk, hmkd⟩ : ∃ mk, mk = mkN i := ⟨_, rfl⟩
      rw [← hmkd] at hl hmk1
      obtain ⟨pv, cv, ev⟩ := hl.form
      rw [List.length_replicate] at ev
      subst ev
      have lb := heap_lt h'.blk
      have c0 := h'.blk.cell (i := 0) rfl
      have HL := Lib.hid hl
      have HBW := Lib.hid hb
      have HBLK := Lib.hid h'.blk
      have hi' : (i : Int) < (M0 : Int) := by exact_mod_cast hi
      have hi0 : (0 : Int) ≤ (i : Int) := Int.natCast_nonneg i
      have hi9 : (i : Int) ≤ 5864062014805 := by omega
      clear h' hv hl hb hmkd hib
      have HMK := Lib.hid hmk1
      clear hmk1
      go_wp2_with fail
      rw [HMK.out]
      obtain ⟨pl, cl, el, -, -, -, hr⟩ := HL.out
      simp only [Value.slice.injEq] at el
      obtain ⟨rfl, -, rfl⟩ := el
      have HR := Lib.hid hr
      have HN : Hid (n ≤ 17592186044416) := Lib.hid (by obtain ⟨_, _, _, _, _, h3, _⟩ := HL.out; rw [List.length_replicate] at h3; exact h3)
      clear hr HL
      refine wp_loop_count (fun j a w2 => (∃ U : Nat → Value, a = ⟨#[.pointer (some ⟨b, 0, none⟩), U 1, .bool false, U 3, U 4, .int .i64 i, uv mk, .int .i64 j, U 8, U 9, U 10, U 11, U 12, U 13, U 14, U 15, U 16, U 17, U 18, U 19, U 20, U 21, U 22, U 23, U 24, U 25, U 26, U 27, U 28, U 29, U 30, U 31, U 32, U 33, U 34, U 35, U 36, U 37, U 38, U 39, U 40, U 41, U 42, U 43, U 44, U 45, U 46, U 47, U 48, U 49, U 50, U 51, U 52, U 53, U 54, U 55, U 56, U 57, U 58, U 59, U 60, U 61, U 62, U 63, U 64, U 65, U 66, U 67, U 68, U 69, U 70, U 71, U 72, U 73, U 74, U 75, U 76, U 77, U 78], []⟩) ∧ Below w'.heap.size w' w2) n ⟨exU (fun U => ⟨#[.pointer (some ⟨b, 0, none⟩), U 1, .bool false, U 3, U 4, .int .i64 i, uv mk, .int .i64 0, U 8, U 9, U 10, U 11, U 12, U 13, U 14, U 15, U 16, U 17, U 18, U 19, U 20, U 21, U 22, U 23, U 24, U 25, U 26, U 27, U 28, U 29, U 30, U 31, U 32, U 33, U 34, U 35, U 36, U 37, U 38, U 39, U 40, U 41, U 42, U 43, U 44, U 45, U 46, U 47, U 48, U 49, U 50, U 51, U 52, U 53, U 54, U 55, U 56, U 57, U 58, U 59, U 60, U 61, U 62, U 63, U 64, U 65, U 66, U 67, U 68, U 69, U 70, U 71, U 72, U 73, U 74, U 75, U 76, U 77, U 78], []⟩) rfl, Below.refl _ _⟩ ?_ ?_
      · rintro j a w2 hj ⟨⟨U, rfl⟩, hb⟩
        obtain ⟨g, o, rfl, hg, hcell⟩ := HR.out j mk (by rw [List.getElem?_replicate, if_pos hj])
        have hcg := ((bcell hb).1 g _ hg).trans hcell
        have d0 := ((bcell hb).1 b 0 lb).trans c0
        have dg := ((bcell hb).1 g0 _ lg0).trans cg0
        have HB2 := Lib.hid hb
        have hj' : (j : Int) < (n : Int) := by exact_mod_cast hj
        have hj0 : (0 : Int) ≤ (j : Int) := Int.natCast_nonneg j
        have hj9 : (n : Int) ≤ 17592186044416 := by have := HN.out; omega
        clear hb hcell c0 cg0
        go_wp2_with fail
        exact ⟨exU (fun U => ⟨#[.pointer (some ⟨b, 0, none⟩), U 1, .bool false, U 3, U 4, .int .i64 i, uv mk, .int .i64 (j + 1 : Nat), U 8, U 9, U 10, U 11, U 12, U 13, U 14, U 15, U 16, U 17, U 18, U 19, U 20, U 21, U 22, U 23, U 24, U 25, U 26, U 27, U 28, U 29, U 30, U 31, U 32, U 33, U 34, U 35, U 36, U 37, U 38, U 39, U 40, U 41, U 42, U 43, U 44, U 45, U 46, U 47, U 48, U 49, U 50, U 51, U 52, U 53, U 54, U 55, U 56, U 57, U 58, U 59, U 60, U 61, U 62, U 63, U 64, U 65, U 66, U 67, U 68, U 69, U 70, U 71, U 72, U 73, U 74, U 75, U 76, U 77, U 78], []⟩) rfl, HB2.out⟩
      · rintro a w2 ⟨⟨U, rfl⟩, hb⟩
        have d0 := ((bcell hb).1 b 0 lb).trans c0
        have dg := ((bcell hb).1 g0 _ lg0).trans cg0
        have HB2 := Lib.hid hb
        have hj0 : (0 : Int) ≤ (n : Int) := Int.natCast_nonneg n
        have hi8 : (M0 : Int) ≤ 5864062014805 := by have := H.out.big; have := HM0.out; omega
        clear hb c0 cg0
        go_wp2_with fail
        exact ⟨exU (fun U => ⟨#[.pointer (some ⟨b, 0, none⟩), U 1, .bool false, U 3, U 4, .int .i64 (i + 1 : Nat), U 6, U 7, U 8, U 9, U 10, U 11, U 12, U 13, U 14, U 15, U 16, U 17, U 18, U 19, U 20, U 21, U 22, U 23, U 24, U 25, U 26, U 27, U 28, U 29, U 30, U 31, U 32, U 33, U 34, U 35, U 36, U 37, U 38, U 39, U 40, U 41, U 42, U 43, U 44, U 45, U 46, U 47, U 48, U 49, U 50, U 51, U 52, U 53, U 54, U 55, U 56, U 57, U 58, U 59, U 60, U 61, U 62, U 63, U 64, U 65, U 66, U 67, U 68, U 69, U 70, U 71, U 72, U 73, U 74, U 75, U 76, U 77, U 78], []⟩) rfl, HBW.out.trans (HB2.out.mono HBW.out.size)⟩
    · rintro a w' ⟨⟨U, rfl⟩, hb⟩
      have h' := H.out.below hb
      have lb := heap_lt h'.blk
      have c0 := h'.blk.cell (i := 0) rfl
      have HBW := Lib.hid hb
      clear h' hb
      go_wp2_with fail
      go_ret
      exact ⟨rfl, HBW.out⟩
end Go.Proofs.YtckbckdaffdjmaaDoor
