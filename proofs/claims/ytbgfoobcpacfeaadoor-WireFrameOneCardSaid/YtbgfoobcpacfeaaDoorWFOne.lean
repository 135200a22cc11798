/- The statement WireFrameOne: the walk. -/
import Derived.Test.YtbgfoobcpacfeaaDoorPk8
import Derived.Test.YtbgfoobcpacfeaaDoorWPf
namespace Go.Proofs.YtbgfoobcpacfeaaDoor
open Go.RowKit
set_option maxRecDepth 100000
set_option linter.unusedVariables false
set_option linter.unusedSimpArgs false

set_option maxHeartbeats 8000000 in
theorem wireFrameOne_calls {w : World} {v : Value} {b : List UInt8} (hr : RB w v b) (hS : Szs w) : Pur Tryd.prog 11 #[v] w (.bool true) := by
  unfold Pur
  have hrh := Lib.hid hr
  have hSh := Lib.hid hS
  clear hr hS
  go_enter Tryd.func11, Tryd.ntmps11
  go_wp2_with fail
  generalize hA : w.heap.size = A at *
  refine (copied_calls hrh.out).mono ?_
  rintro e w1 ⟨cv, rfl, hcv, hb1⟩
  have hr1 := Lib.hid (hrh.out.below hb1)
  have hS1 := Lib.hid (hSh.out.below hb1)
  rw [hA] at hb1
  have hA1 : A ≤ w1.heap.size := by rw [← hA]; exact hb1.size
  have hdec := decodeFrame_calls hcv.rb
  clear hrh hSh hcv
  go_wp2_with fail
  refine hdec.out.mono ?_
  rintro e w2 ⟨yv, rfl, hoy, hb2⟩
  have hr2 := Lib.hid (hr1.out.below hb2)
  have hS2 := Lib.hid (hS1.out.below hb2)
  have hb02 := hb1.trans (hb2.mono hA1)
  have hA2 := Nat.le_trans hA1 hb2.size
  obtain ⟨yp, yc, hyf⟩ := hoy.rb.form
  have hy2 := hoy.rb
  generalize hyn : (Wi.decFr b).pay.length = yn at hyf
  clear hoy hyn hdec hr1 hS1 hb1
  subst hyf
  have hk3 := heap_new w2 (.cells (frameC (Wi.decFr b) (.slice yp yn yc)) 50) w2.heap.size rfl
  have hb3 := below_alloc1 w2 (.cells (frameC (Wi.decFr b) (.slice yp yn yc)) 50)
  have hr3 := Lib.hid (hr2.out.below hb3)
  have hy3 := Lib.hid (hy2.below hb3)
  have hS3 := Lib.hid (hS2.out.below hb3)
  have hk3h := Lib.hid hk3
  have hb03 := hb02.trans (hb3.mono hA2)
  have hs3 : (w2.alloc (.cells (frameC (Wi.decFr b) (.slice yp yn yc)) 50)).heap.size = w2.heap.size + 1 := by simp
  clear hk3 hy2 hr2 hS2 hb2 hb02
  go_upto_region 2 with fail
  rename_i hnext
  show Code.wp _ _ _ _ (w2.alloc (.cells (frameC (Wi.decFr b) (.slice yp yn yc)) 50))
  generalize hG : w2.heap.size = G at *
  generalize w2.alloc (.cells (frameC (Wi.decFr b) (.slice yp yn yc)) 50) = w3 at *
  have hA3 : A ≤ w3.heap.size := by omega
  cases he : ((Wi.decErr b) != 0)
  · have he0 : Wi.decErr b = 0 := by simpa using he
    obtain ⟨hd1, hd2⟩ := Wi.enc_dec he0
    have hok := Wi.decFr_ok he0
    obtain ⟨-, -, hd3, -⟩ := Wi.dec_enc hok hd1
    rw [hd2] at hd3
    have hca := has_cell hk3h.out
    have hla := heap_lt hk3h.out
    rw [he0]
    clear he
    have henc := encodeFrame_calls (Wi.decFr b) hy3.out hok
    rw [hd3, hd1] at henc
    go_wp2_with (first | (go_at_call 17; refine (num_same _ _).out.mono ?_; rintro e w4 ⟨rfl, rfl⟩) | fail)
    refine (show Calls Tryd.prog 31 #[.agg (frameC (Wi.decFr b) (.slice yp yn yc))] w3 _ from henc).mono ?_
    rintro e w4 ⟨ev, rfl, hev, hb4⟩
    have hr4 := Lib.hid (hr3.out.below hb4)
    have hS4 := Lib.hid (hS3.out.below hb4)
    have hev4 := Lib.hid hev.rb
    have hb04 := hb03.trans (hb4.mono hA3)
    have hA4 := Nat.le_trans hA3 hb4.size
    clear hca hla hev hb4 hy3 hk3h henc
    go_wp2_with fail
    refine (example_calls hS4.out).out.mono ?_
    rintro e w5 ⟨rfl, hb5⟩
    have hsame := same_calls (hr4.out.below hb5) (hev4.out.below hb5)
    have hb05 := hb04.trans (hb5.mono hA4)
    have hA5 := Nat.le_trans hA4 hb5.size
    clear hr4 hS4 hev4 hb5
    go_wp2_with (first | (go_at_call 17; refine (num_same _ _).out.mono ?_; rintro e w6 ⟨rfl, rfl⟩) | fail)
    refine hsame.out.mono ?_
    rintro e w6 ⟨rfl, hb6⟩
    go_wp2_with fail
    go_ret
    exact ⟨rfl, by first | exact hb05.trans (hb6.mono hA5) | (rw [hA]; exact hb05.trans (hb6.mono hA5))⟩
  · have hz := Wi.decFr_err (b := b) (by simpa using he)
    rw [hz] at hk3h hy3
    go_wp2_with (first | (go_at_call 17; refine (num_same _ _).out.mono ?_; rintro e w4 ⟨rfl, rfl⟩) | fail)
    refine (example_calls hS3.out).out.mono ?_
    rintro e w4 ⟨rfl, hb4⟩
    have hk4 := blk_below hk3h.out hb4
    have hca := has_cell hk4
    have hla := heap_lt hk4
    have hsame := sameFrame_calls (l := []) 0 0 0 0 0 (hy3.out.below hb4) (RB.nil_ w4)
    have hb04 := hb03.trans (hb4.mono hA3)
    have hA4 := Nat.le_trans hA3 hb4.size
    clear hk3h hy3 hk4 hr3 hS3 hb4
    go_wp2_with fail
    refine hsame.out.mono ?_
    rintro e w5 ⟨rfl, hb5⟩
    go_wp2_with fail
    go_ret
    exact ⟨rfl, by first | exact hb04.trans (hb5.mono hA4) | (rw [hA]; exact hb04.trans (hb5.mono hA4))⟩
end Go.Proofs.YtbgfoobcpacfeaaDoor
