/- The statement WireFrameBack: the walk. -/
import Derived.Test.YtbgfoobcpacfeaaDoorPk8
import Derived.Test.YtbgfoobcpacfeaaDoorWPf
namespace Go.Proofs.YtbgfoobcpacfeaaDoor
open Go.RowKit
set_option maxRecDepth 100000
set_option linter.unusedVariables false
set_option linter.unusedSimpArgs false

set_option maxHeartbeats 8000000 in
theorem wireFrameBack_calls {w : World} {pv : Value} {x : Wi.Fr} (hx : x.Ok) (hr : RB w pv x.pay) (hl : x.pay.length ≤ 140737488351232) (hS : Szs w) : Pur Tryd.prog 10 #[.agg (frameC x pv)] w (.bool true) := by
  unfold Pur
  have hk1 := heap_new w (.cells (frameC x pv) 50) w.heap.size rfl
  have hb1 := below_alloc1 w (.cells (frameC x pv) 50)
  have hr1 := hr.below hb1
  have hS1 := hS.below hb1
  go_enter Tryd.func10, Tryd.ntmps10
  go_wp2_with fail
  generalize w.alloc (.cells (frameC x pv) 50) = w1 at *
  generalize hA : w.heap.size = A at *
  refine (show Calls Tryd.prog 32 #[.agg (frameC x pv)] w1 _ from ownFrame_calls x hr1).mono ?_
  rintro e w2 ⟨ov, rfl, hov, hb2⟩
  have hA1 : A ≤ w1.heap.size := by rw [← hA]; exact hb1.size
  have hk2 := blk_below hk1 hb2
  have hr2 := hr1.below hb2
  have hS2 := hS1.below hb2
  have hb02 := hb1.trans (hb2.mono hA1)
  have hA2 := Nat.le_trans hA1 hb2.size
  clear hk1 hr1 hS1 hb1 hb2
  go_wp2_with fail
  refine (show Calls Tryd.prog 31 #[.agg (frameC x ov)] w2 _ from encodeFrame_calls x hov hx).mono ?_
  rintro e w3 ⟨v, rfl, ho, hb3⟩
  have hk := blk_below hk2 hb3
  have hr3 := hr2.below hb3
  have hS3 := hS2.below hb3
  have hb := hb02.trans (hb3.mono hA2)
  have hAw := Nat.le_trans hA2 hb3.size
  clear hk2 hr2 hS2 hb02 hb3 hov
  have hSh := Lib.hid hS3
  have hrh := Lib.hid hr3
  have hoh := Lib.hid ho
  have hkh := Lib.hid hk
  clear hS3 hr3 ho hk hS hr
  cases he : ((Wi.encErr x) != 0)
  · have he0 : Wi.encErr x = 0 := by simpa using he
    obtain ⟨hd1, hd2, hd3, hd4⟩ := Wi.dec_enc hx he0
    rw [he0]
    clear he
    go_wp2_with (first | (go_at_call 17; refine (num_same _ _).out.mono ?_; rintro e w4 ⟨rfl, rfl⟩) | fail)
    refine (copied_calls hoh.out.rb).mono ?_
    rintro e w4 ⟨cv, rfl, hcv, hb4⟩
    have hcvr := hcv.rb
    rw [hd3] at hcvr
    have hdec := decodeFrame_calls hcvr
    rw [hd2, hd1] at hdec
    have hkh4 := Lib.hid (blk_below hkh.out hb4)
    have hoh4 := Lib.hid (hoh.out.below hb4)
    have hrh4 := Lib.hid (hrh.out.below hb4)
    have hSh4 := Lib.hid (hSh.out.below hb4)
    have hb04 := hb.trans (hb4.mono hAw)
    have hA4 := Nat.le_trans hAw hb4.size
    clear hkh hoh hrh hSh hcv hcvr hb4
    go_wp2_with fail
    refine hdec.out.mono ?_
    rintro e w5 ⟨yv, rfl, hoy, hb5⟩
    have hk5 := blk_below hkh4.out hb5
    have ho5 := hoh4.out.below hb5
    have hr5 := hrh4.out.below hb5
    have hS5 := hSh4.out.below hb5
    have hb05 := hb04.trans (hb5.mono hA4)
    have hA5 := Nat.le_trans hA4 hb5.size
    obtain ⟨yp, yc, hyf⟩ := hoy.rb.form
    have hy5 := hoy.rb
    generalize hyn : x.pay.length = yn at hyf
    clear hoy hyn
    subst hyf
    have hk6 := heap_new w5 (.cells (frameC x (.slice yp yn yc)) 50) w5.heap.size rfl
    have hb6 := below_alloc1 w5 (.cells (frameC x (.slice yp yn yc)) 50)
    have hk6x := blk_below hk5 hb6
    have hr6 := hr5.below hb6
    have hy6 := hy5.below hb6
    have hS6 := hS5.below hb6
    have ho6 := ho5.below hb6
    have hb06 := hb05.trans (hb6.mono hA5)
    have hs6 : (w5.alloc (.cells (frameC x (.slice yp yn yc)) 50)).heap.size = w5.heap.size + 1 := by simp
    clear hk5 ho5 hr5 hS5 hb05 hy5 hkh4 hoh4 hrh4 hSh4 hb04 hb5
    have hoh := Lib.hid ho6
    have hrh := Lib.hid hr6
    have hSh := Lib.hid hS6
    have hyh := Lib.hid hy6
    have hka := Lib.hid hk6
    have hkb := Lib.hid hk6x
    clear ho6 hr6 hS6 hy6 hk6 hk6x
    go_upto_region 5 with fail
    rename_i hnext
    show Code.wp _ _ _ _ (w5.alloc (.cells (frameC x (.slice yp yn yc)) 50))
    generalize hG : w5.heap.size = G at *
    generalize w5.alloc (.cells (frameC x (.slice yp yn yc)) 50) = w6 at *
    have hA6 : A ≤ w6.heap.size := by omega
    go_wp2_with fail
    refine (example_calls hSh.out).out.mono ?_
    rintro e w7 ⟨rfl, hb7⟩
    have hka7 := blk_below hka.out hb7
    have hkb7 := blk_below hkb.out hb7
    have hca := has_cell hka7
    have hcb := has_cell hkb7
    have hla := heap_lt hka7
    have hlb := heap_lt hkb7
    have hr7 := hrh.out.below hb7
    have hy7 := hyh.out.below hb7
    have hvr := (hoh.out.below hb7).rb
    have hb07 := hb06.trans (hb7.mono hA6)
    have hA7 := Nat.le_trans hA6 hb7.size
    rw [hd3] at hvr
    obtain ⟨vp, vc, hvf⟩ := hvr.form
    rw [hd4] at hvf
    obtain ⟨pp, pc, hpf⟩ := hr7.form
    have hsame := sameFrame_calls x.kind x.from_ x.to x.seq x.ack hr7 hy7
    generalize hpn : x.pay.length = pn at hpf hvf hl
    have hcvr := Lib.hid hvr
    have hkb7h := Lib.hid hkb7
    clear hka hkb hka7 hkb7 hrh hyh hoh hSh hb7 hr7 hvr hdec hd4 hd3 hpn
    subst hpf hvf
    have hadd : IntKind.i64.wrap (26 + (pn : Int)) = 26 + (pn : Int) := IntWalk.i64_in _ ⟨by omega, by omega⟩
    have heq26 : ((26 + (pn : Int)) == (26 + (pn : Int))) = true := beq_self_eq_true _
    go_wp2_with (first | (go_at_call 17; refine (num_same _ _).out.mono ?_; rintro e w8 ⟨rfl, rfl⟩) | fail)
    refine hsame.out.mono ?_
    rintro e w8 ⟨rfl, hb8⟩
    have hkb8 := blk_below hkb7h.out hb8
    have hcc := has_cell hkb8
    have hlc := heap_lt hkb8
    clear hca hla hlb hcb hsame
    go_wp2_with fail
    go_ret
    exact ⟨rfl, by first | exact hb07.trans (hb8.mono hA7) | (rw [hA]; exact hb07.trans (hb8.mono hA7))⟩
  · have ho0 := Wi.encOut_err (x := x) (by simpa using he)
    have hov := hoh.out.rb
    rw [ho0] at hov
    obtain ⟨q, c, hvf⟩ := hov.form
    clear hov hoh hkh hrh
    subst hvf
    go_wp2_with (first | (go_at_call 17; refine (num_same _ _).out.mono ?_; rintro e w4 ⟨rfl, rfl⟩) | fail)
    refine (example_calls hSh.out).out.mono ?_
    rintro e w4 ⟨rfl, hb4⟩
    go_wp2_with fail
    go_ret
    exact ⟨rfl, by rw [hA]; exact hb.trans (hb4.mono hAw)⟩
end Go.Proofs.YtbgfoobcpacfeaaDoor
