/- The statement WireTells: the walk. (Printed by wip/w7gen/mktells.py.) -/
import Derived.Test.YtbgfoobcpacfeaaDoorPk8
import Derived.Test.YtbgfoobcpacfeaaDoorWTur
namespace Go.Proofs.YtbgfoobcpacfeaaDoor
open Go.RowKit
set_option maxRecDepth 100000
set_option linter.unusedVariables false
set_option linter.unusedSimpArgs false

set_option maxHeartbeats 8000000 in
theorem wireTells_calls {w : World} {pv : Value} {x : Wi.Fr} (ai : Int) (mask : Nat) (part : Int) (hai : ai < 9223372036854775808) (hmask : mask < 4294967296) (hx : x.Ok) (hr : RB w pv x.pay) (hS : Szs w) : Pur Tryd.prog 12 #[.agg (frameC x pv), .int .i64 ai, .int .u32 mask, .int .i64 part] w (.bool true) := by
  unfold Pur
  have hk1 := heap_new w (.cells (frameC x pv) 50) w.heap.size rfl
  have hb1 := below_alloc1 w (.cells (frameC x pv) 50)
  have hrh := Lib.hid (hr.below hb1)
  have hSh := Lib.hid (hS.below hb1)
  have hkh := Lib.hid hk1
  clear hk1 hr hS
  go_enter Tryd.func12, Tryd.ntmps12
  go_upto_region 1 with fail
  rename_i hnext
  generalize w.alloc (.cells (frameC x pv) 50) = w1 at *
  generalize hA : w.heap.size = A at *
  have hA1 : A ≤ w1.heap.size := by rw [← hA]; exact hb1.size
  go_wp2_with fail
  refine (example_calls hSh.out).out.mono ?_
  rintro e w2 ⟨rfl, hb2⟩
  have hk2 := blk_below hkh.out hb2
  have hr2 := hrh.out.below hb2
  have hb02 := hb1.trans (hb2.mono hA1)
  have hA2 := Nat.le_trans hA1 hb2.size
  have hca := has_cell hk2
  have hla := heap_lt hk2
  have hown := ownFrame_calls x hr2
  clear hSh hkh hrh hr2 hk2 hb2 hb1
  go_wp2_with fail
  refine (show Calls Tryd.prog 32 #[.agg (frameC x pv)] w2 _ from hown).mono ?_
  rintro e w3 ⟨ov, rfl, hov, hb3⟩
  have hb03 := hb02.trans (hb3.mono hA2)
  have hA3 := Nat.le_trans hA2 hb3.size
  clear hown hca hla hb3 hb02
  go_wp2_with fail
  refine (show Calls Tryd.prog 31 #[.agg (frameC x ov)] w3 _ from encodeFrame_calls x hov hx).mono ?_
  rintro e w5 ⟨v, rfl, ho, hb5⟩
  have hb05 := hb03.trans (hb5.mono hA3)
  have hA5 := Nat.le_trans hA3 hb5.size
  clear hov hb03 hb5
  cases he : ((Wi.encErr x) != 0)
  · have he0 : Wi.encErr x = 0 := by simpa using he
    obtain ⟨hdz, -, hd3, hbl⟩ := Wi.dec_enc hx he0
    rw [hd3] at ho
    rw [he0]
    by_cases hneg : ai < 0
    · clear ho he he0 hdz hd3 hbl
      go_wp2_with (first | (go_at_call 17; refine (num_same _ _).out.mono ?_; rintro e wn ⟨rfl, rfl⟩) | fail)
      go_ret
      exact ⟨rfl, by first | exact hb05 | (rw [hA]; exact hb05)⟩
    · obtain ⟨at_, rfl⟩ : ∃ at_ : Nat, ai = (at_ : Int) := ⟨ai.toNat, by omega⟩
      have hbne : Wi.enc x ≠ [] := fun e => by rw [e] at hbl; simp at hbl; omega
      have hpl := ho.2
      rw [hbl] at hpl
      obtain ⟨vp, vc, hvf⟩ := ho.rb.form
      rw [hbl] at hvf
      have hoh := Lib.hid ho
      generalize hpn : x.pay.length = pn at hvf hbl hpl
      clear ho he he0 hpn hneg hd3
      subst hvf
      have h26 : ¬ ((26 + (pn : Int)) < 26) := by omega
      by_cases hp1 : part = 1
      · subst hp1
        have htur := turned_calls at_ mask 22 26 hoh.out.rb hbne (by omega) hmask (by omega) (by rw [hbl]; omega)
        have htells := @Wi.tur_tells _ hdz at_ mask 22 26 (.inr (.inl ⟨rfl, rfl⟩))
        obtain ⟨cn, hcn⟩ : ∃ cn, cn = (Wi.tur (Wi.enc x) at_ mask 22 26 32).2.1 := ⟨_, rfl⟩
        obtain ⟨q, hqq⟩ : ∃ q, q = (Wi.tur (Wi.enc x) at_ mask 22 26 32).1 := ⟨_, rfl⟩
        rw [← hcn, ← hqq] at htur htells
        clear hcn hqq
        have hw26 : (0 : Int) ≤ (pn : Int) := Int.natCast_nonneg pn
        clear hpl hmask hai hbl hbne hdz hoh
        go_wp2_with (first | (go_at_call 17; refine (num_same _ _).out.mono ?_; rintro e wn ⟨rfl, rfl⟩) | fail)
        refine htur.mono ?_
        rintro e w6 ⟨qv, rfl, hq, hb6⟩
        have hb06 := hb05.trans (hb6.mono hA5)
        have hA6 := Nat.le_trans hA5 hb6.size
        have hqr := hq.rb
        by_cases hc0 : cn = 0
        · have hcz : ((cn : Int) == 0) = true := by rw [hc0]; rfl
          clear htur htells hq hqr hc0
          go_wp2_with fail
          go_ret
          exact ⟨rfl, by first | exact hb06 | (rw [hA]; exact hb06)⟩
        · have hcz : ((cn : Int) == 0) = false := by
            have : ¬ (cn : Int) = 0 := by omega
            simpa using this
          have herr := htells hc0
          have hz := Wi.decFr_err herr
          have hdec := decodeFrame_calls hqr
          rw [hz] at hdec
          have hez : (Wi.decErr q != 0) = true := by simpa using herr
          obtain ⟨er, her⟩ : ∃ er, er = Wi.decErr q := ⟨_, rfl⟩
          rw [← her] at hdec hez
          clear htur htells hq hqr hc0 herr hz her
          go_wp2_with fail
          refine hdec.out.mono ?_
          rintro e w7 ⟨yv, rfl, hoy, hb7⟩
          have hb07 := hb06.trans (hb7.mono hA6)
          have hA7 := Nat.le_trans hA6 hb7.size
          have hy7 := hoy.rb
          obtain ⟨yp, yc, hyf⟩ := hy7.form
          generalize hyn : Wi.zero.pay.length = yn at hyf
          clear hoy hyn hdec
          subst hyf
          have hk8 := heap_new w7 (.cells (frameC Wi.zero (.slice yp yn yc)) 50) w7.heap.size rfl
          have hb8 := below_alloc1 w7 (.cells (frameC Wi.zero (.slice yp yn yc)) 50)
          have hy8 : RB _ (.slice yp yn yc) [] := hy7.below hb8
          have hb08 := hb07.trans (hb8.mono hA7)
          have hs8 : (w7.alloc (.cells (frameC Wi.zero (.slice yp yn yc)) 50)).heap.size = w7.heap.size + 1 := by simp
          clear hy7
          go_upto_region 20 with fail
          rename_i hnext
          show Code.wp _ _ _ _ (w7.alloc (.cells (frameC Wi.zero (.slice yp yn yc)) 50))
          generalize hG : w7.heap.size = G at *
          generalize w7.alloc (.cells (frameC Wi.zero (.slice yp yn yc)) 50) = w8 at *
          have hA8 : A ≤ w8.heap.size := by omega
          have hca := has_cell hk8
          have hla := heap_lt hk8
          have hsame := sameFrame_calls (l := []) 0 0 0 0 0 hy8 (RB.nil_ w8)
          clear hk8 hy8 hb8
          go_wp2_with (first | (go_at_call 17; refine (num_same _ _).out.mono ?_; rintro e wn ⟨rfl, rfl⟩) | fail)
          refine hsame.out.mono ?_
          rintro e w9 ⟨rfl, hb9⟩
          go_wp2_with fail
          go_ret
          exact ⟨rfl, by first | exact hb08.trans (hb9.mono hA8) | (rw [hA]; exact hb08.trans (hb9.mono hA8))⟩
      · have hp1b : (part == 1) = false := by simpa using hp1
        by_cases hp0 : part = 0
        · subst hp0
          have htur := turned_calls at_ mask 0 22 hoh.out.rb hbne (by omega) hmask (by omega) (by rw [hbl]; omega)
          have htells := @Wi.tur_tells _ hdz at_ mask 0 22 (.inl ⟨rfl, rfl⟩)
          obtain ⟨cn, hcn⟩ : ∃ cn, cn = (Wi.tur (Wi.enc x) at_ mask 0 22 32).2.1 := ⟨_, rfl⟩
          obtain ⟨q, hqq⟩ : ∃ q, q = (Wi.tur (Wi.enc x) at_ mask 0 22 32).1 := ⟨_, rfl⟩
          rw [← hcn, ← hqq] at htur htells
          clear hcn hqq
          have hw26 : (0 : Int) ≤ (pn : Int) := Int.natCast_nonneg pn
          clear hpl hmask hai hbl hbne hdz hoh
          go_wp2_with (first | (go_at_call 17; refine (num_same _ _).out.mono ?_; rintro e wn ⟨rfl, rfl⟩) | fail)
          refine htur.mono ?_
          rintro e w6 ⟨qv, rfl, hq, hb6⟩
          have hb06 := hb05.trans (hb6.mono hA5)
          have hA6 := Nat.le_trans hA5 hb6.size
          have hqr := hq.rb
          by_cases hc0 : cn = 0
          · have hcz : ((cn : Int) == 0) = true := by rw [hc0]; rfl
            clear htur htells hq hqr hc0
            go_wp2_with fail
            go_ret
            exact ⟨rfl, by first | exact hb06 | (rw [hA]; exact hb06)⟩
          · have hcz : ((cn : Int) == 0) = false := by
              have : ¬ (cn : Int) = 0 := by omega
              simpa using this
            have herr := htells hc0
            have hz := Wi.decFr_err herr
            have hdec := decodeFrame_calls hqr
            rw [hz] at hdec
            have hez : (Wi.decErr q != 0) = true := by simpa using herr
            obtain ⟨er, her⟩ : ∃ er, er = Wi.decErr q := ⟨_, rfl⟩
            rw [← her] at hdec hez
            clear htur htells hq hqr hc0 herr hz her
            go_wp2_with fail
            refine hdec.out.mono ?_
            rintro e w7 ⟨yv, rfl, hoy, hb7⟩
            have hb07 := hb06.trans (hb7.mono hA6)
            have hA7 := Nat.le_trans hA6 hb7.size
            have hy7 := hoy.rb
            obtain ⟨yp, yc, hyf⟩ := hy7.form
            generalize hyn : Wi.zero.pay.length = yn at hyf
            clear hoy hyn hdec
            subst hyf
            have hk8 := heap_new w7 (.cells (frameC Wi.zero (.slice yp yn yc)) 50) w7.heap.size rfl
            have hb8 := below_alloc1 w7 (.cells (frameC Wi.zero (.slice yp yn yc)) 50)
            have hy8 : RB _ (.slice yp yn yc) [] := hy7.below hb8
            have hb08 := hb07.trans (hb8.mono hA7)
            have hs8 : (w7.alloc (.cells (frameC Wi.zero (.slice yp yn yc)) 50)).heap.size = w7.heap.size + 1 := by simp
            clear hy7
            go_upto_region 20 with fail
            rename_i hnext
            show Code.wp _ _ _ _ (w7.alloc (.cells (frameC Wi.zero (.slice yp yn yc)) 50))
            generalize hG : w7.heap.size = G at *
            generalize w7.alloc (.cells (frameC Wi.zero (.slice yp yn yc)) 50) = w8 at *
            have hA8 : A ≤ w8.heap.size := by omega
            have hca := has_cell hk8
            have hla := heap_lt hk8
            have hsame := sameFrame_calls (l := []) 0 0 0 0 0 hy8 (RB.nil_ w8)
            clear hk8 hy8 hb8
            go_wp2_with (first | (go_at_call 17; refine (num_same _ _).out.mono ?_; rintro e wn ⟨rfl, rfl⟩) | fail)
            refine hsame.out.mono ?_
            rintro e w9 ⟨rfl, hb9⟩
            go_wp2_with fail
            go_ret
            exact ⟨rfl, by first | exact hb08.trans (hb9.mono hA8) | (rw [hA]; exact hb08.trans (hb9.mono hA8))⟩
        · have hp0b : (part != 0) = true := by simpa using hp0
          have htur := turned_calls at_ mask 26 (26 + pn) hoh.out.rb hbne (by omega) hmask (by omega) (by rw [hbl]; omega)
          have htells := @Wi.tur_tells _ hdz at_ mask 26 (26 + pn) (.inr (.inr ⟨rfl, hbl.symm⟩))
          obtain ⟨cn, hcn⟩ : ∃ cn, cn = (Wi.tur (Wi.enc x) at_ mask 26 (26 + pn) 32).2.1 := ⟨_, rfl⟩
          obtain ⟨q, hqq⟩ : ∃ q, q = (Wi.tur (Wi.enc x) at_ mask 26 (26 + pn) 32).1 := ⟨_, rfl⟩
          rw [← hcn, ← hqq] at htur htells
          clear hcn hqq
          have hw26 : (0 : Int) ≤ (pn : Int) := Int.natCast_nonneg pn
          clear hpl hmask hai hbl hbne hdz hoh
          go_wp2_with (first | (go_at_call 17; refine (num_same _ _).out.mono ?_; rintro e wn ⟨rfl, rfl⟩) | fail)
          refine htur.mono ?_
          rintro e w6 ⟨qv, rfl, hq, hb6⟩
          have hb06 := hb05.trans (hb6.mono hA5)
          have hA6 := Nat.le_trans hA5 hb6.size
          have hqr := hq.rb
          by_cases hc0 : cn = 0
          · have hcz : ((cn : Int) == 0) = true := by rw [hc0]; rfl
            clear htur htells hq hqr hc0
            go_wp2_with fail
            go_ret
            exact ⟨rfl, by first | exact hb06 | (rw [hA]; exact hb06)⟩
          · have hcz : ((cn : Int) == 0) = false := by
              have : ¬ (cn : Int) = 0 := by omega
              simpa using this
            have herr := htells hc0
            have hz := Wi.decFr_err herr
            have hdec := decodeFrame_calls hqr
            rw [hz] at hdec
            have hez : (Wi.decErr q != 0) = true := by simpa using herr
            obtain ⟨er, her⟩ : ∃ er, er = Wi.decErr q := ⟨_, rfl⟩
            rw [← her] at hdec hez
            clear htur htells hq hqr hc0 herr hz her
            go_wp2_with fail
            refine hdec.out.mono ?_
            rintro e w7 ⟨yv, rfl, hoy, hb7⟩
            have hb07 := hb06.trans (hb7.mono hA6)
            have hA7 := Nat.le_trans hA6 hb7.size
            have hy7 := hoy.rb
            obtain ⟨yp, yc, hyf⟩ := hy7.form
            generalize hyn : Wi.zero.pay.length = yn at hyf
            clear hoy hyn hdec
            subst hyf
            have hk8 := heap_new w7 (.cells (frameC Wi.zero (.slice yp yn yc)) 50) w7.heap.size rfl
            have hb8 := below_alloc1 w7 (.cells (frameC Wi.zero (.slice yp yn yc)) 50)
            have hy8 : RB _ (.slice yp yn yc) [] := hy7.below hb8
            have hb08 := hb07.trans (hb8.mono hA7)
            have hs8 : (w7.alloc (.cells (frameC Wi.zero (.slice yp yn yc)) 50)).heap.size = w7.heap.size + 1 := by simp
            clear hy7
            go_upto_region 20 with fail
            rename_i hnext
            show Code.wp _ _ _ _ (w7.alloc (.cells (frameC Wi.zero (.slice yp yn yc)) 50))
            generalize hG : w7.heap.size = G at *
            generalize w7.alloc (.cells (frameC Wi.zero (.slice yp yn yc)) 50) = w8 at *
            have hA8 : A ≤ w8.heap.size := by omega
            have hca := has_cell hk8
            have hla := heap_lt hk8
            have hsame := sameFrame_calls (l := []) 0 0 0 0 0 hy8 (RB.nil_ w8)
            clear hk8 hy8 hb8
            go_wp2_with (first | (go_at_call 17; refine (num_same _ _).out.mono ?_; rintro e wn ⟨rfl, rfl⟩) | fail)
            refine hsame.out.mono ?_
            rintro e w9 ⟨rfl, hb9⟩
            go_wp2_with fail
            go_ret
            exact ⟨rfl, by first | exact hb08.trans (hb9.mono hA8) | (rw [hA]; exact hb08.trans (hb9.mono hA8))⟩
  · clear ho
    go_wp2_with (first | (go_at_call 17; refine (num_same _ _).out.mono ?_; rintro e wn ⟨rfl, rfl⟩) | fail)
    go_ret
    exact ⟨rfl, by first | exact hb05 | (rw [hA]; exact hb05)⟩
end Go.Proofs.YtbgfoobcpacfeaaDoor
