/- The bytes of a frame: the document's EncodeFrame. -/
import Derived.Test.YtbgfoobcpacfeaaWEnc
namespace Go.Proofs.Ytbgfoobcpacfeaa
open Go.RowKit
set_option linter.unusedVariables false
set_option linter.unusedSimpArgs false

theorem lit4 (k : Int) : #[Value.int .u8 82, .int .u8 70, Value.int .u8 (k % 256), .int .u8 1] = ([82, 70, Wi.kindByte k, 1].map bv).toArray := by
  have h : ((k % 256).toNat : Int) = k % 256 := Int.toNat_of_nonneg (by omega)
  show _ = #[bv 82, bv 70, bv _, bv 1]
  unfold Wi.kindByte
  rw [bv_of, h, show k % 256 % 256 = k % 256 by omega]
  rfl

set_option maxRecDepth 100000 in
set_option maxHeartbeats 8000000 in
theorem framed_calls {w : World} {v : Value} (x : Wi.Fr) (sum : Nat) (h : RB w v x.pay) (hx : x.Ok) (hn2 : x.pay.length ≤ 2048) (hsum : sum < 4294967296) :
    Calls Try.prog 22 #[.agg (frameC x v), .int .u32 sum] w fun e w' => ∃ v', e = .returned v' ∧ OB w.heap.size w' v' (Wi.framed x sum) ∧ Below w.heap.size w w' := by
  obtain ⟨p, c, rfl, h1, h2, h3, hr⟩ := h
  obtain ⟨x1, x2, x3, x4⟩ := hx
  have hB0 : w.heap.size + 1 ≤ (w.alloc (.cells (frameC x (.slice p x.pay.length c)) 25)).heap.size := by simp
  have hrW : RB (w.alloc (.cells (frameC x (.slice p x.pay.length c)) 25)) (.slice p x.pay.length c) x.pay := RB.below ⟨p, c, rfl, h1, h2, h3, hr⟩ (below_alloc1 w _)
  have hvW : x.pay ≠ [] → ∀ g, (Value.slice p x.pay.length c).ownBlock = some g → g < w.heap.size + 1 := fun hl g e => Nat.lt_succ_of_lt (RB.block ⟨p, c, rfl, h1, h2, h3, hr⟩ hl g e)
  have hm0 := Mk.lit hB0 (Below.refl _ _) _ _ 4 (lit4 x.kind) rfl (by simp)
  rw [World.size_alloc] at hm0
  have hc0 := bcellB hm0.below
  go_enter Try.func22, Try.ntmps22
  go_wp2_with fail
  refine (refPut_mk 4 x.from_ hm0 (by decide) (by omega) (by simp)).mono ?_
  rintro e w1 ⟨v1, rfl, hm1⟩
  have hc1 := bcellB hm1.below
  clear hc0 hm0
  go_wp2_with fail
  refine (refPut_mk 4 x.to hm1 (by decide) (by omega) (by simp [Wi.be_length])).mono ?_
  rintro e w2 ⟨v2, rfl, hm2⟩
  have hc2 := bcellB hm2.below
  clear hc1 hm1
  go_wp2_with fail
  refine (refPut_mk 4 x.seq hm2 (by decide) (by omega) (by simp [Wi.be_length])).mono ?_
  rintro e w3 ⟨v3, rfl, hm3⟩
  have hc3 := bcellB hm3.below
  clear hc2 hm2
  go_wp2_with fail
  refine (refPut_mk 4 x.ack hm3 (by decide) (by omega) (by simp [Wi.be_length])).mono ?_
  rintro e w4 ⟨v4, rfl, hm4⟩
  have hc4 := bcellB hm4.below
  clear hc3 hm3
  go_wp2_with fail
  refine (refPut_mk 2 x.pay.length hm4 (by decide) (by omega) (by simp [Wi.be_length])).mono ?_
  rintro e w5 ⟨v5, rfl, hm5⟩
  have hc5 := bcellB hm5.below
  clear hc4 hm4
  go_wp2_with fail
  refine (refPut_mk 4 sum hm5 (by decide) (by omega) (by simp [Wi.be_length])).mono ?_
  rintro e w6 ⟨v6, rfl, hm6⟩
  have hc6 := bcellB hm6.below
  clear hc5 hm5
  have hpay : RB w6 (.slice p x.pay.length c) x.pay := hm6.keep hrW hvW
  have Hfr : Hid (Wi.framed x sum = [82, 70, Wi.kindByte x.kind, 1] ++ Wi.be 4 x.from_ ++ Wi.be 4 x.to ++ Wi.be 4 x.seq ++ Wi.be 4 x.ack ++ Wi.be 2 x.pay.length ++ Wi.be 4 sum ++ x.pay) := rfl
  have hlen : ([82, 70, Wi.kindByte x.kind, 1] ++ Wi.be 4 x.from_ ++ Wi.be 4 x.to ++ Wi.be 4 x.seq ++ Wi.be 4 x.ack ++ Wi.be 2 x.pay.length ++ Wi.be 4 sum).length + x.pay.length ≤ 140737488355328 := by
    simp [Wi.be_length]; omega
  generalize [82, 70, Wi.kindByte x.kind, 1] ++ Wi.be 4 x.from_ ++ Wi.be 4 x.to ++ Wi.be 4 x.seq ++ Wi.be 4 x.ack ++ Wi.be 2 x.pay.length ++ Wi.be 4 sum = hd at *
  go_wp2_with (first
    | (at_builtin
       refine wpList_append_Mk v6 x.pay (.tmp 40) (.tmp 42) rfl rfl rfl rfl rfl hm6 hpay hlen ?_
       intro v7 w7 hm7)
    | fail)
  go_ret
  rw [Hfr.out]
  exact ⟨_, rfl, hm7.own.more (by omega), (below_alloc1 w _).trans (hm7.below.mono (by omega))⟩

set_option maxRecDepth 100000 in
set_option maxHeartbeats 8000000 in
theorem refEncodeFrame_kind {w : World} {v : Value} (x : Wi.Fr) (h : RB w v x.pay) (hk : Wi.kindOk x.kind = false) :
    Calls Try.prog 8 #[.agg (frameC x v)] w fun e w' => e = .returned (.tuple #[.slice none 0 0, .int .i64 74]) ∧ Below w.heap.size w w' := by
  unfold Wi.kindOk at hk
  by_cases h1 : x.kind < 1
  · go_enter Try.func8, Try.ntmps8
    go_wp2_with fail
    go_ret2
    exact ⟨rfl, below_alloc1 w _⟩
  · have h4 : 4 < x.kind := by simp at hk; omega
    clear hk
    go_enter Try.func8, Try.ntmps8
    go_wp2_with fail
    go_ret2
    exact ⟨rfl, below_alloc1 w _⟩

set_option maxRecDepth 100000 in
set_option maxHeartbeats 8000000 in
theorem refEncodeFrame_body {w : World} {v : Value} (x : Wi.Fr) (h : RB w v x.pay) (hk : Wi.kindOk x.kind = true) (hc : Wi.carries x.kind x.pay.length = false) :
    Calls Try.prog 8 #[.agg (frameC x v)] w fun e w' => e = .returned (.tuple #[.slice none 0 0, .int .i64 75]) ∧ Below w.heap.size w w' := by
  have hk1 : 1 ≤ x.kind ∧ x.kind ≤ 4 := by simpa [Wi.kindOk] using hk
  obtain ⟨k1, k4⟩ := hk1
  obtain ⟨p, c, rfl, h1, h2, h3, hr⟩ := h
  go_enter Try.func8, Try.ntmps8
  go_wp2_with fail
  refine (wrong_calls _ x.kind x.pay.length).out.mono ?_
  rintro e w1 ⟨rfl, hb1⟩
  go_wp2_with fail
  go_ret2
  exact ⟨rfl, (below_alloc1 w _).trans (hb1.mono (by simp))⟩

set_option maxRecDepth 100000 in
set_option maxHeartbeats 8000000 in
theorem refEncodeFrame_good {w : World} {v : Value} (x : Wi.Fr) (h : RB w v x.pay) (hx : x.Ok) (hk : Wi.kindOk x.kind = true) (hc : Wi.carries x.kind x.pay.length = true) :
    Calls Try.prog 8 #[.agg (frameC x v)] w fun e w' => ∃ v', e = .returned (.tuple #[v', .int .i64 0]) ∧ OB w.heap.size w' v' (Wi.enc x) ∧ Below w.heap.size w w' := by
  have hn2 : x.pay.length ≤ 2048 := by
    simp only [Wi.carries, Bool.and_eq_true, decide_eq_true_eq] at hc
    exact hc.2
  have hk1 : 1 ≤ x.kind ∧ x.kind ≤ 4 := by simpa [Wi.kindOk] using hk
  obtain ⟨k1, k4⟩ := hk1
  have hrW := h.below (below_alloc1 w (.cells (frameC x v) 25))
  have hrW0 := hrW
  obtain ⟨p, c, rfl, h1, h2, h3, hr⟩ := h
  have hvW : x.pay ≠ [] → ∀ g, (Value.slice p x.pay.length c).ownBlock = some g → g < w.heap.size + 1 := fun hl g e => Nat.lt_succ_of_lt (RB.block ⟨p, c, rfl, h1, h2, h3, hr⟩ hl g e)
  go_enter Try.func8, Try.ntmps8
  go_wp2_with fail
  refine (wrong_calls _ x.kind x.pay.length).out.mono ?_
  rintro e w1 ⟨rfl, hb1⟩
  rw [World.size_alloc] at hb1
  have hc1 := bcellB hb1
  have hz1 : w.heap.size + 1 ≤ w1.heap.size := by have := hb1.size; simpa using this
  have hr1 := hrW.belowB hb1 hvW
  go_wp2_with fail
  refine (framed_calls x 0 hr1 hx hn2 (by decide)).mono ?_
  rintro e w2 ⟨v2, rfl, ho2, hb2⟩
  go_wp2_with fail
  refine (refCrc_calls ho2.rb).out.mono ?_
  rintro e w3 ⟨rfl, hb3⟩
  have hb13 : Below (w.heap.size + 1) (w.alloc (.cells (frameC x (.slice p x.pay.length c)) 25)) w3 := (hb1.trans (hb2.mono hz1)).trans (hb3.mono (Nat.le_trans hz1 hb2.size))
  have hr3 := hrW0.belowB hb13 hvW
  have hz3 : w.heap.size + 1 ≤ w3.heap.size := by have := hb13.size; simpa using this
  have hc3 := bcellB hb13
  have Henc : Hid (Wi.enc x = Wi.framed x (Wi.crcMore 0 (Wi.framed x 0))) := rfl
  have hsm := Wi.crcMore_lt 0 (Wi.framed x 0)
  generalize Wi.crcMore 0 (Wi.framed x 0) = sm at *
  clear hc1 hb1 hb2 hb3 ho2
  go_wp2_with fail
  refine (framed_calls x sm hr3 hx hn2 hsm).mono ?_
  rintro e w4 ⟨v4, rfl, ho4, hb4⟩
  go_wp2_with fail
  go_ret2
  rw [Henc.out]
  exact ⟨_, rfl, ho4.more (by omega), (below_alloc1 w _).trans ((hb13.mono (by omega)).trans (hb4.mono (by omega)))⟩
end Go.Proofs.Ytbgfoobcpacfeaa
