/- The statement WirePlace: the walk. (Printed by wip/w7gen/mkplace.py.) -/
import Derived.Test.YtbgfoobcpacfeaaDoorPk8
import Derived.Test.YtbgfoobcpacfeaaDoorWPrefix
namespace Go.Proofs.YtbgfoobcpacfeaaDoor
open Go.RowKit
set_option maxRecDepth 100000
set_option linter.unusedVariables false
set_option linter.unusedSimpArgs false

theorem exec_add1 {ρ : Operand → Value} {o : Oper} {t : Nat} {x y : Int} (ho : o.op = .binOp .add 3 (.tmp t) (.const (.int .i64 1)) 3) (hx : ρ (.tmp t) = .int .i64 x) (hw : IntKind.i64.wrap (x + 1) = y) (w : World) (hc : ρ (.const (.int .i64 1)) = .int .i64 1 := by rfl) : (execOp ρ o).run Tryd.prog w = .ok (.value (.int .i64 y)) w := by
  subst hw
  unfold execOp
  rw [ho]
  simp only [hx, hc]
  go_simp

theorem add_zero' (a : Addr) : a.add 0 = a := by
  unfold Addr.add
  split <;> simp_all
theorem slice_whole (w : World) (a : Option Addr) (n c : Nat) (h : n ≤ c) : (Instr.sliceAt 32 (.slice a n c) none (some (.int .i64 n)) none).run Tryd.prog w = .ok (.slice a n c) w := by
  have h0 : (0 : Int) ≤ (n : Int) := Int.natCast_nonneg n
  have h1 : (n : Int) ≤ (c : Int) := by exact_mod_cast h
  cases a <;> go_simp

set_option maxHeartbeats 8000000 in
theorem wirePlace_calls {w : World} {v tv : Value} {b tail : List UInt8} (hr : RB w v b) (ht : RB w tv tail) (htl : tail.length ≤ 140737488351232) (hS : Szs w) : Pur Tryd.prog 9 #[v, tv] w (.bool true) := by
  unfold Pur
  obtain ⟨bp, c, hvf⟩ := hr.form
  obtain ⟨tq, tc, htf⟩ := ht.form
  generalize hnn : b.length = n at hvf
  have Hn := Lib.hid hnn.symm
  have Htf := Lib.hid htf
  have Hvf := Lib.hid hvf
  clear hnn htf hvf
  have hS0 : 3 < w.heap.size := hS.1
  have hA := (rfl : w.heap.size = w.heap.size)
  have hSh := Lib.hid hS
  have hrh := Lib.hid hr
  have hth := Lib.hid ht
  clear hS hr ht
  go_enter Tryd.func9, Tryd.ntmps9
  go_wp2_with fail
  refine (example_calls hSh.out).out.mono ?_
  rintro e w1 ⟨rfl, hb⟩
  have hr := hrh.out.below hb
  have ht := hth.out.below hb
  have hS := hSh.out.below hb
  have hAw := hb.size
  clear hSh hrh hth
  generalize hA : w.heap.size = A at *
  go_upto_region 3 with fail
  rename_i hnext
  refine wp_region_lit ?_
  refine Og.st_start (n := 107) rfl fun a hF => ?_
  refine Og.st_same v hF rfl rfl (by decide) (by kernel_rfl) ?_
  clear hF a; intro a hF
  refine Og.st_call (f := 30) (args := #[v]) hF rfl rfl (by decide) ((Og.exec_call rfl copied_enter rfl _).trans (by kernel_rfl)) ((copied_calls hr).mono ?_)
  rintro e w2 ⟨cv, rfl, hcv, hb5⟩
  refine ⟨_, rfl, ?_⟩
  clear hF a; intro a hF
  have hr := hr.below hb5
  have ht := ht.below hb5
  have hS := hS.below hb5
  have hb := hb.trans (hb5.mono hAw)
  have hAw := Nat.le_trans hAw hb5.size
  refine st_dec (l := b) 18 19 16 20 21 22 5 6 7 hF hcv.rb hS rfl ?_ (Wi.unpack_ok b)
  clear hF a; intro a w3 D qv T hF hQ hoq hb7 hD hqk
  have hr := hr.below hb7
  have ht := ht.below hb7
  have hS := hS.below hb7
  have hb := hb.trans (hb7.mono hAw)
  have hAw := Nat.le_trans hAw hb7.size
  have hpl := Wi.place_cases b tail
  have hnear := Wi.place_near b
  obtain ⟨at_, hat⟩ : ∃ at_, at_ = (Wi.unpack b).2.1 := ⟨_, rfl⟩
  obtain ⟨er, her⟩ : ∃ er, er = (Wi.unpack b).2.2 := ⟨_, rfl⟩
  have hpair : (Wi.unpack b).2 = (at_, er) := by rw [hat, her]
  rw [← hat, ← her] at hF
  rw [hpair] at hpl
  simp only [← hat, ← her] at hpl hnear
  clear hat her hpair hQ hoq hcv hb5 hb7 hD hqk
  obtain ⟨U, rfl⟩ := Og.Fr.lit_ex hF (fun U => ⟨#[v, tv, U 2, U 3, .bool false, U 5, .int .i64 (at_ : Nat), .int .i64 er, U 8, U 9, U 10, U 11, U 12, U 13, U 14, U 15, U 16, U 17, U 18, U 19, U 20, U 21, U 22, U 23, U 24, U 25, U 26, U 27, U 28, U 29, U 30, U 31, U 32, U 33, U 34, U 35, U 36, U 37, U 38, U 39, U 40, U 41, U 42, U 43, U 44, U 45, U 46, U 47, U 48, U 49, U 50, U 51, U 52, U 53, U 54, U 55, U 56, U 57, U 58, U 59, U 60, U 61, U 62, U 63, U 64, U 65, U 66, U 67, U 68, U 69, U 70, U 71, U 72, U 73, U 74, U 75, U 76, U 77, U 78, U 79, U 80, U 81, U 82, U 83, U 84, U 85, U 86, U 87, U 88, U 89, U 90, U 91, U 92, U 93, U 94, U 95, U 96, U 97, U 98, U 99, U 100, U 101, U 102, U 103, U 104, U 105, U 106], []⟩) (by kernel_rfl)
  clear hF
  refine hnext _ _ ?_
  clear hnext
  have hvl := Hvf.out
  rcases hpl with h | h | ⟨hlt, hcase, hag⟩
  · obtain ⟨rfl, rfl⟩ : at_ = 0 ∧ er = 0 := by simpa using h
    clear hr ht hS hnear h
    go_wp2_with (first | (go_at_call 17; refine (num_same _ 0).out.mono ?_; rintro e w4 ⟨rfl, rfl⟩) | fail)
    go_ret
    exact ⟨rfl, by first | exact hb | (rw [hA]; exact hb)⟩
  · obtain ⟨rfl, rfl⟩ : at_ = b.length ∧ er = 71 := by simpa using h
    clear hnear h
    rw [← Hn.out]
    subst hvl
    have hself : ((n : Int) == (n : Int)) = true := beq_self_eq_true _
    have hcn : n ≤ c := by
      obtain ⟨p1, c1, e, e1, -⟩ := hr
      simp only [Value.slice.injEq] at e
      rw [Hn.out, e.2.2]; exact e1
    have hn0 : ¬ ((n : Int) < 0) := by omega
    have hnn : ¬ ((n : Int) < (n : Int)) := by omega
    have hz0 : (0 : Int) ≤ (n : Int) := by omega
    have hSh := Lib.hid hS
    have hrh := Lib.hid hr
    have hth := Lib.hid ht
    clear hS hr ht
    go_upto_region 8 with (first | (go_at_call 17; refine (num_same _ _).out.mono ?_; rintro e w4 ⟨rfl, rfl⟩) | fail)
    rename_i hnext
    have hS := hSh.out
    have hr := hrh.out
    have ht := hth.out
    clear hSh hrh hth
    refine wp_region_lit ?_
    refine Og.st_start (n := 107) rfl fun a hF => ?_
    refine Og.st_same (.slice bp n c) hF rfl rfl (by decide) (by kernel_rfl) ?_
    clear hF a; intro a hF
    refine Og.st_same (.int .i64 (n : Nat)) hF rfl rfl (by decide) (by kernel_rfl) ?_
    clear hF a; intro a hF
    refine Og.st_same (.slice bp n c) hF rfl rfl (by decide) (exec_sliceAt rfl (slice_whole w3 bp n c hcn)) ?_
    clear hF a; intro a hF
    refine Og.st_call (f := 30) (args := #[.slice bp n c]) hF rfl rfl (by decide) ((Og.exec_call rfl copied_enter rfl _).trans (by kernel_rfl)) ((copied_calls hr).mono ?_)
    rintro e w5 ⟨cv, rfl, hcv, hb5⟩
    refine ⟨_, rfl, ?_⟩
    clear hF a; intro a hF
    have hr := hr.below hb5
    have ht := ht.below hb5
    have hS := hS.below hb5
    have hb := hb.trans (hb5.mono hAw)
    have hAw := Nat.le_trans hAw hb5.size
    refine st_dec (l := b) 40 41 36 42 43 44 8 9 10 hF hcv.rb hS rfl ?_ (Wi.unpack_ok b)
    clear hF a; intro a w6 D qv T hF hQ hoq hb7 hD hqk
    have hr := hr.below hb7
    have ht := ht.below hb7
    have hS := hS.below hb7
    have hb := hb.trans (hb7.mono hAw)
    have hAw := Nat.le_trans hAw hb7.size
    obtain ⟨U, rfl⟩ := Og.Fr.lit_ex hF (fun U => ⟨#[.slice bp n c, U 1, U 2, U 3, .bool false, U 5, .int .i64 (n : Nat), .int .i64 71, U 8, U 9, U 10, U 11, U 12, U 13, U 14, U 15, U 16, U 17, U 18, U 19, U 20, U 21, U 22, U 23, U 24, U 25, U 26, U 27, U 28, U 29, U 30, U 31, U 32, U 33, U 34, U 35, U 36, U 37, U 38, U 39, U 40, U 41, U 42, U 43, U 44, U 45, U 46, U 47, U 48, U 49, U 50, U 51, U 52, U 53, U 54, U 55, U 56, U 57, U 58, U 59, U 60, U 61, U 62, U 63, U 64, U 65, U 66, U 67, U 68, U 69, U 70, U 71, U 72, U 73, U 74, U 75, U 76, U 77, U 78, U 79, U 80, U 81, U 82, U 83, U 84, U 85, U 86, U 87, U 88, U 89, U 90, U 91, U 92, U 93, U 94, U 95, U 96, U 97, U 98, U 99, U 100, U 101, U 102, U 103, U 104, U 105, U 106], []⟩) (by kernel_rfl)
    clear hF hQ hoq hr ht hS hcv
    refine hnext _ _ ?_
    clear hnext
    go_wp2_with (first | (go_at_call 17; refine (num_same _ _).out.mono ?_; rintro e w8 ⟨rfl, rfl⟩) | fail)
    go_ret
    exact ⟨by first | rfl | simp, by first | exact hb | (rw [hA]; exact hb)⟩
  · have hbne : b ≠ [] := fun e => by rw [e] at hlt; exact absurd hlt (Nat.not_lt_zero _)
    subst hvl
    obtain ⟨g, o, rfl, -, -, hcn, hcm⟩ := hr.addr hbne
    rw [← Hn.out] at hlt
    have hltI : (at_ : Int) < (n : Int) := by exact_mod_cast hlt
    have hgt : ¬ ((n : Int) < (at_ : Int)) := by omega
    have hge : ¬ ((n : Int) ≤ (at_ : Int)) := by omega
    have hz0 : (0 : Int) ≤ (at_ : Int) := by omega
    have hn0 : ¬ ((at_ : Int) < 0) := by omega
    have hat8 : at_ ≤ 1187 := hnear (by rcases hcase with h | h | h <;> rw [h.1] <;> decide) (by rcases hcase with h | h | h <;> rw [h.1] <;> decide)
    have he0 : (er == 0) = false := by rcases hcase with h | h | h <;> rw [h.1] <;> rfl
    have hr1 : RB w3 (.slice (some ⟨g, o, none⟩) at_ c) (b.take at_) := by
      have h := hr
      rw [Hn.out] at h
      exact h.front at_ c (by rw [← Hn.out]; omega) (by omega) hcm
    have Hcase := Lib.hid hcase
    have Hag := Lib.hid hag
    clear hnear hcase hag
    have hSh := Lib.hid hS
    have hrh := Lib.hid hr
    have hth := Lib.hid ht
    clear hS hr ht
    go_upto_region 8 with (first | (go_at_call 17; refine (num_same _ _).out.mono ?_; rintro e w4 ⟨rfl, rfl⟩) | fail)
    rename_i hnext
    have hS := hSh.out
    have hr := hrh.out
    have ht := hth.out
    clear hSh hrh hth
    refine wp_region_lit ?_
    refine Og.st_start (n := 107) rfl fun a hF => ?_
    refine Og.st_same (.slice (some ⟨g, o, none⟩) n c) hF rfl rfl (by decide) (by kernel_rfl) ?_
    clear hF a; intro a hF
    refine Og.st_same (.int .i64 (at_ : Nat)) hF rfl rfl (by decide) (by kernel_rfl) ?_
    clear hF a; intro a hF
    refine Og.st_same (.slice (some ⟨g, o, none⟩) at_ c) hF rfl rfl (by decide) (exec_sliceAt rfl (slice_front w3 g o n c at_ (by omega))) ?_
    clear hF a; intro a hF
    refine Og.st_call (f := 30) (args := #[.slice (some ⟨g, o, none⟩) at_ c]) hF rfl rfl (by decide) ((Og.exec_call rfl copied_enter rfl _).trans (by kernel_rfl)) ((copied_calls hr1).mono ?_)
    rintro e w5 ⟨cv, rfl, hcv, hb5⟩
    refine ⟨_, rfl, ?_⟩
    clear hF a; intro a hF
    have hr := hr.below hb5
    have ht := ht.below hb5
    have hS := hS.below hb5
    have hb := hb.trans (hb5.mono hAw)
    have hAw := Nat.le_trans hAw hb5.size
    refine st_dec (l := b.take at_) 40 41 36 42 43 44 8 9 10 hF hcv.rb hS rfl ?_ (Wi.unpack_ok _)
    clear hF a; intro a w9 D qv T hF hQ hoq hb7 hD hqk
    have hr := hr.below hb7
    have ht := ht.below hb7
    have hS := hS.below hb7
    have hb := hb.trans (hb7.mono hAw)
    have hAw := Nat.le_trans hAw hb7.size
    have hSq : 3 < w9.heap.size := hS.1
    have hA9 := hAw
    clear hQ hoq hcv hb7 hD hqk hr1 hb5
    rcases Hcase.out with ⟨rfl, hf⟩ | ⟨rfl, hz, hf⟩ | ⟨rfl, hz, hf⟩
    · rw [hf] at hF
      obtain ⟨U, rfl⟩ := Og.Fr.lit_ex hF (fun U => ⟨#[.slice (some ⟨g, o, none⟩) n c, tv, U 2, U 3, .bool false, U 5, .int .i64 (at_ : Nat), .int .i64 76, U 8, .int .i64 0, .int .i64 0, U 11, U 12, U 13, U 14, U 15, U 16, U 17, U 18, U 19, U 20, U 21, U 22, U 23, U 24, U 25, U 26, U 27, U 28, U 29, U 30, U 31, U 32, U 33, U 34, U 35, U 36, U 37, U 38, U 39, U 40, U 41, U 42, U 43, U 44, U 45, U 46, U 47, U 48, U 49, U 50, U 51, U 52, U 53, U 54, U 55, U 56, U 57, U 58, U 59, U 60, U 61, U 62, U 63, U 64, U 65, U 66, U 67, U 68, U 69, U 70, U 71, U 72, U 73, U 74, U 75, U 76, U 77, U 78, U 79, U 80, U 81, U 82, U 83, U 84, U 85, U 86, U 87, U 88, U 89, U 90, U 91, U 92, U 93, U 94, U 95, U 96, U 97, U 98, U 99, U 100, U 101, U 102, U 103, U 104, U 105, U 106], []⟩) (by kernel_rfl)
      clear hF
      refine hnext _ _ ?_
      clear hnext
      have hag := Hag.out
      clear Hcase Hag hf he0
      have hSh := Lib.hid hS
      have hrh := Lib.hid hr
      have hth := Lib.hid ht
      clear hS hr ht
      go_upto_region 22 with (first | (go_at_call 17; refine (num_same _ _).out.mono ?_; rintro e w8 ⟨rfl, rfl⟩) | fail)
      rename_i hnext
      have hS := hSh.out
      have hr := hrh.out
      have ht := hth.out
      clear hSh hrh hth
      have hr2 : RB w9 (.slice (some ⟨g, o, none⟩) (at_ + 1) c) (b.take (at_ + 1)) := by
        have h := hr
        rw [Hn.out] at h
        exact h.front (at_ + 1) c (by rw [← Hn.out]; omega) (by omega) hcm
      refine wp_region_lit ?_
      refine Og.st_start (n := 107) rfl fun a hF => ?_
      refine Og.st_same (.slice (some ⟨g, o, none⟩) n c) hF rfl rfl (by decide) (by kernel_rfl) ?_
      clear hF a; intro a hF
      refine Og.st_same (.int .i64 (at_ : Nat)) hF rfl rfl (by decide) (by kernel_rfl) ?_
      clear hF a; intro a hF
      refine Og.st_same (.int .i64 ((at_ + 1 : Nat) : Int)) hF rfl rfl (by decide) (by
        have hw1 : IntKind.i64.wrap ((at_ : Int) + 1) = ((at_ + 1 : Nat) : Int) := by rw [IntWalk.i64_in _ ⟨by omega, by omega⟩]; rfl
        exact exec_add1 rfl rfl hw1 _) ?_
      clear hF a; intro a hF
      refine Og.st_same (.slice (some ⟨g, o, none⟩) (at_ + 1) c) hF rfl rfl (by decide) (exec_sliceAt rfl (slice_front w9 g o n c (at_ + 1) (by omega))) ?_
      clear hF a; intro a hF
      refine Og.st_call (f := 30) (args := #[.slice (some ⟨g, o, none⟩) (at_ + 1) c]) hF rfl rfl (by decide) ((Og.exec_call rfl copied_enter rfl _).trans (by kernel_rfl)) ((copied_calls hr2).mono ?_)
      rintro e w10 ⟨cv, rfl, hcv, hb5⟩
      refine ⟨_, rfl, ?_⟩
      clear hF a; intro a hF
      have hr := hr.below hb5
      have ht := ht.below hb5
      have hS := hS.below hb5
      have hb := hb.trans (hb5.mono hAw)
      have hAw := Nat.le_trans hAw hb5.size
      refine Og.st_same tv hF rfl rfl (by decide) (by kernel_rfl) ?_
      clear hF a; intro a hF
      have hlen2 : (b.take (at_ + 1)).length + tail.length ≤ 140737488355328 := by rw [List.length_take]; omega
      obtain ⟨av, w11, hrun, ha6, hg6, hat6⟩ := run_append_OB hcv ht hlen2 hb5.size
      refine Og.st_val (w' := w11) av hF rfl rfl (by decide) (Og.exec_append rfl hrun) ?_
      clear hF a; intro a hF
      have hclt : ∀ k, cv.ownBlock = some k → w9.heap.size ≤ k := fun k e => (hcv.lt k e).1
      have hbq : Below w9.heap.size w10 w11 := (Below.refl _ _).grown hg6 hb5.size hclt
      have hS := hS.belowB hSq hbq
      have hb := hb.trans (hbq.mono hA9)
      have hAw : A ≤ w11.heap.size := by rw [← hA]; exact hb.size
      have hok := Wi.unpack_ok (b.take (at_ + 1) ++ tail)
      refine st_dec (l := b.take (at_ + 1) ++ tail) 92 93 85 94 95 96 11 12 13 hF ha6.rb hS rfl ?_ hok
      clear hF a; intro a w12 D2 qv2 T2 hF hQ2 hoq2 hb7 hD2 hqk2
      rw [hag] at *
      have hb := hb.trans (hb7.mono hAw)
      obtain ⟨U, rfl⟩ := Og.Fr.lit_ex hF (fun U => ⟨#[U 0, U 1, U 2, U 3, .bool false, U 5, .int .i64 (at_ : Nat), .int .i64 76, U 8, U 9, U 10, U 11, .int .i64 (at_ : Nat), .int .i64 76, U 14, U 15, U 16, U 17, U 18, U 19, U 20, U 21, U 22, U 23, U 24, U 25, U 26, U 27, U 28, U 29, U 30, U 31, U 32, U 33, U 34, U 35, U 36, U 37, U 38, U 39, U 40, U 41, U 42, U 43, U 44, U 45, U 46, U 47, U 48, U 49, U 50, U 51, U 52, U 53, U 54, U 55, U 56, U 57, U 58, U 59, U 60, U 61, U 62, U 63, U 64, U 65, U 66, U 67, U 68, U 69, U 70, U 71, U 72, U 73, U 74, U 75, U 76, U 77, U 78, U 79, U 80, U 81, U 82, U 83, U 84, U 85, U 86, U 87, U 88, U 89, U 90, U 91, U 92, U 93, U 94, U 95, U 96, U 97, U 98, U 99, U 100, U 101, U 102, U 103, U 104, U 105, U 106], []⟩) (by kernel_rfl)
      clear hF hQ2 hoq2 hr ht hS hr2 hcv ha6
      refine hnext _ _ ?_
      clear hnext
      have hae : ((at_ : Int) == (at_ : Int)) = true := beq_self_eq_true _
      go_wp2_with (first | (go_at_call 17; refine (num_same _ 76).out.mono ?_; rintro e w13 ⟨rfl, rfl⟩) | fail)
      go_ret
      exact ⟨rfl, by first | exact hb | (rw [hA]; exact hb)⟩
    · rw [hf] at hF
      have hz1 : ((at_ : Int) == 0) = true := by rw [hz]; rfl
      have hz2 : ((at_ : Int) != (at_ : Int)) = false := by simp
      have hzz := Lib.hid hz
      obtain ⟨U, rfl⟩ := Og.Fr.lit_ex hF (fun U => ⟨#[.slice (some ⟨g, o, none⟩) n c, tv, U 2, U 3, .bool false, U 5, .int .i64 (at_ : Nat), .int .i64 74, U 8, .int .i64 (at_ : Nat), .int .i64 71, U 11, U 12, U 13, U 14, U 15, U 16, U 17, U 18, U 19, U 20, U 21, U 22, U 23, U 24, U 25, U 26, U 27, U 28, U 29, U 30, U 31, U 32, U 33, U 34, U 35, U 36, U 37, U 38, U 39, U 40, U 41, U 42, U 43, U 44, U 45, U 46, U 47, U 48, U 49, U 50, U 51, U 52, U 53, U 54, U 55, U 56, U 57, U 58, U 59, U 60, U 61, U 62, U 63, U 64, U 65, U 66, U 67, U 68, U 69, U 70, U 71, U 72, U 73, U 74, U 75, U 76, U 77, U 78, U 79, U 80, U 81, U 82, U 83, U 84, U 85, U 86, U 87, U 88, U 89, U 90, U 91, U 92, U 93, U 94, U 95, U 96, U 97, U 98, U 99, U 100, U 101, U 102, U 103, U 104, U 105, U 106], []⟩) (by kernel_rfl)
      clear hF
      refine hnext _ _ ?_
      clear hnext
      have hag := Hag.out
      clear Hcase Hag hf hz he0
      have hSh := Lib.hid hS
      have hrh := Lib.hid hr
      have hth := Lib.hid ht
      clear hS hr ht
      go_upto_region 22 with (first | (go_at_call 17; refine (num_same _ _).out.mono ?_; rintro e w8 ⟨rfl, rfl⟩) | fail)
      rename_i hnext
      have hS := hSh.out
      have hr := hrh.out
      have ht := hth.out
      clear hSh hrh hth
      have hr2 : RB w9 (.slice (some ⟨g, o, none⟩) (at_ + 1) c) (b.take (at_ + 1)) := by
        have h := hr
        rw [Hn.out] at h
        exact h.front (at_ + 1) c (by rw [← Hn.out]; omega) (by omega) hcm
      refine wp_region_lit ?_
      refine Og.st_start (n := 107) rfl fun a hF => ?_
      refine Og.st_same (.slice (some ⟨g, o, none⟩) n c) hF rfl rfl (by decide) (by kernel_rfl) ?_
      clear hF a; intro a hF
      refine Og.st_same (.int .i64 (at_ : Nat)) hF rfl rfl (by decide) (by kernel_rfl) ?_
      clear hF a; intro a hF
      refine Og.st_same (.int .i64 ((at_ + 1 : Nat) : Int)) hF rfl rfl (by decide) (by
        have hw1 : IntKind.i64.wrap ((at_ : Int) + 1) = ((at_ + 1 : Nat) : Int) := by rw [IntWalk.i64_in _ ⟨by omega, by omega⟩]; rfl
        exact exec_add1 rfl rfl hw1 _) ?_
      clear hF a; intro a hF
      refine Og.st_same (.slice (some ⟨g, o, none⟩) (at_ + 1) c) hF rfl rfl (by decide) (exec_sliceAt rfl (slice_front w9 g o n c (at_ + 1) (by omega))) ?_
      clear hF a; intro a hF
      refine Og.st_call (f := 30) (args := #[.slice (some ⟨g, o, none⟩) (at_ + 1) c]) hF rfl rfl (by decide) ((Og.exec_call rfl copied_enter rfl _).trans (by kernel_rfl)) ((copied_calls hr2).mono ?_)
      rintro e w10 ⟨cv, rfl, hcv, hb5⟩
      refine ⟨_, rfl, ?_⟩
      clear hF a; intro a hF
      have hr := hr.below hb5
      have ht := ht.below hb5
      have hS := hS.below hb5
      have hb := hb.trans (hb5.mono hAw)
      have hAw := Nat.le_trans hAw hb5.size
      refine Og.st_same tv hF rfl rfl (by decide) (by kernel_rfl) ?_
      clear hF a; intro a hF
      have hlen2 : (b.take (at_ + 1)).length + tail.length ≤ 140737488355328 := by rw [List.length_take]; omega
      obtain ⟨av, w11, hrun, ha6, hg6, hat6⟩ := run_append_OB hcv ht hlen2 hb5.size
      refine Og.st_val (w' := w11) av hF rfl rfl (by decide) (Og.exec_append rfl hrun) ?_
      clear hF a; intro a hF
      have hclt : ∀ k, cv.ownBlock = some k → w9.heap.size ≤ k := fun k e => (hcv.lt k e).1
      have hbq : Below w9.heap.size w10 w11 := (Below.refl _ _).grown hg6 hb5.size hclt
      have hS := hS.belowB hSq hbq
      have hb := hb.trans (hbq.mono hA9)
      have hAw : A ≤ w11.heap.size := by rw [← hA]; exact hb.size
      have hok := Wi.unpack_ok (b.take (at_ + 1) ++ tail)
      refine st_dec (l := b.take (at_ + 1) ++ tail) 92 93 85 94 95 96 11 12 13 hF ha6.rb hS rfl ?_ hok
      clear hF a; intro a w12 D2 qv2 T2 hF hQ2 hoq2 hb7 hD2 hqk2
      rw [hag] at *
      have hb := hb.trans (hb7.mono hAw)
      obtain ⟨U, rfl⟩ := Og.Fr.lit_ex hF (fun U => ⟨#[U 0, U 1, U 2, U 3, .bool false, U 5, .int .i64 (at_ : Nat), .int .i64 74, U 8, U 9, U 10, U 11, .int .i64 (at_ : Nat), .int .i64 74, U 14, U 15, U 16, U 17, U 18, U 19, U 20, U 21, U 22, U 23, U 24, U 25, U 26, U 27, U 28, U 29, U 30, U 31, U 32, U 33, U 34, U 35, U 36, U 37, U 38, U 39, U 40, U 41, U 42, U 43, U 44, U 45, U 46, U 47, U 48, U 49, U 50, U 51, U 52, U 53, U 54, U 55, U 56, U 57, U 58, U 59, U 60, U 61, U 62, U 63, U 64, U 65, U 66, U 67, U 68, U 69, U 70, U 71, U 72, U 73, U 74, U 75, U 76, U 77, U 78, U 79, U 80, U 81, U 82, U 83, U 84, U 85, U 86, U 87, U 88, U 89, U 90, U 91, U 92, U 93, U 94, U 95, U 96, U 97, U 98, U 99, U 100, U 101, U 102, U 103, U 104, U 105, U 106], []⟩) (by kernel_rfl)
      clear hF hQ2 hoq2 hr ht hS hr2 hcv ha6
      refine hnext _ _ ?_
      clear hnext
      have hae : ((at_ : Int) == (at_ : Int)) = true := beq_self_eq_true _
      go_wp2_with (first | (go_at_call 17; refine (num_same _ 74).out.mono ?_; rintro e w13 ⟨rfl, rfl⟩) | fail)
      go_ret
      exact ⟨rfl, by first | exact hb | (rw [hA]; exact hb)⟩
    · rw [hf] at hF
      have hz1 : ((at_ : Int) == 0) = false := by
        have : ¬ (at_ : Int) = 0 := by omega
        simpa using this
      have hz2 : ((at_ : Int) != (at_ : Int)) = false := by simp
      obtain ⟨U, rfl⟩ := Og.Fr.lit_ex hF (fun U => ⟨#[.slice (some ⟨g, o, none⟩) n c, tv, U 2, U 3, .bool false, U 5, .int .i64 (at_ : Nat), .int .i64 75, U 8, .int .i64 (at_ : Nat), .int .i64 71, U 11, U 12, U 13, U 14, U 15, U 16, U 17, U 18, U 19, U 20, U 21, U 22, U 23, U 24, U 25, U 26, U 27, U 28, U 29, U 30, U 31, U 32, U 33, U 34, U 35, U 36, U 37, U 38, U 39, U 40, U 41, U 42, U 43, U 44, U 45, U 46, U 47, U 48, U 49, U 50, U 51, U 52, U 53, U 54, U 55, U 56, U 57, U 58, U 59, U 60, U 61, U 62, U 63, U 64, U 65, U 66, U 67, U 68, U 69, U 70, U 71, U 72, U 73, U 74, U 75, U 76, U 77, U 78, U 79, U 80, U 81, U 82, U 83, U 84, U 85, U 86, U 87, U 88, U 89, U 90, U 91, U 92, U 93, U 94, U 95, U 96, U 97, U 98, U 99, U 100, U 101, U 102, U 103, U 104, U 105, U 106], []⟩) (by kernel_rfl)
      clear hF
      refine hnext _ _ ?_
      clear hnext
      have hag := Hag.out
      clear Hcase Hag hf hz he0
      have hSh := Lib.hid hS
      have hrh := Lib.hid hr
      have hth := Lib.hid ht
      clear hS hr ht
      go_upto_region 22 with (first | (go_at_call 17; refine (num_same _ _).out.mono ?_; rintro e w8 ⟨rfl, rfl⟩) | fail)
      rename_i hnext
      have hS := hSh.out
      have hr := hrh.out
      have ht := hth.out
      clear hSh hrh hth
      have hr2 : RB w9 (.slice (some ⟨g, o, none⟩) (at_ + 1) c) (b.take (at_ + 1)) := by
        have h := hr
        rw [Hn.out] at h
        exact h.front (at_ + 1) c (by rw [← Hn.out]; omega) (by omega) hcm
      refine wp_region_lit ?_
      refine Og.st_start (n := 107) rfl fun a hF => ?_
      refine Og.st_same (.slice (some ⟨g, o, none⟩) n c) hF rfl rfl (by decide) (by kernel_rfl) ?_
      clear hF a; intro a hF
      refine Og.st_same (.int .i64 (at_ : Nat)) hF rfl rfl (by decide) (by kernel_rfl) ?_
      clear hF a; intro a hF
      refine Og.st_same (.int .i64 ((at_ + 1 : Nat) : Int)) hF rfl rfl (by decide) (by
        have hw1 : IntKind.i64.wrap ((at_ : Int) + 1) = ((at_ + 1 : Nat) : Int) := by rw [IntWalk.i64_in _ ⟨by omega, by omega⟩]; rfl
        exact exec_add1 rfl rfl hw1 _) ?_
      clear hF a; intro a hF
      refine Og.st_same (.slice (some ⟨g, o, none⟩) (at_ + 1) c) hF rfl rfl (by decide) (exec_sliceAt rfl (slice_front w9 g o n c (at_ + 1) (by omega))) ?_
      clear hF a; intro a hF
      refine Og.st_call (f := 30) (args := #[.slice (some ⟨g, o, none⟩) (at_ + 1) c]) hF rfl rfl (by decide) ((Og.exec_call rfl copied_enter rfl _).trans (by kernel_rfl)) ((copied_calls hr2).mono ?_)
      rintro e w10 ⟨cv, rfl, hcv, hb5⟩
      refine ⟨_, rfl, ?_⟩
      clear hF a; intro a hF
      have hr := hr.below hb5
      have ht := ht.below hb5
      have hS := hS.below hb5
      have hb := hb.trans (hb5.mono hAw)
      have hAw := Nat.le_trans hAw hb5.size
      refine Og.st_same tv hF rfl rfl (by decide) (by kernel_rfl) ?_
      clear hF a; intro a hF
      have hlen2 : (b.take (at_ + 1)).length + tail.length ≤ 140737488355328 := by rw [List.length_take]; omega
      obtain ⟨av, w11, hrun, ha6, hg6, hat6⟩ := run_append_OB hcv ht hlen2 hb5.size
      refine Og.st_val (w' := w11) av hF rfl rfl (by decide) (Og.exec_append rfl hrun) ?_
      clear hF a; intro a hF
      have hclt : ∀ k, cv.ownBlock = some k → w9.heap.size ≤ k := fun k e => (hcv.lt k e).1
      have hbq : Below w9.heap.size w10 w11 := (Below.refl _ _).grown hg6 hb5.size hclt
      have hS := hS.belowB hSq hbq
      have hb := hb.trans (hbq.mono hA9)
      have hAw : A ≤ w11.heap.size := by rw [← hA]; exact hb.size
      have hok := Wi.unpack_ok (b.take (at_ + 1) ++ tail)
      refine st_dec (l := b.take (at_ + 1) ++ tail) 92 93 85 94 95 96 11 12 13 hF ha6.rb hS rfl ?_ hok
      clear hF a; intro a w12 D2 qv2 T2 hF hQ2 hoq2 hb7 hD2 hqk2
      rw [hag] at *
      have hb := hb.trans (hb7.mono hAw)
      obtain ⟨U, rfl⟩ := Og.Fr.lit_ex hF (fun U => ⟨#[U 0, U 1, U 2, U 3, .bool false, U 5, .int .i64 (at_ : Nat), .int .i64 75, U 8, U 9, U 10, U 11, .int .i64 (at_ : Nat), .int .i64 75, U 14, U 15, U 16, U 17, U 18, U 19, U 20, U 21, U 22, U 23, U 24, U 25, U 26, U 27, U 28, U 29, U 30, U 31, U 32, U 33, U 34, U 35, U 36, U 37, U 38, U 39, U 40, U 41, U 42, U 43, U 44, U 45, U 46, U 47, U 48, U 49, U 50, U 51, U 52, U 53, U 54, U 55, U 56, U 57, U 58, U 59, U 60, U 61, U 62, U 63, U 64, U 65, U 66, U 67, U 68, U 69, U 70, U 71, U 72, U 73, U 74, U 75, U 76, U 77, U 78, U 79, U 80, U 81, U 82, U 83, U 84, U 85, U 86, U 87, U 88, U 89, U 90, U 91, U 92, U 93, U 94, U 95, U 96, U 97, U 98, U 99, U 100, U 101, U 102, U 103, U 104, U 105, U 106], []⟩) (by kernel_rfl)
      clear hF hQ2 hoq2 hr ht hS hr2 hcv ha6
      refine hnext _ _ ?_
      clear hnext
      have hae : ((at_ : Int) == (at_ : Int)) = true := beq_self_eq_true _
      go_wp2_with (first | (go_at_call 17; refine (num_same _ 75).out.mono ?_; rintro e w13 ⟨rfl, rfl⟩) | fail)
      go_ret
      exact ⟨rfl, by first | exact hb | (rw [hA]; exact hb)⟩
end Go.Proofs.YtbgfoobcpacfeaaDoor
