/- The statement WireBack: the walk. (Printed by wip/w7gen/mkback.py.) -/
import Derived.Test.YtbgfoobcpacfeaaDoorPk8
namespace Go.Proofs.YtbgfoobcpacfeaaDoor
open Go.RowKit
set_option maxRecDepth 100000
set_option linter.unusedVariables false
set_option linter.unusedSimpArgs false

set_option maxHeartbeats 8000000 in
theorem wireBack_calls {w : World} {pv : Value} {p : Wi.Pk} (hp : p.Ok) (hr : RB w pv p.data) (hS : Szs w) : Pur Tryd.prog 6 #[.agg (pkL p pv).toArray] w (.bool true) := by
  unfold Pur
  have hP1 : PkAt (w.alloc (.cells (pkL p pv).toArray 34)) w.heap.size p pv := heap_new w _ _ rfl
  have hb1 := below_alloc1 w (.cells (pkL p pv).toArray 34)
  have hr1 := hr.below hb1
  have hS1 := hS.below hb1
  generalize hca : (pkL p pv).toArray = ca at hP1 hb1 hr1 hS1 ⊢
  go_enter Tryd.func6, Tryd.ntmps6
  go_upto_region 1 with fail
  rename_i hnext
  rw [← hca] at *
  generalize w.alloc (.cells (pkL p pv).toArray 34) = w1 at *
  generalize hA : w.heap.size = A at *
  refine wp_region_lit ?_
  refine Og.st_start (n := 44) rfl fun a hF => ?_
  refine Og.st_same (.agg (pkL p pv).toArray) hF rfl rfl (by decide) (Og.exec_load rfl (load_pk hP1 hp)) ?_
  clear hF a; intro a hF
  refine Og.st_call (f := 28) (args := #[.agg (pkL p pv).toArray]) hF rfl rfl (by decide) ((Og.exec_call rfl ownP_enter rfl _).trans (by kernel_rfl)) ((ownP_calls hp hr1).mono ?_)
  rintro e w2 ⟨ov, rfl, hov, hb2⟩
  refine ⟨_, rfl, ?_⟩
  clear hF a; intro a hF
  have hP2 := hP1.below hb2
  have hr2 := hr1.below hb2
  have hS2 := hS1.below hb2
  refine st_enc (p := p) (pv := ov) 10 11 8 12 13 3 4 hF hp hov hS2 rfl ?_
  clear hF a; intro a w3 v T hF ho hb3
  have hP := hP2.below hb3
  have hr := hr2.below hb3
  have hS := hS2.below hb3
  have hb := hb1.trans ((hb2.mono (hA ▸ hb1.size)).trans (hb3.mono (Nat.le_trans (hA ▸ hb1.size) hb2.size)))
  have hAw : A ≤ w3.heap.size := by rw [← hA]; exact hb.size
  obtain ⟨U, rfl⟩ := Og.Fr.lit_ex hF (fun U => ⟨#[U 0, .pointer (some ⟨A, 0, none⟩), .bool false, v, .int .i64 (Wi.packErr p), U 5, U 6, U 7, U 8, U 9, U 10, U 11, U 12, U 13, U 14, U 15, U 16, U 17, U 18, U 19, U 20, U 21, U 22, U 23, U 24, U 25, U 26, U 27, U 28, U 29, U 30, U 31, U 32, U 33, U 34, U 35, U 36, U 37, U 38, U 39, U 40, U 41, U 42, U 43], []⟩) (by kernel_rfl)
  clear hF hP1 hP2 hr1 hr2 hS1 hS2 hb1 hb2 hb3
  refine hnext _ _ ?_
  clear hnext
  cases he : ((Wi.packErr p) != 0)
  · have he0 : Wi.packErr p = 0 := by simpa using he
    have hu : Wi.unpack (Wi.packOut p) = (p, 0, 0) := by
      unfold Wi.packOut
      rw [if_pos he0]
      exact Wi.unpack_packed hp he0
    rw [he0]
    clear he
    go_upto_region 4 with (first | (go_at_call 17; refine (num_same _ 0).out.mono ?_; rintro e w4 ⟨rfl, rfl⟩) | fail)
    rename_i hnext
    refine wp_region_lit ?_
    refine Og.st_start (n := 44) rfl fun a hF => ?_
    refine Og.st_same v hF rfl rfl (by decide) (by kernel_rfl) ?_
    clear hF a; intro a hF
    have hok := Wi.unpack_ok (Wi.packOut p)
    refine st_dec (l := Wi.packOut p) 24 25 23 26 27 28 5 6 7 hF ho.rb hS rfl ?_ hok
    clear hF a; intro a w4 D qv T hF hQ hoq hb4 hD hqk
    rw [hu] at *
    have hP := hP.below hb4
    have hr := hr.below hb4
    have hS := hS.below hb4
    have hb := hb.trans (hb4.mono hAw)
    have hAw := Nat.le_trans hAw hb4.size
    have hvq : RB w4 qv p.data := hoq.rb
    obtain ⟨U, rfl⟩ := Og.Fr.lit_ex hF (fun U => ⟨#[U 0, .pointer (some ⟨A, 0, none⟩), .bool false, U 3, U 4, .pointer (some ⟨D, 0, none⟩), .int .i64 0, .int .i64 0, U 8, U 9, U 10, U 11, U 12, U 13, U 14, U 15, U 16, U 17, U 18, U 19, U 20, U 21, U 22, U 23, U 24, U 25, U 26, U 27, U 28, U 29, U 30, U 31, U 32, U 33, U 34, U 35, U 36, U 37, U 38, U 39, U 40, U 41, U 42, U 43], []⟩) (by kernel_rfl)
    clear hF hoq ho
    refine hnext _ _ ?_
    clear hnext
    go_upto_region 5 with fail
    rename_i hnext
    refine wp_region_lit ?_
    refine Og.st_start (n := 44) rfl fun a hF => ?_
    refine Og.st_call (f := 29) (args := #[]) hF rfl rfl (by decide) ((Og.exec_call rfl example_enter rfl _).trans (by kernel_rfl)) ((example_calls hS).out.mono ?_)
    rintro e w6 ⟨rfl, hb6⟩
    have hP := hP.below hb6
    have hQ := hQ.below hb6
    have hr := hr.below hb6
    have hS := hS.below hb6
    have hvq := hvq.below hb6
    have hb := hb.trans (hb6.mono hAw)
    have hAw := Nat.le_trans hAw hb6.size
    refine ⟨_, rfl, ?_⟩
    clear hF a; intro a hF
    refine Og.st_same (.bool true) hF rfl rfl (by decide) (by kernel_rfl) ?_
    clear hF a; intro a hF
    refine Og.st_same_g (.int .i64 0) hF (by kernel_rfl) rfl (by decide) (by kernel_rfl) ?_
    clear hF a; intro a hF
    refine Og.st_call_g (f := 17) (args := #[.int .i64 0]) hF (by kernel_rfl) rfl (by decide) ((Og.exec_call rfl num_enter rfl _).trans (by kernel_rfl)) ((num_calls _ 0).out.mono ?_)
    rintro e w7 ⟨rfl, hb7⟩
    have hP := hP.below hb7
    have hQ := hQ.below hb7
    have hr := hr.below hb7
    have hS := hS.below hb7
    have hvq := hvq.below hb7
    have hb := hb.trans (hb7.mono hAw)
    have hAw := Nat.le_trans hAw hb7.size
    refine ⟨_, rfl, ?_⟩
    clear hF a; intro a hF
    refine Og.st_same_g (.bool true) hF (by kernel_rfl) rfl (by decide) (by kernel_rfl) ?_
    clear hF a; intro a hF
    refine Og.st_same (.bool true) hF rfl rfl (by decide) (by kernel_rfl) ?_
    clear hF a; intro a hF
    refine Og.st_same (.bool true) hF rfl rfl (by decide) (by kernel_rfl) ?_
    clear hF a; intro a hF
    refine Og.st_same_g (.int .i64 0) hF (by kernel_rfl) rfl (by decide) (by kernel_rfl) ?_
    clear hF a; intro a hF
    refine Og.st_same_g (.bool true) hF (by kernel_rfl) rfl (by decide) (by kernel_rfl) ?_
    clear hF a; intro a hF
    refine Og.st_same (.bool true) hF rfl rfl (by decide) (by kernel_rfl) ?_
    clear hF a; intro a hF
    refine Og.st_same (.bool true) hF rfl rfl (by decide) (by kernel_rfl) ?_
    clear hF a; intro a hF
    refine Og.st_same_g (.agg (pkL p pv).toArray) hF (by kernel_rfl) rfl (by decide) (Og.exec_load rfl (load_pk hP hp)) ?_
    clear hF a; intro a hF
    refine Og.st_same_g (.agg (pkL p qv).toArray) hF (by kernel_rfl) rfl (by decide) (Og.exec_load rfl (load_pk hQ hp)) ?_
    clear hF a; intro a hF
    refine Og.st_call_g (f := 23) (args := #[.agg (pkL p pv).toArray, .agg (pkL p qv).toArray]) hF (by kernel_rfl) rfl (by decide) ((Og.exec_call rfl samePk_enter rfl _).trans (by kernel_rfl)) ((samePk_calls hp hr hvq).out.mono ?_)
    rintro e w8 ⟨rfl, hb8⟩
    have hP := hP.below hb8
    have hQ := hQ.below hb8
    have hr := hr.below hb8
    have hS := hS.below hb8
    have hvq := hvq.below hb8
    have hb := hb.trans (hb8.mono hAw)
    have hAw := Nat.le_trans hAw hb8.size
    refine ⟨_, rfl, ?_⟩
    clear hF a; intro a hF
    refine Og.st_same (.bool true) hF rfl rfl (by decide) (by kernel_rfl) ?_
    clear hF a; intro a hF
    refine Og.st_same (.bool true) hF rfl rfl (by decide) (by kernel_rfl) ?_
    clear hF a; intro a hF
    refine wpList_nil ?_
    refine hnext _ _ (wp_ret ?_)
    (try simp only [Exit.inBlock, Exit.then])
    refine bodyPost_ret (v := .bool true) ?_ hF.1 ?_
    · exact (results_tmp rfl _ _ _).trans (by rw [hF.2.2 2]; rfl)
    · exact ⟨rfl, by rw [hA]; exact hb⟩
  · have ho0 : Wi.packOut p = [] := by
      unfold Wi.packOut
      rw [if_neg (by simpa using he)]
    rw [ho0] at ho
    obtain ⟨q, c, hvf⟩ := ho.rb.form
    have hS3 := Lib.hid hS
    clear ho hr hP hS hca
    subst hvf
    go_wp2_with (first | (go_at_call 17; refine (num_same _ (Wi.packErr p)).out.mono ?_; rintro e w4 ⟨rfl, rfl⟩) | fail)
    refine (example_calls hS3.out).out.mono ?_
    rintro e w4 ⟨rfl, hb4⟩
    go_wp2_with fail
    go_ret
    exact ⟨rfl, by rw [hA]; exact hb.trans (hb4.mono hAw)⟩
end Go.Proofs.YtbgfoobcpacfeaaDoor
