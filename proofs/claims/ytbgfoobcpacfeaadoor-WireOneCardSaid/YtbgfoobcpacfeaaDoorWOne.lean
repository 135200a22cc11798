/- The statement WireOne: the walk. (Printed by wip/w7gen/mkone.py.) -/
import Derived.Test.YtbgfoobcpacfeaaDoorPk8
namespace Go.Proofs.YtbgfoobcpacfeaaDoor
open Go.RowKit
set_option maxRecDepth 100000
set_option linter.unusedVariables false
set_option linter.unusedSimpArgs false

set_option maxHeartbeats 8000000 in
theorem wireOne_calls {w : World} {v : Value} {b : List UInt8} (hr : RB w v b) (hS : Szs w) : Pur Tryd.prog 7 #[v] w (.bool true) := by
  unfold Pur
  go_enter Tryd.func7, Tryd.ntmps7
  go_upto_region 1 with fail
  rename_i hnext
  generalize hA : w.heap.size = A at *
  refine wp_region_lit ?_
  refine Og.st_start (n := 40) rfl fun a hF => ?_
  refine Og.st_same v hF rfl rfl (by decide) (by kernel_rfl) ?_
  clear hF a; intro a hF
  refine Og.st_call (f := 30) (args := #[v]) hF rfl rfl (by decide) ((Og.exec_call rfl copied_enter rfl _).trans (by kernel_rfl)) ((copied_calls hr).mono ?_)
  rintro e w1 ⟨cv, rfl, hcv, hb1⟩
  refine ⟨_, rfl, ?_⟩
  clear hF a; intro a hF
  have hr := hr.below hb1
  have hS := hS.below hb1
  rw [hA] at hb1
  refine st_dec (l := b) 10 11 8 12 13 14 3 4 5 hF hcv.rb hS rfl ?_ (Wi.unpack_ok b)
  clear hF a; intro a w2 D qv T hF hQ hoq hb2 hD hqk
  have hr := hr.below hb2
  have hS := hS.below hb2
  have hb := hb1.trans (hb2.mono (hA ▸ hb1.size))
  have hAw : A ≤ w2.heap.size := by rw [← hA]; exact hb.size
  have hvq : RB w2 qv (Wi.unpack b).1.data := hoq.rb
  obtain ⟨U, rfl⟩ := Og.Fr.lit_ex hF (fun U => ⟨#[v, U 1, .bool false, .pointer (some ⟨D, 0, none⟩), U 4, .int .i64 (Wi.unpack b).2.2, U 6, U 7, U 8, U 9, U 10, U 11, U 12, U 13, U 14, U 15, U 16, U 17, U 18, U 19, U 20, U 21, U 22, U 23, U 24, U 25, U 26, U 27, U 28, U 29, U 30, U 31, U 32, U 33, U 34, U 35, U 36, U 37, U 38, U 39], []⟩) (by kernel_rfl)
  clear hF hoq hcv hb1 hb2 hD
  refine hnext _ _ ?_
  clear hnext
  cases he : ((Wi.unpack b).2.2 != 0)
  · have he0 : (Wi.unpack b).2.2 = 0 := by simpa using he
    obtain ⟨hpe, hpk, -⟩ := Wi.packed_unpack he0
    have hpo : Wi.packOut (Wi.unpack b).1 = b := by
      unfold Wi.packOut
      rw [if_pos hpe, hpk]
    rw [he0]
    clear he
    go_upto_region 4 with (first | (go_at_call 17; refine (num_same _ 0).out.mono ?_; rintro e w4 ⟨rfl, rfl⟩) | fail)
    rename_i hnext
    refine wp_region_lit ?_
    refine Og.st_start (n := 40) rfl fun a hF => ?_
    refine Og.st_same (.agg (pkL (Wi.unpack b).1 qv).toArray) hF rfl rfl (by decide) (Og.exec_load rfl (load_pk hQ hqk)) ?_
    clear hF a; intro a hF
    refine st_enc (p := (Wi.unpack b).1) (pv := qv) 25 26 24 27 28 6 7 hF hqk hvq hS rfl ?_
    clear hF a; intro a w3 ev T hF ho hb3
    rw [hpe, hpo] at *
    have hr := hr.below hb3
    have hS := hS.below hb3
    have hb := hb.trans (hb3.mono hAw)
    have hAw := Nat.le_trans hAw hb3.size
    obtain ⟨U, rfl⟩ := Og.Fr.lit_ex hF (fun U => ⟨#[v, U 1, .bool false, U 3, U 4, U 5, ev, .int .i64 0, U 8, U 9, U 10, U 11, U 12, U 13, U 14, U 15, U 16, U 17, U 18, U 19, U 20, U 21, U 22, U 23, U 24, U 25, U 26, U 27, U 28, U 29, U 30, U 31, U 32, U 33, U 34, U 35, U 36, U 37, U 38, U 39], []⟩) (by kernel_rfl)
    clear hF
    refine hnext _ _ ?_
    clear hnext
    have hS3 := Lib.hid hS
    have Hr := Lib.hid hr
    have Ho := Lib.hid ho
    clear hS ho hQ
    go_wp2_with fail
    refine (example_calls hS3.out).out.mono ?_
    rintro e w5 ⟨rfl, hb5⟩
    go_wp2_with (first | (go_at_call 17; refine (num_same _ 0).out.mono ?_; rintro e w4 ⟨rfl, rfl⟩) | fail)
    refine (same_calls (Hr.out.below hb5) (Ho.out.below hb5).rb).out.mono ?_
    rintro e w6 ⟨rfl, hb6⟩
    go_wp2_with fail
    go_ret
    exact ⟨rfl, by rw [hA]; exact (hb.trans (hb5.mono hAw)).trans (hb6.mono (Nat.le_trans hAw hb5.size))⟩
  · have he1 : (Wi.unpack b).2.2 ≠ 0 := by simpa using he
    have hz := Wi.unpack_err he1
    rw [hz] at hQ hvq
    clear he1
    go_upto_region 3 with (first | (go_at_call 17; refine (num_same _ (Wi.unpack b).2.2).out.mono ?_; rintro e w4 ⟨rfl, rfl⟩) | fail)
    rename_i hnext
    refine wp_region_lit ?_
    refine Og.st_start (n := 40) rfl fun a hF => ?_
    refine Og.st_call (f := 29) (args := #[]) hF rfl rfl (by decide) ((Og.exec_call rfl example_enter rfl _).trans (by kernel_rfl)) ((example_calls hS).out.mono ?_)
    rintro e w6 ⟨rfl, hb6⟩
    have hQ := hQ.below hb6
    have hr := hr.below hb6
    have hS := hS.below hb6
    have hvq := hvq.below hb6
    have hb := hb.trans (hb6.mono hAw)
    have hAw := Nat.le_trans hAw hb6.size
    refine ⟨_, rfl, ?_⟩
    clear hF a; intro a hF
    refine Og.st_same (.bool true) hF rfl rfl (by decide) (by kernel_rfl) ?_
    clear hF a; intro a hF
    refine Og.st_same_g (.agg (pkL (Wi.Pk.zero 0) qv).toArray) hF (by kernel_rfl) rfl (by decide) (Og.exec_load rfl (load_pk hQ (Wi.Pk.zero_ok 0))) ?_
    clear hF a; intro a hF
    refine Og.st_same_g (.agg (pkL (Wi.Pk.zero 0) (.slice none 0 0)).toArray) hF (by kernel_rfl) rfl (by decide) (build_zero rfl _) ?_
    clear hF a; intro a hF
    refine Og.st_call_g (f := 23) (args := #[.agg (pkL (Wi.Pk.zero 0) qv).toArray, .agg (pkL (Wi.Pk.zero 0) (.slice none 0 0)).toArray]) hF (by kernel_rfl) rfl (by decide) ((Og.exec_call rfl samePk_enter rfl _).trans (by kernel_rfl)) ((samePk_calls (Wi.Pk.zero_ok 0) hvq (RB.nil_ _)).out.mono ?_)
    rintro e w8 ⟨rfl, hb8⟩
    have hQ := hQ.below hb8
    have hr := hr.below hb8
    have hS := hS.below hb8
    have hvq := hvq.below hb8
    have hb := hb.trans (hb8.mono hAw)
    have hAw := Nat.le_trans hAw hb8.size
    refine ⟨_, rfl, ?_⟩
    clear hF a; intro a hF
    refine Og.st_same (.bool true) hF rfl rfl (by decide) (by kernel_rfl) ?_
    clear hF a; intro a hF
    refine Og.st_same (.bool true) hF rfl rfl (by decide) (by kernel_rfl) ?_
    clear hF a; intro a hF
    refine wpList_nil ?_
    refine hnext _ _ (wp_ret ?_)
    (try simp only [Exit.inBlock, Exit.then])
    refine bodyPost_ret (v := .bool true) ?_ hF.1 ?_
    · exact (results_tmp rfl _ _ _).trans (by rw [hF.2.2 2]; rfl)
    · exact ⟨rfl, by rw [hA]; exact hb⟩
end Go.Proofs.YtbgfoobcpacfeaaDoor
