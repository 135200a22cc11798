/- The statement WireParse: the walk. (Printed by wip/w7gen/mkrflaws.py.) -/
import Derived.Test.YtbgfoobcpacfeaaDoorPk8
import Derived.Test.YtbgfoobcpacfeaaDoorRfSt
namespace Go.Proofs.YtbgfoobcpacfeaaDoor
open Go.RowKit
set_option maxRecDepth 100000
set_option linter.unusedVariables false
set_option linter.unusedSimpArgs false

set_option maxHeartbeats 8000000 in
theorem wireParse_calls {w : World} {v : Value} {l : List UInt8} (hr : RB w v l) (hl : l.length + 40 ≤ 140737488355328) (hS : Szs w) (hC : Cars w) (h5 : Fives w) : Pur Tryd.prog 5 #[v] w (.bool true) := by
  unfold Pur
  generalize hA : w.heap.size = A at *
  go_enter Tryd.func5, Tryd.ntmps5
  go_upto_region 1 with fail
  rename_i hnext
  refine wp_region_lit ?_
  refine Og.st_start (n := 47) rfl fun a hF => ?_
  refine Og.st_same (v) hF rfl rfl (by decide) (by kernel_rfl) ?_
  clear hF a; intro a hF
  refine Og.st_call (f := 18) (args := #[v]) hF rfl rfl (by decide) ((Og.exec_call rfl roomy_enter rfl _).trans (by kernel_rfl)) ((roomy_calls hr hl).mono ?_)
  rintro e w1 ⟨vf, rfl, hv, hb⟩
  refine ⟨_, rfl, ?_⟩
  clear hF a; intro a hF
  rw [hA] at hv
  have hvk := fun k e => hv.lt k e
  have hr1 := hr.below hb
  have hS1 := hS.below hb
  have hC1 : Cars w1 := Lies.below hC hb
  have h51 : Fives w1 := Lies.below h5 hb
  have hA1 : A ≤ w1.heap.size := by rw [← hA]; exact hb.size
  rw [hA] at hb
  refine Og.st_same (vf) hF rfl rfl (by decide) (by kernel_rfl) ?_
  clear hF a; intro a hF
  refine wpList_nil ?_
  obtain ⟨U, rfl⟩ := Og.Fr.lit_ex hF (fun U => ⟨#[v, U 1, .bool false, vf, U 4, U 5, U 6, U 7, U 8, U 9, U 10, U 11, U 12, U 13, U 14, U 15, U 16, U 17, U 18, U 19, U 20, U 21, U 22, U 23, U 24, U 25, U 26, U 27, U 28, U 29, U 30, U 31, U 32, U 33, U 34, U 35, U 36, U 37, U 38, U 39, U 40, U 41, U 42, U 43, U 44, U 45, U 46], []⟩) (by kernel_rfl)
  clear hF
  refine hnext _ _ ?_
  clear hnext
  go_upto_region 2 with fail
  rename_i hnext
  refine wp_region_lit ?_
  refine Og.st_start (n := 47) rfl fun a hF => ?_
  refine Og.st_same (vf) hF rfl rfl (by decide) (by kernel_rfl) ?_
  clear hF a; intro a hF
  refine Og.st_same (v) hF rfl rfl (by decide) (by kernel_rfl) ?_
  clear hF a; intro a hF
  refine Og.st_call (f := 19) (args := #[vf, v]) hF rfl rfl (by decide) ((Og.exec_call rfl given_enter rfl _).trans (by kernel_rfl)) ((given_calls hv hr1).mono ?_)
  rintro e w1' ⟨gv, rfl, rfl, hgv, hgk⟩
  refine ⟨_, rfl, ?_⟩
  clear hF a; intro a hF
  have hok := Wi.unpack_ok l
  refine st_dec (l := l) 15 16 12 17 18 19 4 5 6 hF hgv hS1 rfl ?_ hok
  clear hF a; intro a w2 D qv T hF hD hqv hb2 hDk _
  have hA2 := Nat.le_trans hA1 hb2.size
  have hv2 := hv.below hb2
  have hr2 := hr1.below hb2
  have hC2 : Cars w2 := Lies.below hC1 hb2
  have h52 : Fives w2 := Lies.below h51 hb2
  replace hb := hb.trans (hb2.mono hA1)
  generalize hq : (Wi.unpack l).1 = q at *
  generalize hpl : (Wi.unpack l).2.1 = pl at *
  generalize her : (Wi.unpack l).2.2 = er at *
  obtain ⟨U, rfl⟩ := Og.Fr.lit_ex hF (fun U => ⟨#[v, U 1, .bool false, vf, .pointer (some ⟨D, 0, none⟩), .int .i64 pl, .int .i64 er, U 7, U 8, U 9, U 10, U 11, U 12, U 13, U 14, U 15, U 16, U 17, U 18, U 19, U 20, U 21, U 22, U 23, U 24, U 25, U 26, U 27, U 28, U 29, U 30, U 31, U 32, U 33, U 34, U 35, U 36, U 37, U 38, U 39, U 40, U 41, U 42, U 43, U 44, U 45, U 46], []⟩) (by kernel_rfl)
  clear hF hv hr1 hS1 hC1 h51 hgv hgk
  refine hnext _ _ ?_
  clear hnext
  go_upto_region 3 with fail
  rename_i hnext
  refine wp_region_lit ?_
  refine Og.st_start (n := 47) rfl fun a hF => ?_
  refine Og.st_same (v) hF rfl rfl (by decide) (by kernel_rfl) ?_
  clear hF a; intro a hF
  refine st_rdec (l := l) 21 22 20 23 24 25 7 8 9 hF hr2 hC2 h52 rfl ?_ (by rw [hq]; exact hok)
  rw [hq, hpl, her]
  clear hF a; intro a w3 E ev T hF hE hev hb3 hEk _
  have hA3 := Nat.le_trans hA2 hb3.size
  have hv3 := hv2.below hb3
  have hr3 := hr2.below hb3
  have hD3 := hD.below hb3
  have hqv3 := hqv.below hb3
  replace hb := hb.trans (hb3.mono hA2)
  obtain ⟨U, rfl⟩ := Og.Fr.lit_ex hF (fun U => ⟨#[v, U 1, .bool false, vf, .pointer (some ⟨D, 0, none⟩), .int .i64 pl, .int .i64 er, .pointer (some ⟨E, 0, none⟩), .int .i64 pl, .int .i64 er, U 10, U 11, U 12, U 13, U 14, U 15, U 16, U 17, U 18, U 19, U 20, U 21, U 22, U 23, U 24, U 25, U 26, U 27, U 28, U 29, U 30, U 31, U 32, U 33, U 34, U 35, U 36, U 37, U 38, U 39, U 40, U 41, U 42, U 43, U 44, U 45, U 46], []⟩) (by kernel_rfl)
  clear hF hv2 hr2 hC2 h52 hD hqv
  refine hnext _ _ ?_
  clear hnext
  go_upto_region 4 with fail
  rename_i hnext
  refine wp_region_lit ?_
  refine Og.st_start (n := 47) rfl fun a hF => ?_
  refine Og.st_same (.int .i64 er) hF rfl rfl (by decide) (by kernel_rfl) ?_
  clear hF a; intro a hF
  refine Og.st_call (f := 17) (args := #[.int .i64 er]) hF rfl rfl (by decide) ((Og.exec_call rfl num_enter rfl _).trans (by kernel_rfl)) (((num_same _ er).out).mono ?_)
  rintro e w3' ⟨rfl, rfl⟩
  refine ⟨_, rfl, ?_⟩
  clear hF a; intro a hF
  refine Og.st_same (.int .i64 er) hF rfl rfl (by decide) (by kernel_rfl) ?_
  clear hF a; intro a hF
  refine Og.st_call (f := 17) (args := #[.int .i64 er]) hF rfl rfl (by decide) ((Og.exec_call rfl num_enter rfl _).trans (by kernel_rfl)) (((num_same _ er).out).mono ?_)
  rintro e w3' ⟨rfl, rfl⟩
  refine ⟨_, rfl, ?_⟩
  clear hF a; intro a hF
  refine Og.st_same (.bool (er != er)) hF rfl rfl (by decide) (by kernel_rfl) ?_
  clear hF a; intro a hF
  rw [show (er != er) = false by simp] at hF
  refine Og.st_same (.bool false) hF rfl rfl (by decide) (by kernel_rfl) ?_
  clear hF a; intro a hF
  refine Og.st_same_g (.int .i64 pl) hF (by kernel_rfl) rfl (by decide) (by kernel_rfl) ?_
  clear hF a; intro a hF
  refine Og.st_same_g (.int .i64 pl) hF (by kernel_rfl) rfl (by decide) (by kernel_rfl) ?_
  clear hF a; intro a hF
  refine Og.st_same_g (.bool ((pl : Int) != (pl : Int))) hF (by kernel_rfl) rfl (by decide) (by kernel_rfl) ?_
  clear hF a; intro a hF
  rw [show ((pl : Int) != (pl : Int)) = false by simp] at hF
  refine Og.st_same (.bool false) hF rfl rfl (by decide) (by kernel_rfl) ?_
  clear hF a; intro a hF
  refine Og.st_same (.bool false) hF rfl rfl (by decide) (by kernel_rfl) ?_
  clear hF a; intro a hF
  refine Og.st_same_g (vf) hF (by kernel_rfl) rfl (by decide) (by kernel_rfl) ?_
  clear hF a; intro a hF
  refine Og.st_same_g (v) hF (by kernel_rfl) rfl (by decide) (by kernel_rfl) ?_
  clear hF a; intro a hF
  refine Og.st_call_g (f := 24) (args := #[vf, v]) hF (by kernel_rfl) rfl (by decide) ((Og.exec_call rfl untouched_enter rfl _).trans (by kernel_rfl)) (((untouched_calls hv3 hr3).out).mono ?_)
  rintro e w4 ⟨rfl, hb4⟩
  refine ⟨_, rfl, ?_⟩
  clear hF a; intro a hF
  have hA4 := Nat.le_trans hA3 hb4.size
  have hv4 := hv3.below hb4
  have hD4 := hD3.below hb4
  have hE4 := hE.below hb4
  have hqv4 := hqv3.below hb4
  have hev4 := hev.below hb4
  replace hb := hb.trans (hb4.mono hA3)
  clear hv3 hr3 hD3 hE hqv3
  refine Og.st_same_g (.bool false) hF (by kernel_rfl) rfl (by decide) (by kernel_rfl) ?_
  clear hF a; intro a hF
  refine Og.st_same (.bool false) hF rfl rfl (by decide) (by kernel_rfl) ?_
  clear hF a; intro a hF
  refine wpList_nil ?_
  obtain ⟨U, rfl⟩ := Og.Fr.lit_ex hF (fun U => ⟨#[U 0, U 1, .bool false, vf, .pointer (some ⟨D, 0, none⟩), U 5, U 6, .pointer (some ⟨E, 0, none⟩), U 8, U 9, U 10, U 11, U 12, U 13, U 14, U 15, U 16, U 17, U 18, U 19, U 20, U 21, U 22, U 23, U 24, U 25, U 26, U 27, U 28, U 29, U 30, U 31, U 32, U 33, U 34, U 35, U 36, U 37, U 38, U 39, U 40, .bool false, U 42, U 43, U 44, U 45, U 46], []⟩) (by kernel_rfl)
  clear hF
  refine hnext _ _ ?_
  clear hnext
  go_upto_region 6 with fail
  rename_i hnext
  refine wp_region_lit ?_
  refine Og.st_start (n := 47) rfl fun a hF => ?_
  refine Og.st_same (vf) hF rfl rfl (by decide) (by kernel_rfl) ?_
  clear hF a; intro a hF
  refine Og.st_call (f := 25) (args := #[vf]) hF rfl rfl (by decide) ((Og.exec_call rfl spoil_enter rfl _).trans (by kernel_rfl)) ((spoil_calls hv4).mono ?_)
  rintro e w5 ⟨rfl, -, hg5⟩
  refine ⟨_, rfl, ?_⟩
  clear hF a; intro a hF
  have hD5 := blk_grown hD4 hg5 (fun e => by have := hvk _ e; omega)
  have hE5 := blk_grown hE4 hg5 (fun e => by have := hvk _ e; have := hb2.size; omega)
  have hqv5 := hqv4.kept hg5 (fun g e e' => by have := hvk _ e'; have := (hqv4.lt g e).1; omega)
  have hev5 := hev4.kept hg5 (fun g e e' => by have := hvk _ e'; have := (hev4.lt g e).1; have := hb2.size; omega)
  replace hb := hb.grown hg5 hA4 (fun k hk => (hvk k hk).1)
  refine wpList_nil ?_
  obtain ⟨U, rfl⟩ := Og.Fr.lit_ex hF (fun U => ⟨#[U 0, U 1, .bool false, U 3, .pointer (some ⟨D, 0, none⟩), U 5, U 6, .pointer (some ⟨E, 0, none⟩), U 8, U 9, U 10, U 11, U 12, U 13, U 14, U 15, U 16, U 17, U 18, U 19, U 20, U 21, U 22, U 23, U 24, U 25, U 26, U 27, U 28, U 29, U 30, U 31, U 32, U 33, U 34, U 35, U 36, U 37, U 38, U 39, U 40, U 41, U 42, U 43, U 44, U 45, U 46], []⟩) (by kernel_rfl)
  clear hF
  refine hnext _ _ ?_
  clear hnext
  go_upto_region 7 with fail
  rename_i hnext
  refine wp_region_lit ?_
  refine Og.st_start (n := 47) rfl fun a hF => ?_
  refine Og.st_same (.agg (pkL q qv).toArray) hF rfl rfl (by decide) (Og.exec_load rfl (load_pk hD5 hok)) ?_
  clear hF a; intro a hF
  refine Og.st_same (.agg (pkL q ev).toArray) hF rfl rfl (by decide) (Og.exec_load rfl (load_pk hE5 hok)) ?_
  clear hF a; intro a hF
  refine Og.st_call (f := 23) (args := #[.agg (pkL q qv).toArray, .agg (pkL q ev).toArray]) hF rfl rfl (by decide) ((Og.exec_call rfl samePk_enter rfl _).trans (by kernel_rfl)) (((samePk_calls hok hqv5.rb hev5.rb).out).mono ?_)
  rintro e w6 ⟨rfl, hb6⟩
  refine ⟨_, rfl, ?_⟩
  clear hF a; intro a hF
  refine Og.st_same (.bool true) hF rfl rfl (by decide) (by kernel_rfl) ?_
  clear hF a; intro a hF
  refine wpList_nil ?_
  refine hnext _ _ (wp_ret ?_)
  (try simp only [Exit.inBlock, Exit.then])
  refine bodyPost_ret (v := .bool true) ?_ hF.1 ?_
  · exact (results_tmp rfl _ _ _).trans (by rw [hF.2.2 2]; rfl)
  · refine ⟨rfl, ?_⟩
    have hA5 := hb.size
    rw [hA] at hA5
    exact hb.trans (hb6.mono hA5)
end Go.Proofs.YtbgfoobcpacfeaaDoor
