/- The statement WirePacket: the walk. (Printed by wip/w7gen/mkrflaws.py.) -/
import Derived.Test.YtbgfoobcpacfeaaDoorPk8
import Derived.Test.YtbgfoobcpacfeaaDoorRfSt
namespace Go.Proofs.YtbgfoobcpacfeaaDoor
open Go.RowKit
set_option maxRecDepth 100000
set_option linter.unusedVariables false
set_option linter.unusedSimpArgs false

set_option maxHeartbeats 8000000 in
theorem wirePacket_calls {w : World} {pv : Value} {p : Wi.Pk} (hp : p.Ok) (hr : RB w pv p.data) (hS : Szs w) (hC : Cars w) (h5 : Fives w) : Pur Tryd.prog 4 #[.agg (pkL p pv).toArray] w (.bool true) := by
  unfold Pur
  obtain ⟨dp0, dc0, hpv0⟩ := hr.form
  have hone : pv.oneCell' = true := by rw [hpv0]; rfl
  clear hpv0 dp0 dc0
  have hr0 : p.data ≠ [] → ∀ g, pv.ownBlock = some g → g < w.heap.size := fun h g e => hr.block h g e
  have hlt3 : 3 < w.heap.size := hS.1
  have hP : PkAt (w.alloc (.cells (pkL p pv).toArray 34)) w.heap.size p pv := heap_new w _ _ rfl
  have hb := below_alloc1 w (.cells (pkL p pv).toArray 34)
  have hs1 : (w.alloc (.cells (pkL p pv).toArray 34)).heap.size = w.heap.size + 1 := by simp
  replace hr := hr.below hb
  replace hS := hS.below hb
  replace hC := Lies.below hC hb
  replace h5 := Lies.below h5 hb
  generalize hca : (pkL p pv).toArray = ca at hP hb hr hS hC h5 hs1 ⊢
  go_enter Tryd.func4, Tryd.ntmps4
  go_upto_region 1 with fail
  rename_i hnext
  rw [← hca] at *
  clear hca
  generalize w.alloc (.cells (pkL p pv).toArray 34) = w1 at *
  generalize hA : w.heap.size = A at *
  refine wp_region_lit ?_
  refine Og.st_start (n := 75) rfl fun a hF => ?_
  refine Og.st_same (.agg (pkL p pv).toArray) hF rfl rfl (by decide) (Og.exec_load rfl (load_pk hP hp)) ?_
  clear hF a; intro a hF
  refine Og.st_val (w' := w1.alloc (.cells (pkL (Wi.Pk.zero 0) (.slice none 0 0)).toArray 34)) (.pointer (some ⟨w1.heap.size, 0, none⟩)) hF rfl rfl (by decide) (alloc_pk rfl w1) ?_
  clear hF a; intro a hF
  have hz2 : PkAt (w1.alloc (.cells (pkL (Wi.Pk.zero 0) (.slice none 0 0)).toArray 34)) w1.heap.size (Wi.Pk.zero 0) (.slice none 0 0) := heap_new w1 _ _ rfl
  refine Og.st_skip (w' := (w1.alloc (.cells (pkL (Wi.Pk.zero 0) (.slice none 0 0)).toArray 34)).setCells w1.heap.size 0 (pkL p pv)) hF rfl rfl
    (exec_store (o := 0) (vs := pkL p pv) (cs := pkL (Wi.Pk.zero 0) (.slice none 0 0)) rfl rfl rfl hz2 (by rw [pkL_length (Wi.Pk.zero_ok 0), pkL_length hp]; decide) (by rw [pkL_length hp]; exact pk_i) (pkL_one p pv hone)) ?_
  clear hF a; intro a hF
  have hQ := PkAt.store hz2 0 _ p pv (set_all hp (Wi.Pk.zero_ok 0))
  have hb2 : Below w1.heap.size w1 ((w1.alloc (.cells (pkL (Wi.Pk.zero 0) (.slice none 0 0)).toArray 34)).setCells w1.heap.size 0 (pkL p pv)) :=
    (below_alloc1 w1 _).grown (setCells_grown _ w1.heap.size 0 _) (by simp) (fun k hk => by injection hk with hk; omega)
  generalize (w1.alloc (.cells (pkL (Wi.Pk.zero 0) (.slice none 0 0)).toArray 34)).setCells w1.heap.size 0 (pkL p pv) = w2 at *
  have hAw : A ≤ w1.heap.size := by omega
  replace hP := hP.below hb2
  replace hr := hr.below hb2
  replace hS := hS.below hb2
  replace hC := Lies.below hC hb2
  replace h5 := Lies.below h5 hb2
  replace hb := hb.trans (hb2.mono hAw)
  replace hAw : A ≤ w2.heap.size := Nat.le_trans hAw hb2.size
  rw [hs1] at hQ hF
  clear hz2 hb2 hs1
  refine wpList_nil ?_
  obtain ⟨U, rfl⟩ := Og.Fr.lit_ex hF (fun U => ⟨#[U 0, .pointer (some ⟨A, 0, none⟩), .bool false, .pointer (some ⟨A + 1, 0, none⟩), U 4, U 5, U 6, U 7, U 8, U 9, U 10, U 11, U 12, U 13, U 14, U 15, U 16, U 17, U 18, U 19, U 20, U 21, U 22, U 23, U 24, U 25, U 26, U 27, U 28, U 29, U 30, U 31, U 32, U 33, U 34, U 35, U 36, U 37, U 38, U 39, U 40, U 41, U 42, U 43, U 44, U 45, U 46, U 47, U 48, U 49, U 50, U 51, U 52, U 53, U 54, U 55, U 56, U 57, U 58, U 59, U 60, U 61, U 62, U 63, U 64, U 65, U 66, U 67, U 68, U 69, U 70, U 71, U 72, U 73, U 74], []⟩) (by kernel_rfl)
  clear hF
  refine hnext _ _ ?_
  clear hnext
  go_upto_region 2 with fail
  rename_i hnext
  refine wp_region_lit ?_
  refine Og.st_start (n := 75) rfl fun a hF => ?_
  refine Og.st_same (.pointer (some ⟨A, 42, none⟩)) hF rfl rfl (by decide) (by kernel_rfl) ?_
  clear hF a; intro a hF
  refine Og.st_same (pv) hF rfl rfl (by decide) (Og.exec_load rfl (ld_pv hP hp hr)) ?_
  clear hF a; intro a hF
  have hA2 : A + 2 ≤ w2.heap.size := by have := hQ.lt; omega
  refine Og.st_call (f := 18) (args := #[pv]) hF rfl rfl (by decide) ((Og.exec_call rfl roomy_enter rfl _).trans (by kernel_rfl)) ((roomy_calls hr (by have := hp.data; omega)).mono ?_)
  rintro e w3 ⟨vf, rfl, hv, hb3⟩
  refine ⟨_, rfl, ?_⟩
  clear hF a; intro a hF
  have hvk := fun k e => hv.lt k e
  have hs23 := hb3.size
  replace hP := hP.below hb3
  replace hQ := hQ.below hb3
  replace hr := hr.below hb3
  replace hS := hS.below hb3
  replace hC := Lies.below hC hb3
  replace h5 := Lies.below h5 hb3
  replace hb := hb.trans (hb3.mono hAw)
  replace hAw := Nat.le_trans hAw hb3.size
  refine Og.st_same (vf) hF rfl rfl (by decide) (by kernel_rfl) ?_
  clear hF a; intro a hF
  refine wpList_nil ?_
  obtain ⟨U, rfl⟩ := Og.Fr.lit_ex hF (fun U => ⟨#[U 0, .pointer (some ⟨A, 0, none⟩), .bool false, .pointer (some ⟨A + 1, 0, none⟩), vf, U 5, U 6, U 7, U 8, U 9, U 10, U 11, U 12, U 13, U 14, U 15, U 16, U 17, U 18, U 19, U 20, U 21, U 22, U 23, U 24, U 25, U 26, U 27, U 28, U 29, U 30, U 31, U 32, U 33, U 34, U 35, U 36, U 37, U 38, U 39, U 40, U 41, U 42, U 43, U 44, U 45, U 46, U 47, U 48, U 49, U 50, U 51, U 52, U 53, U 54, U 55, U 56, U 57, U 58, U 59, U 60, U 61, U 62, U 63, U 64, U 65, U 66, U 67, U 68, U 69, U 70, U 71, U 72, U 73, U 74], []⟩) (by kernel_rfl)
  clear hF
  refine hnext _ _ ?_
  clear hnext
  go_upto_region 3 with fail
  rename_i hnext
  refine wp_region_lit ?_
  refine Og.st_start (n := 75) rfl fun a hF => ?_
  refine Og.st_same (vf) hF rfl rfl (by decide) (by kernel_rfl) ?_
  clear hF a; intro a hF
  refine Og.st_same (.pointer (some ⟨A, 42, none⟩)) hF rfl rfl (by decide) (by kernel_rfl) ?_
  clear hF a; intro a hF
  refine Og.st_same (pv) hF rfl rfl (by decide) (Og.exec_load rfl (ld_pv hP hp hr)) ?_
  clear hF a; intro a hF
  refine Og.st_call (f := 19) (args := #[vf, pv]) hF rfl rfl (by decide) ((Og.exec_call rfl given_enter rfl _).trans (by kernel_rfl)) ((given_calls hv hr).mono ?_)
  rintro e w3' ⟨gv, rfl, rfl, hg, hgk⟩
  refine ⟨_, rfl, ?_⟩
  clear hF a; intro a hF
  refine Og.st_same (.pointer (some ⟨A + 1, 42, none⟩)) hF rfl rfl (by decide) (by kernel_rfl) ?_
  clear hF a; intro a hF
  obtain ⟨gp, gc, hgf⟩ := hg.form
  have hone' : gv.oneCell' = true := by rw [hgf]; rfl
  have hgs := setCells_grown w3 (A + 1) 42 [gv]
  refine Og.st_skip (w' := w3.setCells (A + 1) 42 [gv]) hF rfl rfl
    (exec_store (o := 42) (vs := [gv]) (cs := pkL p pv) rfl rfl (by show gv.cells = _; rw [hgf]; rfl) hQ (by rw [pkL_length hp]; exact Nat.le_refl 43) (by kernel_rfl) (slice_one _ hone')) ?_
  clear hF a; intro a hF
  clear hgf
  replace hQ : PkAt (w3.setCells (A + 1) 42 [gv]) (A + 1) p gv := hQ.store 42 _ _ _ (set_data p pv gv p.data hp)
  replace hP : PkAt (w3.setCells (A + 1) 42 [gv]) A p pv := hP.grown hgs (fun e => by injection e; omega)
  replace hr := hr.grown hgs (fun h g e e' => by have := hr0 h g e; injection e'; omega)
  have hg0 : ∀ k, gv.ownBlock = some k → A + 2 ≤ k ∧ k < w3.heap.size := fun k e => by have := hvk k (hgk k e); omega
  replace hg := hg.grown hgs (fun h g e e' => by have := hg0 g e; injection e'; omega)
  replace hv := hv.kept hgs (fun g e e' => by have := hvk g e; injection e'; omega)
  replace hS := hS.grown hgs (fun e => by injection e; omega)
  replace hC := Lies.grown hC hgs (fun e => by injection e; omega)
  replace h5 := Lies.grown h5 hgs (fun e => by injection e; omega)
  replace hb := hb.grown hgs hAw (fun k hk => by injection hk; omega)
  replace hAw := Nat.le_trans hAw hgs.size
  have hsz : w3.heap.size ≤ (w3.setCells (A + 1) 42 [gv]).heap.size := hgs.size
  generalize w3.setCells (A + 1) 42 [gv] = w4 at *
  clear hgs
  refine wpList_nil ?_
  obtain ⟨U, rfl⟩ := Og.Fr.lit_ex hF (fun U => ⟨#[U 0, .pointer (some ⟨A, 0, none⟩), .bool false, .pointer (some ⟨A + 1, 0, none⟩), vf, U 5, U 6, U 7, U 8, U 9, U 10, U 11, U 12, U 13, U 14, U 15, U 16, U 17, U 18, U 19, U 20, U 21, U 22, U 23, U 24, U 25, U 26, U 27, U 28, U 29, U 30, U 31, U 32, U 33, U 34, U 35, U 36, U 37, U 38, U 39, U 40, U 41, U 42, U 43, U 44, U 45, U 46, U 47, U 48, U 49, U 50, U 51, U 52, U 53, U 54, U 55, U 56, U 57, U 58, U 59, U 60, U 61, U 62, U 63, U 64, U 65, U 66, U 67, U 68, U 69, U 70, U 71, U 72, U 73, U 74], []⟩) (by kernel_rfl)
  clear hF
  refine hnext _ _ ?_
  clear hnext
  go_upto_region 4 with fail
  rename_i hnext
  refine wp_region_lit ?_
  refine Og.st_start (n := 75) rfl fun a hF => ?_
  refine Og.st_same (.agg (pkL p gv).toArray) hF rfl rfl (by decide) (Og.exec_load rfl (load_pk hQ hp)) ?_
  clear hF a; intro a hF
  refine st_enc (p := p) (pv := gv) 21 22 20 23 24 5 6 hF hp hg hS rfl ?_
  clear hF a; intro a w5 bv' T hF ho hb5
  replace hP := hP.below hb5
  replace hQ := hQ.below hb5
  replace hr := hr.below hb5
  replace hg := hg.below hb5
  replace hv := hv.below hb5
  replace hS := hS.below hb5
  replace hC := Lies.below hC hb5
  replace h5 := Lies.below h5 hb5
  replace hb := hb.trans (hb5.mono hAw)
  replace hAw := Nat.le_trans hAw hb5.size
  have hok5 := fun k e => ho.lt k e
  have hs45 := hb5.size
  obtain ⟨U, rfl⟩ := Og.Fr.lit_ex hF (fun U => ⟨#[U 0, .pointer (some ⟨A, 0, none⟩), .bool false, .pointer (some ⟨A + 1, 0, none⟩), vf, bv', .int .i64 (Wi.packErr p), U 7, U 8, U 9, U 10, U 11, U 12, U 13, U 14, U 15, U 16, U 17, U 18, U 19, U 20, U 21, U 22, U 23, U 24, U 25, U 26, U 27, U 28, U 29, U 30, U 31, U 32, U 33, U 34, U 35, U 36, U 37, U 38, U 39, U 40, U 41, U 42, U 43, U 44, U 45, U 46, U 47, U 48, U 49, U 50, U 51, U 52, U 53, U 54, U 55, U 56, U 57, U 58, U 59, U 60, U 61, U 62, U 63, U 64, U 65, U 66, U 67, U 68, U 69, U 70, U 71, U 72, U 73, U 74], []⟩) (by kernel_rfl)
  clear hF hb5
  refine hnext _ _ ?_
  clear hnext
  go_upto_region 5 with fail
  rename_i hnext
  refine wp_region_lit ?_
  refine Og.st_start (n := 75) rfl fun a hF => ?_
  refine Og.st_same (.agg (pkL p pv).toArray) hF rfl rfl (by decide) (Og.exec_load rfl (load_pk hP hp)) ?_
  clear hF a; intro a hF
  refine st_renc (p := p) (pv := pv) 26 27 25 28 29 7 8 hF hp hr hC h5 rfl ?_
  clear hF a; intro a w6 cv T hF hoc hb6
  replace hP := hP.below hb6
  replace hQ := hQ.below hb6
  replace hr := hr.below hb6
  replace hg := hg.below hb6
  replace hv := hv.below hb6
  replace hS := hS.below hb6
  replace hC := Lies.below hC hb6
  replace h5 := Lies.below h5 hb6
  replace ho := ho.below hb6
  replace hb := hb.trans (hb6.mono hAw)
  replace hAw := Nat.le_trans hAw hb6.size
  have hoc5 := fun k e => hoc.lt k e
  have hs56 := hb6.size
  generalize hbs : Wi.packOut p = bs at *
  generalize her : Wi.packErr p = er at *
  obtain ⟨U, rfl⟩ := Og.Fr.lit_ex hF (fun U => ⟨#[U 0, .pointer (some ⟨A, 0, none⟩), .bool false, .pointer (some ⟨A + 1, 0, none⟩), vf, bv', .int .i64 er, cv, .int .i64 er, U 9, U 10, U 11, U 12, U 13, U 14, U 15, U 16, U 17, U 18, U 19, U 20, U 21, U 22, U 23, U 24, U 25, U 26, U 27, U 28, U 29, U 30, U 31, U 32, U 33, U 34, U 35, U 36, U 37, U 38, U 39, U 40, U 41, U 42, U 43, U 44, U 45, U 46, U 47, U 48, U 49, U 50, U 51, U 52, U 53, U 54, U 55, U 56, U 57, U 58, U 59, U 60, U 61, U 62, U 63, U 64, U 65, U 66, U 67, U 68, U 69, U 70, U 71, U 72, U 73, U 74], []⟩) (by kernel_rfl)
  clear hF hb6
  refine hnext _ _ ?_
  clear hnext
  go_upto_region 6 with fail
  rename_i hnext
  refine wp_region_lit ?_
  refine Og.st_start (n := 75) rfl fun a hF => ?_
  refine Og.st_same (.int .i64 er) hF rfl rfl (by decide) (by kernel_rfl) ?_
  clear hF a; intro a hF
  refine Og.st_call (f := 17) (args := #[.int .i64 er]) hF rfl rfl (by decide) ((Og.exec_call rfl num_enter rfl _).trans (by kernel_rfl)) (((num_same _ er).out).mono ?_)
  rintro e w6' ⟨rfl, rfl⟩
  refine ⟨_, rfl, ?_⟩
  clear hF a; intro a hF
  refine Og.st_same (.int .i64 er) hF rfl rfl (by decide) (by kernel_rfl) ?_
  clear hF a; intro a hF
  refine Og.st_call (f := 17) (args := #[.int .i64 er]) hF rfl rfl (by decide) ((Og.exec_call rfl num_enter rfl _).trans (by kernel_rfl)) (((num_same _ er).out).mono ?_)
  rintro e w6' ⟨rfl, rfl⟩
  refine ⟨_, rfl, ?_⟩
  clear hF a; intro a hF
  refine Og.st_same (.bool (er != er)) hF rfl rfl (by decide) (by kernel_rfl) ?_
  clear hF a; intro a hF
  rw [show (er != er) = false by simp] at hF
  refine Og.st_same (.bool false) hF rfl rfl (by decide) (by kernel_rfl) ?_
  clear hF a; intro a hF
  refine Og.st_same_g (bv') hF (by kernel_rfl) rfl (by decide) (by kernel_rfl) ?_
  clear hF a; intro a hF
  refine Og.st_same_g (cv) hF (by kernel_rfl) rfl (by decide) (by kernel_rfl) ?_
  clear hF a; intro a hF
  refine Og.st_call_g (f := 22) (args := #[bv', cv]) hF (by kernel_rfl) rfl (by decide) ((Og.exec_call rfl same_enter rfl _).trans (by kernel_rfl)) (((same_calls ho.rb hoc.rb).out).mono ?_)
  rintro e w7 ⟨rfl, hb7⟩
  refine ⟨_, rfl, ?_⟩
  clear hF a; intro a hF
  replace hP := hP.below hb7
  replace hQ := hQ.below hb7
  replace hr := hr.below hb7
  replace hg := hg.below hb7
  replace hv := hv.below hb7
  replace hS := hS.below hb7
  replace hC := Lies.below hC hb7
  replace h5 := Lies.below h5 hb7
  replace ho := ho.below hb7
  replace hoc := hoc.below hb7
  replace hb := hb.trans (hb7.mono hAw)
  replace hAw := Nat.le_trans hAw hb7.size
  have hs67 := hb7.size
  clear hb7
  refine Og.st_same_g (.bool false) hF (by kernel_rfl) rfl (by decide) (by kernel_rfl) ?_
  clear hF a; intro a hF
  refine Og.st_same (.bool false) hF rfl rfl (by decide) (by kernel_rfl) ?_
  clear hF a; intro a hF
  refine Og.st_same (.bool false) hF rfl rfl (by decide) (by kernel_rfl) ?_
  clear hF a; intro a hF
  refine Og.st_same_g (.agg (pkL p gv).toArray) hF (by kernel_rfl) rfl (by decide) (Og.exec_load rfl (load_pk hQ hp)) ?_
  clear hF a; intro a hF
  refine Og.st_same_g (.agg (pkL p pv).toArray) hF (by kernel_rfl) rfl (by decide) (Og.exec_load rfl (load_pk hP hp)) ?_
  clear hF a; intro a hF
  refine Og.st_call_g (f := 23) (args := #[.agg (pkL p gv).toArray, .agg (pkL p pv).toArray]) hF (by kernel_rfl) rfl (by decide) ((Og.exec_call rfl samePk_enter rfl _).trans (by kernel_rfl)) (((samePk_calls hp hg hr).out).mono ?_)
  rintro e w8 ⟨rfl, hb8⟩
  refine ⟨_, rfl, ?_⟩
  clear hF a; intro a hF
  replace hP := hP.below hb8
  replace hQ := hQ.below hb8
  replace hr := hr.below hb8
  replace hg := hg.below hb8
  replace hv := hv.below hb8
  replace hS := hS.below hb8
  replace hC := Lies.below hC hb8
  replace h5 := Lies.below h5 hb8
  replace ho := ho.below hb8
  replace hoc := hoc.below hb8
  replace hb := hb.trans (hb8.mono hAw)
  replace hAw := Nat.le_trans hAw hb8.size
  have hs78 := hb8.size
  clear hb8
  refine Og.st_same_g (.bool false) hF (by kernel_rfl) rfl (by decide) (by kernel_rfl) ?_
  clear hF a; intro a hF
  refine Og.st_same (.bool false) hF rfl rfl (by decide) (by kernel_rfl) ?_
  clear hF a; intro a hF
  refine Og.st_same (.bool false) hF rfl rfl (by decide) (by kernel_rfl) ?_
  clear hF a; intro a hF
  refine Og.st_same_g (vf) hF (by kernel_rfl) rfl (by decide) (by kernel_rfl) ?_
  clear hF a; intro a hF
  refine Og.st_same_g (.pointer (some ⟨A, 42, none⟩)) hF (by kernel_rfl) rfl (by decide) (by kernel_rfl) ?_
  clear hF a; intro a hF
  refine Og.st_same_g (pv) hF (by kernel_rfl) rfl (by decide) (Og.exec_load rfl (ld_pv hP hp hr)) ?_
  clear hF a; intro a hF
  refine Og.st_call_g (f := 24) (args := #[vf, pv]) hF (by kernel_rfl) rfl (by decide) ((Og.exec_call rfl untouched_enter rfl _).trans (by kernel_rfl)) (((untouched_calls hv hr).out).mono ?_)
  rintro e w9 ⟨rfl, hb9⟩
  refine ⟨_, rfl, ?_⟩
  clear hF a; intro a hF
  replace hP := hP.below hb9
  replace hQ := hQ.below hb9
  replace hr := hr.below hb9
  replace hg := hg.below hb9
  replace hv := hv.below hb9
  replace hS := hS.below hb9
  replace hC := Lies.below hC hb9
  replace h5 := Lies.below h5 hb9
  replace ho := ho.below hb9
  replace hoc := hoc.below hb9
  replace hb := hb.trans (hb9.mono hAw)
  replace hAw := Nat.le_trans hAw hb9.size
  have hs89 := hb9.size
  clear hb9
  refine Og.st_same_g (.bool false) hF (by kernel_rfl) rfl (by decide) (by kernel_rfl) ?_
  clear hF a; intro a hF
  refine Og.st_same (.bool false) hF rfl rfl (by decide) (by kernel_rfl) ?_
  clear hF a; intro a hF
  refine wpList_nil ?_
  obtain ⟨U, rfl⟩ := Og.Fr.lit_ex hF (fun U => ⟨#[U 0, .pointer (some ⟨A, 0, none⟩), .bool false, .pointer (some ⟨A + 1, 0, none⟩), vf, bv', .int .i64 er, cv, .int .i64 er, U 9, U 10, U 11, U 12, U 13, U 14, U 15, U 16, U 17, U 18, U 19, U 20, U 21, U 22, U 23, U 24, U 25, U 26, U 27, U 28, U 29, U 30, U 31, U 32, U 33, U 34, U 35, U 36, U 37, U 38, U 39, U 40, U 41, U 42, U 43, U 44, U 45, U 46, U 47, U 48, U 49, U 50, U 51, U 52, .bool false, U 54, U 55, U 56, U 57, U 58, U 59, U 60, U 61, U 62, U 63, U 64, U 65, U 66, U 67, U 68, U 69, U 70, U 71, U 72, U 73, U 74], []⟩) (by kernel_rfl)
  clear hF
  refine hnext _ _ ?_
  clear hnext
  go_upto_region 8 with fail
  rename_i hnext
  refine wp_region_lit ?_
  refine Og.st_start (n := 75) rfl fun a hF => ?_
  refine Og.st_same (bv') hF rfl rfl (by decide) (by kernel_rfl) ?_
  clear hF a; intro a hF
  refine Og.st_call (f := 25) (args := #[bv']) hF rfl rfl (by decide) ((Og.exec_call rfl spoil_enter rfl _).trans (by kernel_rfl)) ((spoil_calls ho).mono ?_)
  rintro e w10 ⟨rfl, -, hg10⟩
  refine ⟨_, rfl, ?_⟩
  clear hF a; intro a hF
  have hne : ∀ k, k < w4.heap.size → bv'.ownBlock ≠ some k := fun k hk e => by have := (hok5 k e).1; omega
  replace hP := hP.grown hg10 (hne A (by omega))
  replace hQ := hQ.grown hg10 (hne (A + 1) (by omega))
  replace hr := hr.grown hg10 (fun h g e => hne g (by have := hr0 h g e; omega))
  replace hg := hg.grown hg10 (fun h g e => hne g (by have := hg0 g e; omega))
  replace hS := hS.grown hg10 (hne 3 (by omega))
  replace hC := Lies.grown hC hg10 (hne 2 (by omega))
  replace h5 := Lies.grown h5 hg10 (hne 1 (by omega))
  replace hoc := hoc.kept hg10 (fun g e e' => by have := (hoc5 g e).1; have := (hok5 g e').2; omega)
  replace hb := hb.grown hg10 hAw (fun k hk => by have := (hok5 k hk).1; omega)
  replace hAw := Nat.le_trans hAw hg10.size
  clear hg10 ho hv
  refine wpList_nil ?_
  obtain ⟨U, rfl⟩ := Og.Fr.lit_ex hF (fun U => ⟨#[U 0, .pointer (some ⟨A, 0, none⟩), .bool false, .pointer (some ⟨A + 1, 0, none⟩), U 4, U 5, U 6, cv, .int .i64 er, U 9, U 10, U 11, U 12, U 13, U 14, U 15, U 16, U 17, U 18, U 19, U 20, U 21, U 22, U 23, U 24, U 25, U 26, U 27, U 28, U 29, U 30, U 31, U 32, U 33, U 34, U 35, U 36, U 37, U 38, U 39, U 40, U 41, U 42, U 43, U 44, U 45, U 46, U 47, U 48, U 49, U 50, U 51, U 52, U 53, U 54, U 55, U 56, U 57, U 58, U 59, U 60, U 61, U 62, U 63, U 64, U 65, U 66, U 67, U 68, U 69, U 70, U 71, U 72, U 73, U 74], []⟩) (by kernel_rfl)
  clear hF
  refine hnext _ _ ?_
  clear hnext
  go_upto_region 9 with fail
  rename_i hnext
  refine wp_region_lit ?_
  refine Og.st_start (n := 75) rfl fun a hF => ?_
  refine Og.st_same (.agg (pkL p gv).toArray) hF rfl rfl (by decide) (Og.exec_load rfl (load_pk hQ hp)) ?_
  clear hF a; intro a hF
  refine Og.st_same (.agg (pkL p pv).toArray) hF rfl rfl (by decide) (Og.exec_load rfl (load_pk hP hp)) ?_
  clear hF a; intro a hF
  refine Og.st_call (f := 23) (args := #[.agg (pkL p gv).toArray, .agg (pkL p pv).toArray]) hF rfl rfl (by decide) ((Og.exec_call rfl samePk_enter rfl _).trans (by kernel_rfl)) (((samePk_calls hp hg hr).out).mono ?_)
  rintro e w11 ⟨rfl, hb11⟩
  refine ⟨_, rfl, ?_⟩
  clear hF a; intro a hF
  replace hP := hP.below hb11
  replace hQ := hQ.below hb11
  replace hr := hr.below hb11
  replace hg := hg.below hb11
  replace hS := hS.below hb11
  replace hC := Lies.below hC hb11
  replace h5 := Lies.below h5 hb11
  replace hoc := hoc.below hb11
  replace hb := hb.trans (hb11.mono hAw)
  replace hAw := Nat.le_trans hAw hb11.size
  clear hb11
  refine Og.st_same (.bool false) hF rfl rfl (by decide) (by kernel_rfl) ?_
  clear hF a; intro a hF
  refine wpList_nil ?_
  obtain ⟨U, rfl⟩ := Og.Fr.lit_ex hF (fun U => ⟨#[U 0, .pointer (some ⟨A, 0, none⟩), .bool false, .pointer (some ⟨A + 1, 0, none⟩), U 4, U 5, U 6, cv, .int .i64 er, U 9, U 10, U 11, U 12, U 13, U 14, U 15, U 16, U 17, U 18, U 19, U 20, U 21, U 22, U 23, U 24, U 25, U 26, U 27, U 28, U 29, U 30, U 31, U 32, U 33, U 34, U 35, U 36, U 37, U 38, U 39, U 40, U 41, U 42, U 43, U 44, U 45, U 46, U 47, U 48, U 49, U 50, U 51, U 52, U 53, U 54, U 55, U 56, U 57, U 58, .bool false, U 60, U 61, U 62, U 63, U 64, U 65, U 66, U 67, U 68, U 69, U 70, U 71, U 72, U 73, U 74], []⟩) (by kernel_rfl)
  clear hF
  refine hnext _ _ ?_
  clear hnext
  go_upto_region 11 with fail
  rename_i hnext
  refine wp_region_lit ?_
  refine Og.st_start (n := 75) rfl fun a hF => ?_
  refine Og.st_same (.agg (pkL p gv).toArray) hF rfl rfl (by decide) (Og.exec_load rfl (load_pk hQ hp)) ?_
  clear hF a; intro a hF
  refine st_enc (p := p) (pv := gv) 61 62 60 63 64 9 10 hF hp hg hS rfl ?_
  rw [hbs, her]
  clear hF a; intro a w12 dv T hF hod hb12
  replace hoc := hoc.below hb12
  replace hb := hb.trans (hb12.mono hAw)
  replace hAw := Nat.le_trans hAw hb12.size
  obtain ⟨U, rfl⟩ := Og.Fr.lit_ex hF (fun U => ⟨#[U 0, U 1, .bool false, U 3, U 4, U 5, U 6, cv, .int .i64 er, dv, .int .i64 er, U 11, U 12, U 13, U 14, U 15, U 16, U 17, U 18, U 19, U 20, U 21, U 22, U 23, U 24, U 25, U 26, U 27, U 28, U 29, U 30, U 31, U 32, U 33, U 34, U 35, U 36, U 37, U 38, U 39, U 40, U 41, U 42, U 43, U 44, U 45, U 46, U 47, U 48, U 49, U 50, U 51, U 52, U 53, U 54, U 55, U 56, U 57, U 58, U 59, U 60, U 61, U 62, U 63, U 64, U 65, U 66, U 67, U 68, U 69, U 70, U 71, U 72, U 73, U 74], []⟩) (by kernel_rfl)
  clear hF hb12
  refine hnext _ _ ?_
  clear hnext
  go_upto_region 12 with fail
  rename_i hnext
  refine wp_region_lit ?_
  refine Og.st_start (n := 75) rfl fun a hF => ?_
  refine Og.st_same (.int .i64 er) hF rfl rfl (by decide) (by kernel_rfl) ?_
  clear hF a; intro a hF
  refine Og.st_call (f := 17) (args := #[.int .i64 er]) hF rfl rfl (by decide) ((Og.exec_call rfl num_enter rfl _).trans (by kernel_rfl)) (((num_same _ er).out).mono ?_)
  rintro e w6' ⟨rfl, rfl⟩
  refine ⟨_, rfl, ?_⟩
  clear hF a; intro a hF
  refine Og.st_same (.int .i64 er) hF rfl rfl (by decide) (by kernel_rfl) ?_
  clear hF a; intro a hF
  refine Og.st_call (f := 17) (args := #[.int .i64 er]) hF rfl rfl (by decide) ((Og.exec_call rfl num_enter rfl _).trans (by kernel_rfl)) (((num_same _ er).out).mono ?_)
  rintro e w6' ⟨rfl, rfl⟩
  refine ⟨_, rfl, ?_⟩
  clear hF a; intro a hF
  refine Og.st_same (.bool (er == er)) hF rfl rfl (by decide) (by kernel_rfl) ?_
  clear hF a; intro a hF
  rw [show (er == er) = true by simp] at hF
  refine Og.st_same (.bool true) hF rfl rfl (by decide) (by kernel_rfl) ?_
  clear hF a; intro a hF
  refine Og.st_same_g (dv) hF (by kernel_rfl) rfl (by decide) (by kernel_rfl) ?_
  clear hF a; intro a hF
  refine Og.st_same_g (cv) hF (by kernel_rfl) rfl (by decide) (by kernel_rfl) ?_
  clear hF a; intro a hF
  refine Og.st_call_g (f := 22) (args := #[dv, cv]) hF (by kernel_rfl) rfl (by decide) ((Og.exec_call rfl same_enter rfl _).trans (by kernel_rfl)) (((same_calls hod.rb hoc.rb).out).mono ?_)
  rintro e w13 ⟨rfl, hb13⟩
  refine ⟨_, rfl, ?_⟩
  clear hF a; intro a hF
  refine Og.st_same (.bool true) hF rfl rfl (by decide) (by kernel_rfl) ?_
  clear hF a; intro a hF
  refine Og.st_same (.bool true) hF rfl rfl (by decide) (by kernel_rfl) ?_
  clear hF a; intro a hF
  refine wpList_nil ?_
  refine hnext _ _ (wp_ret ?_)
  (try simp only [Exit.inBlock, Exit.then])
  refine bodyPost_ret (v := .bool true) ?_ hF.1 ?_
  · exact (results_tmp rfl _ _ _).trans (by rw [hF.2.2 2]; rfl)
  · refine ⟨rfl, ?_⟩
    (try rw [hA])
    exact hb.trans (hb13.mono hAw)
end Go.Proofs.YtbgfoobcpacfeaaDoor
